/-
  The table in which norm.Use is given.
-/
import Derived.Test.YtjpfkfldiijgmaaGreatDoorZzkW
import Derived.Test.YtjpfkfldiijgmaaGreatDoorZzkTb
import Derived.Test.YtjpfkfldiijgmaaGreatDoorZNe
set_option linter.all false
set_option maxRecDepth 100000
namespace Go.Ev.jJ
open Go.Proofs (Tryz.prog)
noncomputable def T2 (f:Nat):yF:=TW sB f
theorem bAq (G:List Row→Option (List Row)):a5K G=(a5K vA).set 16 (.given [.agg (full ksL 29),aM4] [.agg (full ksL 29),.one .bool] G):=rfl
theorem a8D {f:Nat} (h:f≠16) (G:List Row→Option (List Row)):TW G f=T f:=by
 show aTD (a5K G) gl f=aTD (a5K vA) gl f
 unfold aTD
 split
 ·rw[bAq G,List.getD_eq_getElem?_getD,List.getElem?_set_ne (fun e=>h e.symm),List.getD_eq_getElem?_getD]
 ·rfl
theorem bEq:T 16= .given [.agg (full ksL 29),aM4] [.agg (full ksL 29),.one .bool] vA:=rfl
theorem bEr (f:Nat):(T2 f).sig=(T f).sig:=by
 by_cases h:f=16
 ·subst h;rfl
 ·show (TW sB f).sig=_
  rw[a8D h]
theorem a4t (g:Nat):T2 (xZ+g)=T (xZ+g):=a8D (by unfold xZ;omega) sB
theorem aZJ {P:Program} {T T':Nat→yF} (hT:∀f,(T f).sig=(T' f).sig) {S:xA} {k:K} {v:Value} {c:C} (h:oO P T S k v c):oO P T' S k v c:=by
 induction h with
 |int=>exact .int
 |bool=>exact .bool
 |str=>exact .str
 |bA=>exact .bA
 |sl f h1 h2 h3 h4 h5 h6 _ ih=>exact .sl f h1 h2 h3 h4 h5 h6 ih
 |aNd=>exact .aNd
 |fn vs h1 h2 _ ih=>
  obtain ⟨pt,rt,v,ps,rs,a1,a2,a3,a4⟩:=h1
  exact .fn vs ⟨pt,rt,v,ps,rs,a1,a2,a3,by rw[←hT];exact a4⟩ h2 ih
 |ref f h1 h2 h3 h4 _ ih=>exact .ref f h1 h2 h3 h4 ih
 |aTu=>exact .aTu
 |aYE=>exact .aYE
 |anyI=>exact .anyI
theorem a8E {P:Program} {T T':Nat→yF} (hT:∀f,(T f).sig=(T' f).sig) {S:xA} {l:L} {v:Value} {row:Row} (h:zE P T S l v row):zE P T' S l v row:=by
 cases l with
 |one k=>obtain ⟨c,hc,hr⟩:=h;exact ⟨c,hc,aZJ hT hr⟩
 |agg ks=>obtain ⟨cs,hc,hr⟩:=h;exact ⟨cs,hc,hr.sL,hr.aB1,fun j k hk=>aZJ hT (hr.cell j k hk)⟩
theorem a1b {P:Program} {T T':Nat→yF} (hT:∀f,(T f).sig=(T' f).sig) {S:xA} {ps:List L} {vs:List Value} {rows:List Row} (h:cE P T S ps vs rows):cE P T' S ps vs rows:=
 ⟨h.aNw,h.aB1,fun i l hi=>a8E hT (h.arg i l hi)⟩
theorem bEs:aIA Tryz.prog T2 16 [.agg (full ksL 29),aM4] [.agg (full ksL 29),.one .bool] sB:=by
 intro rows out h S w vs hin hg hz ha
 have hs:∀f,(T2 f).sig=(T f).sig:=bEr
 have hg':qO Tryz.prog T S:=fun g t l row e=>aZJ hs (hg g t l row ((a4t g).trans e))
 have hz':fN T w:=fun g t l row e=>hz g t l row ((a4t g).trans e)
 obtain ⟨a,b,rfl⟩:∃a b,vs=[a,b]:=by
  match vs,ha.aNw with
  |[a,b],_=>exact ⟨a,b,rfl⟩
 refine ⟨Go.Proofs.enters_of Go.Proofs.Tryz.func16 (by kernel_rfl) rfl .., ?_⟩
 refine (a5L (fun v hv=>aH0 v hv) (fun l hl=>aH1 l hl) rows out h S w [a,b] hin hg' hz' (a1b hs ha)).mono ?_
 rintro e w' ⟨out',S',e1,e2,e3,e4⟩
 exact ⟨out',S',e1,e2,e3,a1b (fun f=>(hs f).symm) e4⟩
theorem bEt:aIA Go.Proofs.Tryz.prog T2 59 [.one (.int .i64)] [.one .str] aXZ:=aVm (f:=59) (g:=3) (t:=204) (l:=(.agg [.int .u64,.int .u64,.int .u64,.int .u64,.int .u64,.int .u64,.int .u64,.int .u64,.int .u64,.int .u64,.int .u64,.int .u64,.int .u64,.int .u64,.int .u64,.int .u64,.int .u64,.int .u64,.int .u64,.int .u64])) (row:=gF) (Go.Proofs.enters_of Go.Proofs.Tryz.func59 (by kernel_rfl) rfl) rfl (by kernel_rfl) (zB (by kernel_rfl)) (by kernel_rfl) (by kernel_rfl) (fun n h0 h1 w ht=>Go.Proofs.Tryz.strconv_Itoa n h0 h1 w ht)
theorem bEu:a0Q Go.Proofs.Tryz.prog T2:=aXX ⟨trivial,trivial,trivial,bG8 sB,bG9 sB,bHa sB,bHb sB,bHc sB,bHd sB,bHe sB,bBl sB,bBm sB,bBn sB,bBo sB,bBp sB,bBq sB,bEs,bBr sB,bBs sB,bBt sB,bBu sB,bBv sB,bBw sB,bBx sB,bBy sB,bBz sB,bBA sB,bBB sB,bBC sB,bBD sB,bBE sB,bBF sB,bBG sB,bBH sB,bBI sB,bBJ sB,bBK sB,bBL sB,bBM sB,bBN sB,trivial,bBO sB,bBP sB,trivial,bBQ sB,bBR sB,bBS sB,bBT sB,bBU sB,bBV sB,bBW sB,bBX sB,bBY sB,bBZ sB,bB0 sB,bB1 sB,trivial,bB2 sB,bB3 sB,bEt,trivial,bB4 sB,bB5 sB,bB6 sB,bB7 sB,bB8 sB,bB9 sB,bCa sB,bCb sB,bCc sB,bCd sB,bCe sB,bCf sB,bCg sB,bCh sB,bCi sB,bCj sB,bCk sB,bCl sB,bCm sB,bCn sB,trivial,bCo sB,trivial,bCp sB,bCq sB,bCr sB,bCs sB,bCt sB,trivial,bCu sB,trivial,trivial,bCv sB,bCw sB,bCx sB,bCy sB,bCz sB,bCA sB,bCB sB,a7G sB,trivial,a7E,a7H sB,trivial,a7I sB,a7F,a7J sB,a7K sB,a7L sB,a7M sB,trivial,a7N sB,a7O sB,a7P sB,trivial,trivial,trivial,trivial,a7Q sB,trivial,trivial,trivial,trivial,trivial,a7R sB,a7S sB,trivial,a7T sB,a7U sB,trivial,trivial,trivial,trivial,trivial,trivial,trivial,a7V sB,trivial,trivial,trivial,trivial,trivial,trivial,trivial,trivial,trivial,trivial,trivial,trivial,trivial,trivial,trivial,trivial,trivial,trivial,trivial,trivial,trivial,trivial,trivial,trivial,trivial,trivial,trivial,trivial,trivial,trivial,trivial,trivial,trivial,trivial,trivial,trivial,trivial,trivial,trivial,trivial,a7W sB,a7X sB,a7Y sB,a7Z sB,a71 sB,a73 sB,a74 sB,a77 sB,a78 sB,a79 sB,a8a sB,a8b sB,a8c sB,a8d sB,a8e sB,a8f sB,a8g sB,a8h sB,a8i sB,a8j sB,a8k sB,a8l sB,a8m sB,a8n sB,a8o sB,a8p sB,a8q sB,trivial⟩ (by kernel_rfl)
theorem bHh:a8F T T2:=fun g=>by
 by_cases h:g=16
 ·subst h
  exact ⟨fun af e=>(by rw[bEq]at e;cases e),fun ps rs G e=>(by rw[bEq]at e;injection e with e1 e2 e3;subst e1;subst e2;subst e3;exact ⟨sB,rfl,fun r o h=>by cases h⟩),fun af e=>(by rw[bEq]at e;cases e)⟩
 ·have e0:T2 g=T g:=a8D h sB
  exact ⟨fun af e=>e0.trans e,fun ps rs G e=>⟨G,e0.trans e,fun r o h=>h⟩,fun af e=>e0.trans e⟩
theorem up {f:Nat} {r o:List Row} (h:(cA T).pc f r=some o):(cA T2).pc f r=some o:=bAr bHh h
theorem bHi (rows:List Row):(cA T2).pc 16 rows=sB rows:=aXV T2 (rfl:T2 16= .given _ _ sB) rows
theorem a1c (p0:Row):(cA T2).pc aFe [p0]=aOs (cA T2) p0:=(lA T2 (rfl:T2 5= .code aIL) _).trans (aZs _ p0)
theorem aVL:vY (cA T2)=aCM (cA T2) (vY (cA T2)):=lq (fun G v0 v1 v2=>G (aG7 v0 v1 v2)) (aZr (cA T2) _)
theorem a1d:(cA T2).pc aBu []=aDX (cA T2):=(lA T2 (rfl:T2 4= .code mT) _).trans (aOH _)
theorem bAs (p0:Row):(cA T2).pc aN4 [p0]=aBt (cA T2) p0:=(lA T2 (rfl:T2 3= .code mP) _).trans (aM9 _ p0)
end Go.Ev.jJ
namespace Go.Ev.jJ
theorem aMF:∀l:dA,nodes l.norm=(nodes l).map dA.norm:=by
 intro l
 have h:∀k∈l.kids,nodes k.norm=(nodes k).map dA.norm:=fun k hk=>by
  have:=dA.lD hk
  exact aMF k
 have key:∀ks:List dA,(∀k∈ks,nodes k.norm=(nodes k).map dA.norm)→yB (ks.map dA.norm)=(yB ks).map dA.norm:=by
  intro ks
  induction ks with
  |nil=>intro _;simp[yB]
  |cons a r ih=>intro hk;simp only[List.map_cons,yB,List.map_append,hk a (by simp),ih (fun x hx=>hk x (by simp[hx]))]
 rw[nodes_eq,nodes_eq l,aA9,key _ h,List.map_cons]
 termination_by l=>SizeOf.sizeOf l
theorem aTk:∀l:dA,levels l.norm=levels l:=by
 intro l
 have h:∀k∈l.kids,levels k.norm=levels k:=fun k hk=>by
  have:=dA.lD hk
  exact aTk k
 have key:∀ks:List dA,(∀k∈ks,levels k.norm=levels k)→tB (ks.map dA.norm)=tB ks:=by
  intro ks
  induction ks with
  |nil=>intro _;simp[tB]
  |cons a r ih=>intro hk;simp only[List.map_cons,tB,hk a (by simp),ih (fun x hx=>hk x (by simp[hx]))]
 rw[levels_eq,levels_eq l,aA9,key _ h]
 termination_by l=>SizeOf.sizeOf l
theorem a4u:∀l:dA,l.wf→l.norm.wf:=by
 intro l hw
 have h:∀k∈l.kids,k.norm.wf:=fun k hk=>by
  have:=dA.lD hk
  exact a4u k (dA.a2u hw hk)
 rw[aVC]
 cases l
 simp only[dA.wf]at hw
 simp only[dA.wf,dA.op,dA.n,dA.low,dA.high,dA.sep,dA.v,dA.pairs]
 refine ⟨hw.1,hw.2.1,hw.2.2.1,hw.2.2.2.1,hw.2.2.2.2.1,hw.2.2.2.2.2.1,hw.2.2.2.2.2.2.1,aQi fun x hx=> ?_⟩
 obtain ⟨k,hk,rfl⟩:=List.mem_map.1 hx
 exact h k hk
 termination_by l=>SizeOf.sizeOf l
theorem nF.norm {l:dA} (h:nF l):nF l.norm:=⟨a4u l h.wf,by rw[aRI];exact h.mB⟩
theorem ArA.norm {l:dA} (h:ArA l):ArA l.norm:=fun x hx=>by
 rw[aMF]at hx
 obtain ⟨y,hy,rfl⟩:=List.mem_map.1 hx
 intro ho hk
 rw[aKV]at ho
 rw[aA9]at hk
 exact h y hy ho (List.map_eq_nil_iff.1 hk)
theorem aVM {l:dA} (h:nF l) {f:Fl} {w u:Bytes} (h0:0≤l.op) (h1:l.op<19) (ho:aGb l.op f w u):dY l=aO8 l f:=by
 have e:=aYd l h f w u h0 h1 ho
 unfold dY;rw[e]
theorem aYe {l:dA} (h:nF l) (hr:¬(0≤l.op∧l.op<19)):dY l=1:=by
 have e:(cA T).pc oX [l.row]=some [[.int 1]]:=by
  rw[aMB];unfold aKw
  refine cH.eq (.bind (R:=fun r=>r=(0,[.r [.dp l.row],.r [.bool true]])) ?_ ?_)
  ·refine .ite (fun e=> .some rfl) fun e=> .some ?_
   have e':¬l.op<0:=fun x=>e (decide_eq_true x)
   have:decide ((at_ l.row 0).tA≥19)=true:=decide_eq_true (show l.op≥19 by omega)
   rw[this]
  ·rintro r rfl;exact .some rfl
 unfold dY;rw[e]
theorem a3a (l:dA) (f:Fl):aO8 l.norm f=aO8 l f:=by
 unfold aO8 aSD aIR aUy aN5 aH2
 simp only[aKV,aOt,a0Y,aVA,bEi,a2V,aZA,aZB,bAm,aVB,aA9,List.length_map]
theorem a3b {l:dA} (h:nF l):dY l.norm=dY l:=by
 by_cases hr:0≤l.op∧l.op<19
 ·obtain ⟨f,w,u,ho⟩:=a4v hr.1 hr.2
  rw[aVM h hr.1 hr.2 ho,aVM h.norm (by rw[aKV];exact hr.1) (by rw[aKV];exact hr.2) (by rw[aKV];exact ho),a3a]
 ·rw[aYe h hr,aYe h.norm (by rw[aKV];exact hr)]
theorem aTl:∀ls:List dA,(∀l∈ls,nF l)→hJ (ls.map dA.norm)=hJ ls
 |[],_=>rfl
 |l::r,h=>by
  simp only[List.map_cons,hJ,a3b (h l (by simp)),aTl r (fun x hx=>h x (by simp[hx]))]
theorem aTm {l:dA} (h:nF l):uT l.norm=uT l:=by
 unfold uT
 rw[aMF,aTk,List.length_map,aTl _ (aN6 l h)]
theorem aTn:∀ls:List dA,hJ ls=0→∀l∈ls,dY l=0
 |[],_,l,h=>by cases h
 |a::r,e,l,h=>by
  simp only[hJ]at e
  by_cases ha:dY a=0
  ·rw[if_neg (by simp[ha])]at e
   rcases List.mem_cons.1 h with rfl |h
   ·exact ha
   ·exact aTn r e l h
  ·rw[if_pos ha]at e;exact absurd e ha
theorem aVN {l:dA} (h:uT l=0):∀x∈nodes l,dY x=0:=by
 unfold uT at h
 split at h
 ·cases h
 ·exact aTn _ h
theorem a3c {l:dA} {f:Fl} (h:aO8 l f=0):aIR l f=false:=by
 unfold aO8 at h
 split at h
 ·cases h
 ·split at h
  ·cases h
  ·rename_i h1;simpa using h1
theorem aYf {x:dA} (h:nF x) (hv:dY x=0) (ho:x.op=2∨x.op=13∨x.op=14):x.kids≠[]:=by
 intro hk
 have key:∀(f:Fl) (w u:Bytes),aGb x.op f w u→0≤x.op→x.op<19→(f.k=1∨f.k= -1)→False:=by
  intro f w u hop h0 h1 hf
  rw[aVM h h0 h1 hop]at hv
  have:=a3c hv
  unfold aIR at this
  rw[hk]at this
  rcases hf with e |e<;>rw[e]at this<;>simp at this
 rcases ho with e |e |e
 ·exact key _ _ _ (by rw[e];exact op2) (by omega) (by omega) (.inl rfl)
 ·exact key _ _ _ (by rw[e];exact bHj) (by omega) (by omega) (.inl rfl)
 ·exact key _ _ _ (by rw[e];exact bHk) (by omega) (by omega) (.inr rfl)
theorem aVO {l:dA} (h:nF l) (hc:uT l=0):ArA l∧aN3 l:=
 ⟨fun x hx ho=>aYf (aN6 l h x hx) (aVN hc x hx) (by omega),fun x hx ho=>aYf (aN6 l h x hx) (aVN hc x hx) (by omega)⟩
theorem aN3.norm {l:dA} (h:aN3 l):aN3 l.norm:=fun x hx=>by
 rw[aMF]at hx
 obtain ⟨y,hy,rfl⟩:=List.mem_map.1 hx
 intro ho hk
 rw[aKV]at ho
 rw[aA9]at hk
 exact h y hy ho (List.map_eq_nil_iff.1 hk)
def bEv:Option dA→Row×Bool
 |some o=>(o.row,true)
 |none=>(iF,false)
theorem bAt (l:dA) {n:Nat} (hn:n<l.kids.length) (o:dA):l.row.set 13 (.sl ((l.kids.map dA.row).set n o.row))=(aJ6 l (l.kids.set n o)).row:=by
 obtain ⟨x,y,hxy⟩:∃x y,l.kids.set n o=x::y:=by
  cases hk2:l.kids.set n o with
  |nil=>
   have:=congrArg List.length hk2
   simp at this
   rw[this]at hn;simp at hn
  |cons x y=>exact ⟨x,y,rfl⟩
 rw[←List.map_set,hxy,a04]
 rfl
theorem aYg (r a:Int) (c:C):∀(p:List Int) (l:dA),nF l→ArA l→aT7 [c,.int r,.int a] p l.row=some (bEv (bV r a p l))
 |[],l,h,hA=>by
  rw[aT7]
  have e:(cA T).pc 33 [l.row,[c,.int r,.int a],[.sl []]]=some (match jU l r a with |some o=>[o.row,[.bool true]]|none=>[iF,[.bool false]]):=by
   refine (aIQ l.row [c,.int r,.int a] (.sl [])).trans ?_
   unfold aNU
   have hl:=aVG l h hA.kids r a
   rw[if_pos (by rfl)]
   have e1:([.int ((at_ l.row 0).tA),.str ((at_ l.row 1).mE),.str ((at_ l.row 2).mE),at_ l.row 3,.int ((at_ l.row 4).tA),.int ((at_ l.row 5).tA),.int ((at_ l.row 6).tA),.int ((at_ l.row 7).tA),.int ((at_ l.row 8).tA),.int ((at_ l.row 9).tA),.str ((at_ l.row 10).mE),at_ l.row 11,at_ l.row 12,at_ l.row 13]:Row)=l.row:=rfl
   have e2:(at_ ([c,.int r,.int a]:Row) 1).tA=r:=rfl
   have e3:(at_ ([c,.int r,.int a]:Row) 2).tA=a:=rfl
   rw[e1,e2,e3,hl,Option.bind_some]
   cases jU l r a<;>rfl
  rw[e]
  unfold bV
  cases jU l r a<;>rfl
 |i::p,l,h,hA=>by
  rw[aT7]
  have hrow:(at_ l.row 13).rows=l.kids.map dA.row:=by rw[uC,dA.cD]
  rw[hrow,List.length_map]
  unfold bV
  by_cases hi:0≤i∧i<(l.kids.length:Int)
  ·rw[if_pos hi,if_pos hi]
   obtain ⟨n,rfl⟩:=Int.eq_ofNat_of_zero_le hi.1
   have hn:n<l.kids.length:=by omega
   rw[Int.toNat_natCast,fC _ _ _ hn,uZ hn,aYg r a c p l.kids[n] (h.kid (List.getElem_mem hn)) (hA.kid (List.getElem_mem hn))]
   cases bV r a p l.kids[n]with
   |none=>rfl
   |some o=>
    show some (l.row.set 13 (.sl ((l.kids.map dA.row).set n o.row)),true)=_
    rw[bAt l hn o];rfl
  ·rw[if_neg hi,if_neg hi];rfl
theorem aYh (p:List Int) (x y:C):pathOf [iJ true (dB p),x,y]=p:=by
 unfold pathOf
 show (iJ true (dB p)).rows.map _=p
 rw[jC]
 unfold dB
 rw[List.map_map]
 exact List.map_id' p
theorem aYi (l:dA) (h:nF l) (c:C) (p:List Int) (r a:Int) (hc:pathOf [c,.int r,.int a]=p):sB [l.row,[c,.int r,.int a]]=some (if uT l=0 then (match bV r a p l.norm with |some o=>[o.row,[.bool true]]|none=>[iF,[.bool false]])else [iF,[.bool false]]):=by
 unfold sB
 dsimp only
 have h13:(cA T).pc 13 [l.row]=some [[.int (uT l)]]:=aMG l h
 have h14:(cA T).pc 14 [l.row]=some [l.norm.row]:=aH1 l h.mB
 rw[if_pos ⟨l,rfl,h.mB⟩,h13,h14,hc]
 show (if uT l=0 then ((aT7 [c,.int r,.int a] p l.norm.row).map fun q=>[q.1,[.bool q.2]])else some [iF,[.bool false]])=_
 by_cases hz:uT l=0
 ·rw[if_pos hz,if_pos hz,aYg r a c p l.norm h.norm (aVO h hz).1.norm]
  cases bV r a p l.norm<;>rfl
 ·rw[if_neg hz,if_neg hz]
end Go.Ev.jJ
namespace Go.Ev.jJ
theorem aYj (a b:dA) (hl:a.names.length=b.names.length) (hN:a.names.length≤big):∀(j i:Nat),i+j=a.names.length→
 mW (cA T) (.dp a.row) (.dp b.row) (a.names.length:Int) (i:Int)=if uL (fun a b=>a==b) (a.names.drop i) (b.names.drop i)=true then some (0,[.r [.dp a.row],.r [.dp b.row]])else some (1,[.r [.bool false]])
 |0,i,h=>by
  rw[aFo]
  unfold nW
  have:¬(i:Int)<(a.names.length:Int):=by omega
  rw[List.drop_eq_nil_of_le (by omega),List.drop_eq_nil_of_le (by omega)]
  simp[this,uL]
 |j+1,i,h=>by
  rw[aFo]
  unfold nW
  have h1:i<a.names.length:=by omega
  have h2:i<b.names.length:=by omega
  have ih:=aYj a b hl hN j (i+1) (by omega)
  rw[List.drop_eq_getElem_cons h1,List.drop_eq_getElem_cons h2]
  have g1:(i:Int)<(a.names.length:Int):=by omega
  have g2:(i:Int)<(b.names.length:Int):=by omega
  have g0:(0:Int)≤(i:Int):=by omega
  simp only[fB,wA,aGl,jC,fC,List.length_map,Int.toNat_natCast,h1,h2,a9P,rA,uB (show i≤big by omega),ih,uL,g1,g2,g0,decide_true,and_self,if_true]
  by_cases hc:a.names[i]=b.names[i]<;>simp[hc]
theorem aYk (a b:dA) (hl:a.pairs.length=b.pairs.length) (hN:a.mB≤big):∀(j i:Nat),i+j=a.pairs.length→
 pW (cA T) (.dp a.row) (.dp b.row) (a.pairs.length:Int) (i:Int)=if uL aRH (a.pairs.drop i) (b.pairs.drop i)=true then some (0,[.r [.dp a.row],.r [.dp b.row]])else some (1,[.r [.bool false]])
 |0,i,h=>by
  rw[aFp]
  unfold qW
  have:¬(i:Int)<(a.pairs.length:Int):=by omega
  rw[List.drop_eq_nil_of_le (by omega),List.drop_eq_nil_of_le (by omega)]
  simp[this,uL]
 |j+1,i,h=>by
  rw[aFp]
  unfold qW
  have hbe:=a.eG
  have hpl:=aAj a.pairs
  have h1:i<a.pairs.length:=by omega
  have h2:i<b.pairs.length:=by omega
  have ih:=aYk a b hl hN j (i+1) (by omega)
  rw[List.drop_eq_getElem_cons h1,List.drop_eq_getElem_cons h2]
  have g1:(i:Int)<(a.pairs.length:Int):=by omega
  have g2:(i:Int)<(b.pairs.length:Int):=by omega
  have g0:(0:Int)≤(i:Int):=by omega
  have hm:=aAk (List.getElem_mem h1)
  have s1:=aEe a.pairs[i].1 b.pairs[i].1 (by omega)
  have s2:=aEe a.pairs[i].2 b.pairs[i].2 (by omega)
  simp only[fB,wA,aE5,jC,fC,List.length_map,Int.toNat_natCast,h1,h2,aZ7,aZ8,aZ9,a0a,a0b,a0c,a0d,a0e,aHs,s1,s2,uB (show i≤big by omega),ih,uL,g1,g2,g0,decide_true,and_self,if_true,Option.bind_some,fA,gA,iA,aRH]
  by_cases e1:a.pairs[i].1.eqv b.pairs[i].1=true
  ·by_cases e2:a.pairs[i].2.eqv b.pairs[i].2=true<;>simp[e1,e2]
  ·simp[e1]
theorem aYl (a b:dA) (hl:a.kids.length=b.kids.length) (hN:a.mB≤big) (hc:∀p∈a.kids,∀q:dA,(cA T).pc bN [p.row,q.row]=some [[.bool (p.eqv q)]]):∀(j i:Nat),i+j=a.kids.length→
 sW (cA T) (.dp a.row) (.dp b.row) (a.kids.length:Int) (i:Int)=if uL dA.eqv (a.kids.drop i) (b.kids.drop i)=true then some (0,[])else some (1,[.r [.bool false]])
 |0,i,h=>by
  rw[aFq]
  unfold tW
  have:¬(i:Int)<(a.kids.length:Int):=by omega
  rw[List.drop_eq_nil_of_le (by omega),List.drop_eq_nil_of_le (by omega)]
  simp[this,uL]
 |j+1,i,h=>by
  rw[aFq]
  unfold tW
  have hbe:=a.eG
  have hpl:=dA.aBA a.kids
  have h1:i<a.kids.length:=by omega
  have h2:i<b.kids.length:=by omega
  have ih:=aYl a b hl hN hc j (i+1) (by omega)
  rw[List.drop_eq_getElem_cons h1,List.drop_eq_getElem_cons h2]
  have g1:(i:Int)<(a.kids.length:Int):=by omega
  have g2:(i:Int)<(b.kids.length:Int):=by omega
  have g0:(0:Int)≤(i:Int):=by omega
  have s1:=hc _ (List.getElem_mem h1) b.kids[i]
  simp only[fB,wA,uC,dA.cD,fC,List.length_map,Int.toNat_natCast,h1,h2,s1,uB (show i≤big by omega),ih,uL,g1,g2,g0,decide_true,and_self,if_true,Option.bind_some,fA,gA,iA]
  by_cases e1:a.kids[i].eqv b.kids[i]=true<;>simp[e1]
theorem a8G {α:Type} {f:α→α→Bool} {l r:List α} (h:¬l.length=r.length):uL f l r=false:=by
 cases e:uL f l r
 ·rfl
 ·exact absurd (aUM e) h
theorem aTo (a b:dA) (hN:a.mB≤big):(cA T).pc bN [a.row,b.row]=some [[.bool (a.eqv b)]]:=by
 have hbe:=a.eG
 have aBw:∀p∈a.kids,∀q:dA,(cA T).pc bN [p.row,q.row]=some [[.bool (p.eqv q)]]:=by
  intro p hp q
  have:=dA.lD hp
  have hb':=dA.aE4 hp
  exact aTo p q (by omega)
 have hv:=aEe a.v b.v (by omega)
 rw[aRi]
 unfold aHR
 rw[a.aPk]
 simp only[vC,sG,dS,aGl,aUi,aOk,aOl,aLi,aIv,aQj,aNo,aNp,aHs,hv,jA,rA]
 by_cases h0:a.op=b.op
 case neg=>simp[h0]
 by_cases h1:a.name=b.name
 case neg=>simp[h0,h1]
 by_cases h2:a.to=b.to
 case neg=>simp[h0,h1,h2]
 by_cases h3:a.n=b.n
 case neg=>simp[h0,h1,h2,h3]
 by_cases h4:a.low=b.low
 case neg=>simp[h0,h1,h2,h3,h4]
 by_cases h5:a.high=b.high
 case neg=>simp[h0,h1,h2,h3,h4,h5]
 by_cases h6:a.sep=b.sep
 case neg=>simp[h0,h1,h2,h3,h4,h5,h6]
 simp only[h0,h1,h2,h3,h4,h5,h6,bne_self_eq_false,beq_self_eq_true,Bool.not_true,Bool.false_eq_true,if_false,Option.bind_some,nD,iC,wC,cC,aF,jD,xB,rC,aC,wE,gA,iA,fB,if_true,wA,fA,Bool.true_and]
 by_cases e0:a.v.eqv b.v=true
 case neg=>simp[e0]
 simp only[e0,Bool.not_true,Bool.false_eq_true,if_false,Bool.true_and,aGl,aE5,uC,jC,dA.cD,List.length_map]
 by_cases l0:a.names.length=b.names.length
 case neg=>
  have e:((a.names.length:Int) !=(b.names.length:Int))=true:=by simp;omega
  have:¬a.names=b.names:=fun h=>l0 (by rw[h])
  simp[e,this]
 have el0:((a.names.length:Int) !=(b.names.length:Int))=false:=by simp[l0]
 by_cases l1:a.pairs.length=b.pairs.length
 case neg=>
  have e:((a.pairs.length:Int) !=(b.pairs.length:Int))=true:=by simp;omega
  simp[e,el0,a8G l1]
 have el1:((a.pairs.length:Int) !=(b.pairs.length:Int))=false:=by simp[l1]
 by_cases l2:a.kids.length=b.kids.length
 case neg=>
  have e:((a.kids.length:Int) !=(b.kids.length:Int))=true:=by simp;omega
  simp[e,el0,el1,a8G l2]
 have el2:((a.kids.length:Int) !=(b.kids.length:Int))=false:=by simp[l2]
 have r0:=aYj a b l0 (by have:=cS a.names;omega) a.names.length 0 (by omega)
 have r1:=aYk a b l1 hN a.pairs.length 0 (by omega)
 have r2:=aYl a b l2 hN aBw a.kids.length 0 (by omega)
 simp only[Int.ofNat_zero,Int.natCast_zero,List.drop_zero]at r0 r1 r2
 rw[a0f]at r0
 simp only[el0,el1,el2,Bool.false_eq_true,if_false,Option.bind_some,nD,iC,wC,cC,aF,jD,xB,rC,aC,wE,gA,iA,fB,if_true,wA,aGl,jC,List.length_map,r0]
 by_cases e1:a.names=b.names
 case neg=>simp[e1]
 simp only[e1,decide_true,if_true,Option.bind_some,nD,iC,wC,cC,aF,jD,xB,rC,aC,wE,gA,fB,wA,aE5,jC,List.length_map,r1,Bool.true_and]
 by_cases e2:uL aRH a.pairs b.pairs=true
 case neg=>simp[e2]
 simp only[e2,if_true,Option.bind_some,nD,iC,wC,cC,aF,jD,xB,rC,aC,wE,gA,fB,wA,uC,dA.cD,List.length_map,r2,Bool.true_and]
 by_cases e3:uL dA.eqv a.kids b.kids=true<;>simp[e3]
 termination_by SizeOf.sizeOf a
end Go.Ev.jJ
namespace Go.Ev.jJ
theorem bCE:∀l:dA,mu l≤2*l.mB:=by
 intro l
 have h:∀k∈l.kids,mu k≤2*k.mB:=fun k hk=>by
  have:=dA.lD hk
  exact bCE k
 have key:∀ks:List dA,(∀k∈ks,mu k≤2*k.mB)→tot mu ks≤2*tot dA.mB ks:=by
  intro ks
  induction ks with
  |nil=>intro _;simp[tot]
  |cons a r ih=>intro hk;rw[rD,rD];have:=hk a (by simp);have:=ih (fun x hx=>hk x (by simp[hx]));omega
 have h1:=key _ h
 have h2:=aME l
 have h3:wt l.op≤2:=by unfold wt;split<;>omega
 rw[aO7];omega
 termination_by l=>SizeOf.sizeOf l
theorem aVP (r a:Int):∀(p:List Int) (l o:dA),bV r a p l=some o→p.length+1≤l.mB
 |[],l,o,_=>by have:=l.aNm;simpa using this
 |i::p,l,o,e=>by
  unfold bV at e
  split at e
  ·rename_i hi
   obtain ⟨o',e1, -⟩:=Option.map_eq_some_iff.1 e
   have hm:l.kids.getD i.toNat xF∈l.kids:=aKk (by omega)
   have h1:=aVP r a p _ _ e1
   have h2:=dA.aE4 hm
   simp only[List.length_cons];omega
  ·cases e
abbrev St3:Type:=List Int×Nat×Nat
def stR (s:St3):Row:=aAC s.1 s.2.1 s.2.2
theorem aYm (v1 v2:Row):∀(m:Nat) (l:dA) (acc:List St3),mu l≤m→nF l→ArA l→acc.length+mu l≤3*big→(∀s∈acc,s.1.length≤big)→
 ∃(sts:List St3) (e:Int) (o:dA),vY (cA T2) l.norm.row v1 (iJ true (acc.map stR))=some (0,[.r [iJ true (sts.map stR)],.r [.int e],.r o.norm.row])∧
  mR (cA T) l.row v2 (iJ true (acc.map stR))=some (0,[.r [iJ true (sts.map stR)],.r [.int e],.r o.row])∧o.mB≤big∧sts.length≤3*big∧∀s∈sts,s.1.length≤big
 |0,l,acc,hm,h,hA,hacc,hs=>by have:=aSB l;omega
 |m+1,l,acc,hm,h,hA,hacc,hs=>by
  rw[aVL,aOM]
  unfold aCM aEb
  have f1:=up (a22 l.norm h.norm hA.norm)
  rw[a00]at f1
  have c1:=up (aMG l.norm h.norm)
  rw[aTm h]at c1
  obtain ⟨r,o1,o2⟩:=a8A l h hA
  have c2:=aTp l h
  have hsame:xF.norm.row=[.int 0,.str [],.str [],.bA,.int 0,.int 0,.int 0,.int 0,.int 0,.int 0,.str [],.bA,.bA,.bA]:=rfl
  have bJY:xF.row=[.int 0,.str [],.str [],.bA,.int 0,.int 0,.int 0,.int 0,.int 0,.int 0,.str [],.bA,.bA,.bA]:=rfl
  rw[f1,o1,c2]
  simp only[Option.bind_some,fA,gA,jA]
  have bCF:xF.mB≤big:=by unfold big;decide
  have hpos:=aSB l
  cases hf:aN0 l with
  |none=>
   rw[hf]at o2
   have o2:r=_:=o2
   subst o2
   simp only[aN2,iD,fA,gA,iA,Bool.not_false,if_true,c1,Option.bind_some,jA,cC,aC,iC,xB,wC,rC,nD,jD]
   by_cases hc:uT l=0
   ·simp only[hc,bne_self_eq_false,Bool.false_eq_true,if_false]
    exact ⟨acc,0,l,rfl,rfl,h.mB,by omega,hs⟩
   ·simp only[aT5 hc,if_true]
    exact ⟨[],2,xF,rfl,rfl,bCF,by simp,by simp⟩
  |some s=>
   obtain ⟨p,q,a⟩:=s
   rw[hf]at o2
   obtain ⟨o,op,rfl⟩:=o2
   have hu:(cA T2).pc aMm [l.norm.row,aAC p q a]=sB [l.norm.row,aAC p q a]:=bHi _
   have hg:sB [l.norm.row,aAC p q a]=_:=aYi l.norm h.norm (iJ true (dB p)) p (q:Int) (a:Int) (aYh p _ _)
   rw[aTm h,aSw,aX4,op]at hg
   simp only[aN2,iD,fA,gA,iA,Bool.not_true,Bool.false_eq_true,if_false,Option.bind_some,cC,aC,iC,xB,wC,rC,nD,jD,hu,hg]
   by_cases hc:uT l=0
   ·simp only[hc,bne_self_eq_false,Bool.false_eq_true,if_false,if_true,Option.bind_some,Option.map_some,iD,fA,gA,iA,Bool.not_true,jC,List.length_map,aHl]
    obtain ⟨k1,k2⟩:=aVO h hc
    obtain ⟨g1,g2⟩:=aYb p hA k2 op
    have hd:=aVP _ _ p l o op
    have hb:l.mB≤4294967296:=h.mB
    have bMq:acc.length+mu l≤3*4294967296:=hacc
    have e1:acc.map stR++[aAC p q a]=(acc++[(p,q,a)]).map stR:=by rw[List.map_append];rfl
    have h2:(acc.length+[aAC p q a].length)*40≤140737488355328:=by simp only[List.length_cons,List.length_nil];omega
    rw[if_pos h2,if_pos h2,e1]
    exact aYm v1 v2 m o (acc++[(p,q,a)]) (by omega) ⟨bEn.bV p h.wf op,by show o.mB≤4294967296;omega⟩ (bEo.bV p hA op) (by simp only[List.length_append,List.length_cons,List.length_nil];omega) (fun s hs'=>by
     rcases List.mem_append.1 hs' with hs' |hs'
     ·exact hs s hs'
     ·rw[List.mem_singleton.1 hs'];show p.length≤4294967296;omega)
   ·simp only[hc,aT5 hc,if_true,if_false,Option.bind_some,iD,fA,gA,iA,Bool.not_false]
    exact ⟨[],2,xF,rfl,rfl,bCF,by simp,by simp⟩
theorem a5N (l:dA) (h:nF l):∃(sts:List St3) (e:Int) (o o':dA),(cA T2).pc aFe [l.row]=some [o.row,[iJ true (sts.map stR)],[.int e]]∧(cA T).pc aF6 [l.row]=some [o'.row,[iJ true (sts.map stR)],[.int e]]∧o.norm=o'.norm∧o.mB≤big∧sts.length≤3*big∧∀s∈sts,s.1.length≤big:=by
 rw[a1c,aSv]
 unfold aOs aJV
 rw[up (aMG l h),aTp l h]
 simp only[Option.bind_some,fA,gA,jA]
 by_cases hc:uT l=0
 ·simp only[hc,bne_self_eq_false,Bool.false_eq_true,if_false,up (aH1 l h.mB),Option.bind_some,fA]
  have hb:l.mB≤4294967296:=h.mB
  obtain ⟨sts,e,o,e1,e2,e3,e4,e5⟩:=aYm [.int 0,.str [],.str [],.bA,.int 0,.int 0,.int 0,.int 0,.int 0,.int 0,.str [],.bA,.bA,.bA] [.int 0,.str [],.str [],.bA,.int 0,.int 0,.int 0,.int 0,.int 0,.int 0,.str [],.bA,.bA,.bA] (mu l) l [] (Nat.le_refl _) h (aVO h hc).1 (by have:=bCE l;show 0+mu l≤3*4294967296;omega) (by simp)
  have e1':vY (cA T2) l.norm.row _ .bA=_:=e1
  have e2':mR (cA T) l.row _ .bA=_:=e2
  rw[e1',e2']
  exact ⟨sts,e,o.norm,o,rfl,rfl,aSw o,by rw[aRI];exact e3,e4,e5⟩
 ·simp only[aT5 hc,if_true]
  exact ⟨[],uT l,xF,xF,rfl,rfl,rfl,by unfold big;decide,by simp,by simp⟩
theorem a4w (c:C) (p:List Int) (hc:c.rows=dB p) (hp:p.length≤big):∀(j i:Nat),i+j=p.length→iQ (cA T) c c (p.length:Int) (i:Int)=some (0,[])
 |0,i,hh=>by
  rw[aDl];unfold jQ
  obtain rfl:i=p.length:=by omega
  exact cH.eq (.ite (fun h=>absurd h aAg) fun _=> .some rfl)
 |j+1,i,hh=>by
  rw[aDl];unfold jQ
  have hi:i<p.length:=by omega
  have ih:=a4w c p hc hp j (i+1) (by omega)
  have hx:(0:Int)≤(i:Int)∧(i:Int)<(c.rows.length:Int):=aDo (by rw[hc,vJ];exact hi)
  refine cH.eq (.pos (dec_lt hi) (.pos hx (.pos hx (.ite (fun e=> ?_) fun _=> ?_))))
  ·rw[aXe rfl]at e;cases e
  ·rw[uB (show i≤big by omega),ih];exact .some rfl
theorem a3d (p:List Int) (hp:p.length≤big):(cA T).pc rT [[iJ true (dB p)],[iJ true (dB p)]]=some [[.bool true]]:=by
 rw[aON];unfold aEc
 have e:=a4w (iJ true (dB p)) p (jC _ _) hp p.length 0 (by omega)
 rw[show ((0:Nat):Int)=0 from rfl]at e
 refine cH.eq (.ite (fun x=> ?_) fun _=> ?_)
 ·rw[aXe rfl]at x;cases x
 ·rw[jC,vJ,e];exact .some rfl
theorem aXg (s:St3) (hp:s.1.length≤big):(cA T).pc mF [stR s,stR s]=some [[.bool true]]:=by
 rw[aNY];unfold aDi
 have e:(cA T).pc rT [[at_ (stR s) 0],[at_ (stR s) 0]]=_:=a3d s.1 hp
 rw[e,Option.bind_some]
 simp only[fA,gA,iA,if_true,beq_self_eq_true]
theorem aYn (c:C) (l:List St3) (hc:c.rows=l.map stR) (hN:l.length≤3*big) (hp:∀s∈l,s.1.length≤big):∀(j i:Nat),i+j=l.length→vD (cA T) c (.fn mF []) c (l.length:Int) (i:Int)=some (0,[])
 |0,i,hh=>by
  rw[fM];unfold wD
  obtain rfl:i=l.length:=by omega
  exact cH.eq (.ite (fun h=>absurd h aAg) fun _=> .some rfl)
 |j+1,i,hh=>by
  rw[fM];unfold wD
  have hi:i<l.length:=by omega
  have ih:=aYn c l hc hN hp j (i+1) (by omega)
  have hx:(0:Int)≤(i:Int)∧(i:Int)<(c.rows.length:Int):=aDo (by rw[hc,List.length_map];exact hi)
  have hr:aA c.rows (i:Int).toNat=stR l[i]:=by rw[hc,Int.toNat_natCast];exact fC _ _ _ hi
  have hcc:aMK (cA T) (.fn mF []) [aA c.rows (i:Int).toNat,aA c.rows (i:Int).toNat]=some [[.bool true]]:=by rw[hr];exact aXg l[i] (hp _ (List.getElem_mem hi))
  have hw:IntKind.wrap .i64 ((i:Int)+1)=((i+1:Nat):Int):=by
   have:l.length≤3*4294967296:=hN
   rw[wrap_i64 ⟨by omega,by omega⟩];omega
  refine cH.eq (.pos (dec_lt hi) (.pos hx (.pos hx (.jB hcc (.ite (fun e=> ?_) fun _=> ?_)))))
  ·simp at e
  ·rw[hw,ih];exact .some rfl
theorem aZK (l:List St3) (hN:l.length≤3*big) (hp:∀s∈l,s.1.length≤big):(cA T).pc yH [[iJ true (l.map stR)],[iJ true (l.map stR)],[.fn mF []]]=some [[.bool true]]:=by
 rw[aCb];unfold gJ
 have e:=aYn (iJ true (l.map stR)) l (jC _ _) hN hp l.length 0 (by omega)
 rw[show ((0:Nat):Int)=0 from rfl]at e
 refine cH.eq (.ite (fun x=> ?_) fun _=> ?_)
 ·rw[aXe rfl]at x;cases x
 ·rw[jC,List.length_map,e];exact .some rfl
theorem a1f:∀(a b:dA),a.norm=b.norm→a.eqv b=true:=by
 intro a b h
 have hk:∀k∈a.kids,∀y:dA,k.norm=y.norm→k.eqv y=true:=fun k hk y=>by
  have:=dA.lD hk
  exact a1f k y
 have e0:=congrArg dA.op h
 have e1:=congrArg dA.name h
 have e2:=congrArg dA.to h
 have e3:=congrArg dA.n h
 have e4:=congrArg dA.low h
 have e5:=congrArg dA.high h
 have e6:=congrArg dA.sep h
 have e7:=congrArg dA.v h
 have e8:=congrArg dA.names h
 have e9:=congrArg dA.pairs h
 have e10:=congrArg dA.kids h
 simp only[aKV,aOt,a0Y,bEi,a2V,aZA,aZB,bAm,aVA,aVB,aA9]at e0 e1 e2 e3 e4 e5 e6 e7 e8 e9 e10
 have key:∀ks ks':List dA,ks.map dA.norm=ks'.map dA.norm→(∀k∈ks,∀y:dA,k.norm=y.norm→k.eqv y=true)→uL dA.eqv ks ks'=true:=by
  intro ks
  induction ks with
  |nil=>
   intro ks' e _
   cases ks' with
   |nil=>rfl
   |cons x r=>simp at e
  |cons a r ih=>
   intro ks' e hk
   cases ks' with
   |nil=>simp at e
   |cons x r'=>
    simp only[List.map_cons,List.cons.injEq]at e
    simp only[uL,hk a (by simp) x e.1,ih r' e.2 (fun y hy=>hk y (by simp[hy])),Bool.and_self]
 rw[dA.aPk,e0,e1,e2,e3,e4,e5,e6,e7,e8,e9,key _ _ e10 hk,aRG (fun p _=>by simp only[aRH,aB.aUN,Bool.and_self]),aB.aUN]
 simp
 termination_by a=>SizeOf.sizeOf a
def aKZ:dA:= .mk 4 [98] [] true [] 0 0 0 0 (.mk 2 7 [] true []) true [] true []
def L0:dA:= .mk 1 [] [] true [] 0 0 0 0 zeroV true [] true [xF,aKZ]
theorem a8H:(cA T).pc aFO []=some [aKZ.row]:=(qQ T).2 ⟨10,by kernel_rfl⟩
theorem cl1:(cA T).pc lT [L0.row]=some [[.int 0]]:=(qQ T).2 ⟨60,by kernel_rfl⟩
theorem cl2:(cA T).pc kT [L0.row]=some [aAC [] 1 0,[.bool true]]:=(qQ T).2 ⟨60,by kernel_rfl⟩
theorem cl3:(cA T).pc kT [aKZ.row]=some [[.bA,.int 0,.int 0],[.bool false]]:=(qQ T).2 ⟨60,by kernel_rfl⟩
theorem cl4:(cA T).pc lT [aKZ.row]=some [[.int 0]]:=(qQ T).2 ⟨60,by kernel_rfl⟩
theorem cl5:(cA T).pc aMo [aKZ.row,aKZ.row]=some [[.bool true]]:=(qQ T).2 ⟨60,by kernel_rfl⟩
theorem a8I:nF L0:=⟨by simp[L0,aKZ,xF,mkL,zeroV,dA.wf,dA.wfs,aB.wf,aB.wfs,aCj],by unfold big;decide⟩
theorem a3e (R D st z v1:Row) (h1:(cA T2).pc kT [R]=some [st,[.bool true]]) (h2:(cA T2).pc aMm [R,st]=some [D,[.bool true]]) (h3:(cA T2).pc kT [D]=some [z,[.bool false]]) (h4:(cA T2).pc lT [D]=some [[.int 0]]):vY (cA T2) R v1 .bA=some (0,[.r [.sl [st]],.r [.int 0],.r D]):=by
 rw[aVL];unfold aCM
 simp only[h1,Option.bind_some,iD,fA,gA,iA,Bool.not_true,Bool.false_eq_true,if_false,cC,aC,iC,xB,wC,rC,nD,jD,h2,a48,List.length_nil,List.length_cons,Nat.zero_add]
 have e:uE .bA [st]= .sl [st]:=rfl
 rw[if_pos (by omega),e,aVL];unfold aCM
 simp only[h3,Option.bind_some,iD,fA,gA,iA,Bool.not_false,if_true,h4,jA,bne_self_eq_false,Bool.false_eq_true,if_false,cC,aC,iC,xB,wC,rC,nD,jD]
theorem aZL:(cA T2).pc aFe [L0.row]=some [aKZ.row,[.sl [aAC [] 1 0]],[.int 0]]:=by
 rw[a1c];unfold aOs
 have hn:L0.norm=L0:=rfl
 have hcp:=up (aH1 L0 a8I.mB)
 rw[hn]at hcp
 have hz:uT L0=0:=by
  have h1:=aMG L0 a8I
  rw[cl1]at h1
  injection h1 with h1;injection h1 with h1;injection h1 with h1;injection h1 with h1
  exact h1.symm
 have hg:sB [L0.row,aAC [] 1 0]=_:=aYi L0 a8I (iJ true (dB [])) [] ((1:Nat):Int) ((0:Nat):Int) (aYh [] _ _)
 have hp:bV ((1:Nat):Int) ((0:Nat):Int) [] L0.norm=some aKZ:=rfl
 rw[hz,hp]at hg
 have hu:(cA T2).pc aMm [L0.row,aAC [] 1 0]=sB [L0.row,aAC [] 1 0]:=bHi _
 have r1:=fun v1=>a3e L0.row aKZ.row (aAC [] 1 0) [.bA,.int 0,.int 0] v1 (up cl2) (hu.trans (hg.trans (by rw[if_pos rfl]))) (up cl3) (up cl4)
 have r2:=up cl1
 generalize L0.row=R at*
 generalize aKZ.row=D at*
 simp only[r2,Option.bind_some,fA,gA,jA,bne_self_eq_false,Bool.false_eq_true,if_false,hcp,r1,cC,aC,iC,xB,wC,rC,nD,jD]
theorem aZM:(cA T2).pc aBu []=some [[.bool true]]:=by
 rw[a1d];unfold aDX
 have d1:=up a8H
 have d2:=aZL
 have d3:=up a1g
 have d4:=up cl5
 have e:L0.row=[.int 1,.str [],.str [],.bA,.int 0,.int 0,.int 0,.int 0,.int 0,.int 0,.str [],.bA,.bA,.sl ([[.int 0,.str [],.str [],.bA,.int 0,.int 0,.int 0,.int 0,.int 0,.int 0,.str [],.bA,.bA,.bA],aKZ.row]:List Row)]:=rfl
 rw[e]at d2
 have h3:((at_ (aAC [] 1 0) 1).tA==1)=true:=rfl
 generalize aKZ.row=D at*
 generalize aAC [] 1 0=S at*
 have h1:(0:Int)≤0∧(0:Int)<((1:Nat):Int):=⟨by omega,by omega⟩
 have h2:(((1:Nat):Int)==1)=true:=rfl
 simp only[d1,d2,d3,Option.bind_some,iD,fA,gA,iA,jA,if_true,beq_self_eq_true,aCi,List.length_cons,List.length_nil,Nat.zero_add,h1,h2,h3,and_self,d4]
theorem law (l:dA) (hw:l.wf) (hb:l.mB≤big):(cA T2).pc 3 [l.row]=some [[.bool true]]:=by
 have h:nF l:=⟨hw,hb⟩
 obtain ⟨sts,e,o,o',e1,e2,e3,e4,e5,e6⟩:=a5N l h
 refine (bAs l.row).trans ?_
 unfold aBt
 rw[aZM]
 have hq:=up (aTo o o' e4)
 rw[a1f o o' e3]at hq
 simp only[Option.bind_some,iD,fA,gA,iA,Bool.not_true,Bool.false_eq_true,if_false,e1,up e2,jA,beq_self_eq_true,if_true,hq,up (aZK sts e5 e6)]
end Go.Ev.jJ
