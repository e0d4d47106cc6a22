/-
  The table in which norm.Use is given.
-/
import Derived.Test.YtdhebofenihjmaaGreatDoorZzkW
import Derived.Test.YtdhebofenihjmaaGreatDoorZzkTb
import Derived.Test.YtdhebofenihjmaaGreatDoorZNe
set_option linter.all false
set_option maxRecDepth 100000
namespace Go.Ev.dJ
open Go.Proofs (Tryz.prog)
noncomputable def T2 (f:Nat):yF:=TW sB f
theorem bAc (G:List Row→Option (List Row)):a5x G=(a5x wA).set 21 (.given [.agg (full ksL 29),aMW] [.agg (full ksL 29),.one .bool] G):=rfl
theorem a8p {f:Nat} (h:f≠21) (G:List Row→Option (List Row)):TW G f=T f:=by
 show aTv (a5x G) gl f=aTv (a5x wA) gl f
 unfold aTv
 split
 ·rw[bAc G,List.getD_eq_getElem?_getD,List.getElem?_set_ne (fun e=>h e.symm),List.getD_eq_getElem?_getD]
 ·rfl
theorem bEf:T 21= .given [.agg (full ksL 29),aMW] [.agg (full ksL 29),.one .bool] wA:=rfl
theorem bEg (f:Nat):(T2 f).sig=(T f).sig:=by
 by_cases h:f=21
 ·subst h;rfl
 ·show (TW sB f).sig=_
  rw[a8p h]
theorem a4g (g:Nat):T2 (oZ+g)=T (oZ+g):=a8p (by unfold oZ;omega) sB
theorem aZA {P:Program} {T T':Nat→yF} (hT:∀f,(T f).sig=(T' f).sig) {S:yA} {k:K} {v:Value} {c:C} (h:gO P T S k v c):gO P T' S k v c:=by
 induction h with
 |int=>exact .int
 |bool=>exact .bool
 |str=>exact .str
 |bA=>exact .bA
 |sl f h1 h2 h3 h4 h5 h6 _ ih=>exact .sl f h1 h2 h3 h4 h5 h6 ih
 |aM5=>exact .aM5
 |fn vs h1 h2 _ ih=>
  obtain ⟨pt,rt,v,ps,rs,a1,a2,a3,a4⟩:=h1
  exact .fn vs ⟨pt,rt,v,ps,rs,a1,a2,a3,by rw[←hT];exact a4⟩ h2 ih
 |ref f h1 h2 h3 h4 _ ih=>exact .ref f h1 h2 h3 h4 ih
 |aTm=>exact .aTm
 |aYu=>exact .aYu
 |anyI=>exact .anyI
theorem a8q {P:Program} {T T':Nat→yF} (hT:∀f,(T f).sig=(T' f).sig) {S:yA} {l:L} {v:Value} {row:Row} (h:cF P T S l v row):cF P T' S l v row:=by
 cases l with
 |one k=>obtain ⟨c,hc,hr⟩:=h;exact ⟨c,hc,aZA hT hr⟩
 |agg ks=>obtain ⟨cs,hc,hr⟩:=h;exact ⟨cs,hc,hr.mL,hr.aBQ,fun j k hk=>aZA hT (hr.cell j k hk)⟩
theorem a03 {P:Program} {T T':Nat→yF} (hT:∀f,(T f).sig=(T' f).sig) {S:yA} {ps:List L} {vs:List Value} {rows:List Row} (h:fE P T S ps vs rows):fE P T' S ps vs rows:=
 ⟨h.aNo,h.aBQ,fun i l hi=>a8q hT (h.arg i l hi)⟩
theorem bEh:aIn Tryz.prog T2 21 [.agg (full ksL 29),aMW] [.agg (full ksL 29),.one .bool] sB:=by
 intro rows out h S w vs hin hg hz ha
 have hs:∀f,(T2 f).sig=(T f).sig:=bEg
 have hg':hO Tryz.prog T S:=fun g t l row e=>aZA hs (hg g t l row ((a4g g).trans e))
 have hz':xM T w:=fun g t l row e=>hz g t l row ((a4g g).trans e)
 obtain ⟨a,b,rfl⟩:∃a b,vs=[a,b]:=by
  match vs,ha.aNo with
  |[a,b],_=>exact ⟨a,b,rfl⟩
 refine ⟨Go.Proofs.enters_of Go.Proofs.Tryz.func21 (by kernel_rfl) rfl .., ?_⟩
 refine (a5y (fun v hv=>aHN v hv) (fun l hl=>aHO l hl) rows out h S w [a,b] hin hg' hz' (a03 hs ha)).mono ?_
 rintro e w' ⟨out',S',e1,e2,e3,e4⟩
 exact ⟨out',S',e1,e2,e3,a03 (fun f=>(hs f).symm) e4⟩
theorem bEi:aIn Go.Proofs.Tryz.prog T2 66 [.one (.int .i64)] [.one .str] aXQ:=aVd (f:=66) (g:=3) (t:=209) (l:=(.agg [.int .u64,.int .u64,.int .u64,.int .u64,.int .u64,.int .u64,.int .u64,.int .u64,.int .u64,.int .u64,.int .u64,.int .u64,.int .u64,.int .u64,.int .u64,.int .u64,.int .u64,.int .u64,.int .u64,.int .u64])) (row:=lF) (Go.Proofs.enters_of Go.Proofs.Tryz.func66 (by kernel_rfl) rfl) rfl (by kernel_rfl) (aC (by kernel_rfl)) (by kernel_rfl) (by kernel_rfl) (fun n h0 h1 w ht=>Go.Proofs.Tryz.strconv_Itoa n h0 h1 w ht)
theorem bEj:a0J Go.Proofs.Tryz.prog T2:=aXO ⟨trivial,trivial,trivial,bGZ sB,bG0 sB,bG1 sB,bG2 sB,bG3 sB,bG4 sB,bG5 sB,bA8 sB,bA9 sB,bBa sB,bBb sB,bBc sB,bBd sB,bBe sB,bBf sB,bBg sB,bBh sB,bBi sB,bEh,bBj sB,bBk sB,bBl sB,bBm sB,bBn sB,bBo sB,bBp sB,bBq sB,bBr sB,bBs sB,bBt sB,bBu sB,bBv sB,bBw sB,bBx sB,bBy sB,bBz sB,bBA sB,bBB sB,bBC sB,bBD sB,bBE sB,bBF sB,trivial,bBG sB,bBH sB,bBI sB,bBJ sB,bBK sB,bBL sB,bBM sB,bBN sB,bBO sB,bBP sB,bBQ sB,bBR sB,bBS sB,bBT sB,trivial,bBU sB,bBV sB,trivial,bBW sB,bBX sB,bEi,trivial,bBY sB,bBZ sB,bB0 sB,bB1 sB,bB2 sB,bB3 sB,bB4 sB,trivial,trivial,bB5 sB,bB6 sB,bB7 sB,bB8 sB,bB9 sB,bCa sB,bCb sB,bCc sB,bCd sB,bCe sB,trivial,bCf sB,trivial,bCg sB,bCh sB,bCi sB,bCj sB,bCk sB,trivial,bCl sB,bA7,bCm sB,bCn sB,a7s sB,a7t sB,trivial,a7u sB,a7v sB,a7w sB,a7x sB,a7y sB,trivial,a7z sB,trivial,a7r,a7A sB,trivial,trivial,trivial,trivial,trivial,a7B sB,a7C sB,trivial,a7D sB,a7E sB,trivial,trivial,trivial,trivial,trivial,a7F sB,trivial,a7G sB,trivial,trivial,trivial,trivial,trivial,trivial,trivial,trivial,trivial,trivial,trivial,trivial,trivial,trivial,trivial,trivial,trivial,trivial,trivial,trivial,trivial,trivial,trivial,trivial,trivial,trivial,trivial,trivial,trivial,trivial,trivial,trivial,trivial,trivial,trivial,trivial,trivial,trivial,trivial,trivial,trivial,trivial,trivial,trivial,trivial,a7H sB,a7I sB,a7J sB,a7K sB,a7L sB,a7M sB,a7N sB,a7O sB,a7P sB,a7Q sB,a7R sB,a7S sB,a7T sB,a7U sB,a7V sB,a7W sB,a7X sB,a7Y sB,a7Z sB,a71 sB,a73 sB,a74 sB,a77 sB,a78 sB,a79 sB,a8a sB,a8b sB,trivial⟩ (by kernel_rfl)
theorem bG8:a8r T T2:=fun g=>by
 by_cases h:g=21
 ·subst h
  exact ⟨fun af e=>(by rw[bEf]at e;cases e),fun ps rs G e=>(by rw[bEf]at e;injection e with e1 e2 e3;subst e1;subst e2;subst e3;exact ⟨sB,rfl,fun r o h=>by cases h⟩),fun af e=>(by rw[bEf]at e;cases e)⟩
 ·have e0:T2 g=T g:=a8p h sB
  exact ⟨fun af e=>e0.trans e,fun ps rs G e=>⟨G,e0.trans e,fun r o h=>h⟩,fun af e=>e0.trans e⟩
theorem up {f:Nat} {r o:List Row} (h:(eA T).pc f r=some o):(eA T2).pc f r=some o:=bAd bG8 h
theorem bG9 (rows:List Row):(eA T2).pc 21 rows=sB rows:=aXM T2 (rfl:T2 21= .given _ _ sB) rows
theorem aOZ (p0:Row):(eA T2).pc aBL [p0]=aOl (eA T2) p0:=(nA T2 (rfl:T2 9= .code aIy) _).trans (aZi _ p0)
theorem aJW:nY (eA T2)=aCy (eA T2) (nY (eA T2)):=lq (fun G v0 v1 v2=>G (aGS v0 v1 v2)) (aZh (eA T2) _)
theorem aNW:(eA T2).pc aBi []=aDI (eA T2):=(nA T2 (rfl:T2 4= .code bT) _).trans (aOA _)
theorem aW8 (p0:Row) (p1:Row):(eA T2).pc aNL [p0,p1]=aR5 (eA T2) p0 p1:=(nA T2 (rfl:T2 5= .code aIB) _).trans (aZk _ p0 p1)
theorem aJX:oY (eA T2)=aCA (eA T2) (oY (eA T2)):=lq (fun G v0 v1 v2 v3 v4 v5=>G (aGT v0 v1 v2 v3 v4 v5)) (aZj (eA T2) _)
theorem aMx (p0:Row) (p1:Row):(eA T2).pc aNV [p0,p1]=aBh (eA T2) p0 p1:=(nA T2 (rfl:T2 3= .code fP) _).trans (aM2 _ p0 p1)
theorem mF:zC (eA T2)=nD (eA T2) (zC (eA T2)):=lq (fun G v0 v1 v2 v3 v4 v5 v6=>G (zN v0 v1 v2 v3 v4 v5 v6)) (aM1 (eA T2) _)
end Go.Ev.dJ
namespace Go.Ev.dJ
theorem aMy:∀l:dA,nodes l.norm=(nodes l).map dA.norm:=by
 intro l
 have h:∀k∈l.kids,nodes k.norm=(nodes k).map dA.norm:=fun k hk=>by
  have:=dA.sD hk
  exact aMy k
 have key:∀ks:List dA,(∀k∈ks,nodes k.norm=(nodes k).map dA.norm)→yB (ks.map dA.norm)=(yB ks).map dA.norm:=by
  intro ks
  induction ks with
  |nil=>intro _;simp[yB]
  |cons a r ih=>intro hk;simp only[List.map_cons,yB,List.map_append,hk a (by simp),ih (fun x hx=>hk x (by simp[hx]))]
 rw[nodes_eq,nodes_eq l,aAX,key _ h,List.map_cons]
 termination_by l=>SizeOf.sizeOf l
theorem aTe:∀l:dA,levels l.norm=levels l:=by
 intro l
 have h:∀k∈l.kids,levels k.norm=levels k:=fun k hk=>by
  have:=dA.sD hk
  exact aTe k
 have key:∀ks:List dA,(∀k∈ks,levels k.norm=levels k)→tB (ks.map dA.norm)=tB ks:=by
  intro ks
  induction ks with
  |nil=>intro _;simp[tB]
  |cons a r ih=>intro hk;simp only[List.map_cons,tB,hk a (by simp),ih (fun x hx=>hk x (by simp[hx]))]
 rw[levels_eq,levels_eq l,aAX,key _ h]
 termination_by l=>SizeOf.sizeOf l
theorem a4h:∀l:dA,l.wf→l.norm.wf:=by
 intro l hw
 have h:∀k∈l.kids,k.norm.wf:=fun k hk=>by
  have:=dA.sD hk
  exact a4h k (dA.a2i hw hk)
 rw[aVu]
 cases l
 simp only[dA.wf]at hw
 simp only[dA.wf,dA.op,dA.n,dA.low,dA.high,dA.sep,dA.v,dA.pairs]
 refine ⟨hw.1,hw.2.1,hw.2.2.1,hw.2.2.2.1,hw.2.2.2.2.1,hw.2.2.2.2.2.1,hw.2.2.2.2.2.2.1,aQc fun x hx=> ?_⟩
 obtain ⟨k,hk,rfl⟩:=List.mem_map.1 hx
 exact h k hk
 termination_by l=>SizeOf.sizeOf l
theorem aF.norm {l:dA} (h:aF l):aF l.norm:=⟨a4h l h.wf,by rw[aRB];exact h.fB⟩
theorem ArA.norm {l:dA} (h:ArA l):ArA l.norm:=fun x hx=>by
 rw[aMy]at hx
 obtain ⟨y,hy,rfl⟩:=List.mem_map.1 hx
 intro ho hk
 rw[aKM]at ho
 rw[aAX]at hk
 exact h y hy ho (List.map_eq_nil_iff.1 hk)
theorem aVD {l:dA} (h:aF l) {f:Fl} {w u:Bytes} (h0:0≤l.op) (h1:l.op<19) (ho:aFW l.op f w u):uX l=aO0 l f:=by
 have e:=aX4 l h f w u h0 h1 ho
 unfold uX;rw[e]
theorem aX5 {l:dA} (h:aF l) (hr:¬(0≤l.op∧l.op<19)):uX l=1:=by
 have e:(eA T).pc eX [l.row]=some [[.int 1]]:=by
  rw[aMt];unfold aKn
  refine yH.eq (.bind (R:=fun r=>r=(0,[.r [.dp l.row],.r [.bool true]])) ?_ ?_)
  ·refine .ite (fun e=> .some rfl) fun e=> .some ?_
   have e':¬l.op<0:=fun x=>e (decide_eq_true x)
   have:decide ((at_ l.row 0).uA≥19)=true:=decide_eq_true (show l.op≥19 by omega)
   rw[this]
  ·rintro r rfl;exact .some rfl
 unfold uX;rw[e]
theorem a2U (l:dA) (f:Fl):aO0 l.norm f=aO0 l f:=by
 unfold aO0 aSx aIF aUp aNX aHP
 simp only[aKM,aOm,a0R,aVs,bD8,a2I,aZs,aZt,a98,aVt,aAX,List.length_map]
theorem a2V {l:dA} (h:aF l):uX l.norm=uX l:=by
 by_cases hr:0≤l.op∧l.op<19
 ·obtain ⟨f,w,u,ho⟩:=a4i hr.1 hr.2
  rw[aVD h hr.1 hr.2 ho,aVD h.norm (by rw[aKM];exact hr.1) (by rw[aKM];exact hr.2) (by rw[aKM];exact ho),a2U]
 ·rw[aX5 h hr,aX5 h.norm (by rw[aKM];exact hr)]
theorem aTf:∀ls:List dA,(∀l∈ls,aF l)→cJ (ls.map dA.norm)=cJ ls
 |[],_=>rfl
 |l::r,h=>by
  simp only[List.map_cons,cJ,a2V (h l (by simp)),aTf r (fun x hx=>h x (by simp[hx]))]
theorem aTg {l:dA} (h:aF l):mD l.norm=mD l:=by
 unfold mD
 rw[aMy,aTe,List.length_map,aTf _ (aNY l h)]
theorem aTh:∀ls:List dA,cJ ls=0→∀l∈ls,uX l=0
 |[],_,l,h=>by cases h
 |a::r,e,l,h=>by
  simp only[cJ]at e
  by_cases ha:uX a=0
  ·rw[if_neg (by simp[ha])]at e
   rcases List.mem_cons.1 h with rfl |h
   ·exact ha
   ·exact aTh r e l h
  ·rw[if_pos ha]at e;exact absurd e ha
theorem aVE {l:dA} (h:mD l=0):∀x∈nodes l,uX x=0:=by
 unfold mD at h
 split at h
 ·cases h
 ·exact aTh _ h
theorem a2W {l:dA} {f:Fl} (h:aO0 l f=0):aIF l f=false:=by
 unfold aO0 at h
 split at h
 ·cases h
 ·split at h
  ·cases h
  ·rename_i h1;simpa using h1
theorem aX6 {x:dA} (h:aF x) (hv:uX x=0) (ho:x.op=2∨x.op=13∨x.op=14):x.kids≠[]:=by
 intro hk
 have key:∀(f:Fl) (w u:Bytes),aFW x.op f w u→0≤x.op→x.op<19→(f.k=1∨f.k= -1)→False:=by
  intro f w u hop h0 h1 hf
  rw[aVD h h0 h1 hop]at hv
  have:=a2W hv
  unfold aIF at this
  rw[hk]at this
  rcases hf with e |e<;>rw[e]at this<;>simp at this
 rcases ho with e |e |e
 ·exact key _ _ _ (by rw[e];exact op2) (by omega) (by omega) (.inl rfl)
 ·exact key _ _ _ (by rw[e];exact bHa) (by omega) (by omega) (.inl rfl)
 ·exact key _ _ _ (by rw[e];exact bHb) (by omega) (by omega) (.inr rfl)
theorem aVF {l:dA} (h:aF l) (hc:mD l=0):ArA l∧aNU l:=
 ⟨fun x hx ho=>aX6 (aNY l h x hx) (aVE hc x hx) (by omega),fun x hx ho=>aX6 (aNY l h x hx) (aVE hc x hx) (by omega)⟩
theorem aNU.norm {l:dA} (h:aNU l):aNU l.norm:=fun x hx=>by
 rw[aMy]at hx
 obtain ⟨y,hy,rfl⟩:=List.mem_map.1 hx
 intro ho hk
 rw[aKM]at ho
 rw[aAX]at hk
 exact h y hy ho (List.map_eq_nil_iff.1 hk)
def bEk:Option dA→Row×Bool
 |some o=>(o.row,true)
 |none=>(uC,false)
theorem bAe (l:dA) {n:Nat} (hn:n<l.kids.length) (o:dA):l.row.set 13 (.sl ((l.kids.map dA.row).set n o.row))=(aJU l (l.kids.set n o)).row:=by
 obtain ⟨x,y,hxy⟩:∃x y,l.kids.set n o=x::y:=by
  cases hk2:l.kids.set n o with
  |nil=>
   have:=congrArg List.length hk2
   simp at this
   rw[this]at hn;simp at hn
  |cons x y=>exact ⟨x,y,rfl⟩
 rw[←List.map_set,hxy,a0W]
 rfl
theorem aX7 (r a:Int) (c:C):∀(p:List Int) (l:dA),aF l→ArA l→aTY [c,.int r,.int a] p l.row=some (bEk (rU r a p l))
 |[],l,h,hA=>by
  rw[aTY]
  have e:(eA T).pc 44 [l.row,[c,.int r,.int a],[.sl []]]=some (match xT l r a with |some o=>[o.row,[.bool true]]|none=>[uC,[.bool false]]):=by
   refine (aIE l.row [c,.int r,.int a] (.sl [])).trans ?_
   unfold aNM
   have hl:=aVy l h hA.kids r a
   rw[if_pos (by rfl)]
   have e1:([.int ((at_ l.row 0).uA),.str ((at_ l.row 1).qE),.str ((at_ l.row 2).qE),at_ l.row 3,.int ((at_ l.row 4).uA),.int ((at_ l.row 5).uA),.int ((at_ l.row 6).uA),.int ((at_ l.row 7).uA),.int ((at_ l.row 8).uA),.int ((at_ l.row 9).uA),.str ((at_ l.row 10).qE),at_ l.row 11,at_ l.row 12,at_ l.row 13]:Row)=l.row:=rfl
   have e2:(at_ ([c,.int r,.int a]:Row) 1).uA=r:=rfl
   have e3:(at_ ([c,.int r,.int a]:Row) 2).uA=a:=rfl
   rw[e1,e2,e3,hl,Option.bind_some]
   cases xT l r a<;>rfl
  rw[e]
  unfold rU
  cases xT l r a<;>rfl
 |i::p,l,h,hA=>by
  rw[aTY]
  have hrow:(at_ l.row 13).rows=l.kids.map dA.row:=by rw[vC,dA.gD]
  rw[hrow,List.length_map]
  unfold rU
  by_cases hi:0≤i∧i<(l.kids.length:Int)
  ·rw[if_pos hi,if_pos hi]
   obtain ⟨n,rfl⟩:=Int.eq_ofNat_of_zero_le hi.1
   have hn:n<l.kids.length:=by omega
   rw[Int.toNat_natCast,iC _ _ _ hn,lZ hn,aX7 r a c p l.kids[n] (h.kid (List.getElem_mem hn)) (hA.kid (List.getElem_mem hn))]
   cases rU r a p l.kids[n]with
   |none=>rfl
   |some o=>
    show some (l.row.set 13 (.sl ((l.kids.map dA.row).set n o.row)),true)=_
    rw[bAe l hn o];rfl
  ·rw[if_neg hi,if_neg hi];rfl
theorem aX8 (p:List Int) (x y:C):pathOf [nK true (mB p),x,y]=p:=by
 unfold pathOf
 show (nK true (mB p)).rows.map _=p
 rw[kC]
 unfold mB
 rw[List.map_map]
 exact List.map_id' p
theorem aX9 (l:dA) (h:aF l) (c:C) (p:List Int) (r a:Int) (hc:pathOf [c,.int r,.int a]=p):sB [l.row,[c,.int r,.int a]]=some (if mD l=0 then (match rU r a p l.norm with |some o=>[o.row,[.bool true]]|none=>[uC,[.bool false]])else [uC,[.bool false]]):=by
 unfold sB
 dsimp only
 have h13:(eA T).pc 13 [l.row]=some [[.int (mD l)]]:=aDZ l h
 have h14:(eA T).pc 19 [l.row]=some [l.norm.row]:=aHO l h.fB
 rw[if_pos ⟨l,rfl,h.fB⟩,h13,h14,hc]
 show (if mD l=0 then ((aTY [c,.int r,.int a] p l.norm.row).map fun q=>[q.1,[.bool q.2]])else some [uC,[.bool false]])=_
 by_cases hz:mD l=0
 ·rw[if_pos hz,if_pos hz,aX7 r a c p l.norm h.norm (aVF h hz).1.norm]
  cases rU r a p l.norm<;>rfl
 ·rw[if_neg hz,if_neg hz]
end Go.Ev.dJ
namespace Go.Ev.dJ
theorem aYa (a b:dA) (hl:a.names.length=b.names.length) (hN:a.names.length≤big):∀(j i:Nat),i+j=a.names.length→
 yV (eA T) (.dp a.row) (.dp b.row) (a.names.length:Int) (i:Int)=if nL (fun a b=>a==b) (a.names.drop i) (b.names.drop i)=true then some (0,[.r [.dp a.row],.r [.dp b.row]])else some (1,[.r [.bool false]])
 |0,i,h=>by
  rw[aE7]
  unfold zV
  have:¬(i:Int)<(a.names.length:Int):=by omega
  rw[List.drop_eq_nil_of_le (by omega),List.drop_eq_nil_of_le (by omega)]
  simp[this,nL]
 |j+1,i,h=>by
  rw[aE7]
  unfold zV
  have h1:i<a.names.length:=by omega
  have h2:i<b.names.length:=by omega
  have ih:=aYa a b hl hN j (i+1) (by omega)
  rw[List.drop_eq_getElem_cons h1,List.drop_eq_getElem_cons h2]
  have g1:(i:Int)<(a.names.length:Int):=by omega
  have g2:(i:Int)<(b.names.length:Int):=by omega
  have g0:(0:Int)≤(i:Int):=by omega
  simp only[dB,sA,aF6,kC,iC,List.length_map,Int.toNat_natCast,h1,h2,a9B,rA,xB (show i≤big by omega),ih,nL,g1,g2,g0,decide_true,and_self,if_true]
  by_cases hc:a.names[i]=b.names[i]<;>simp[hc]
theorem aYb (a b:dA) (hl:a.pairs.length=b.pairs.length) (hN:a.fB≤big):∀(j i:Nat),i+j=a.pairs.length→
 bW (eA T) (.dp a.row) (.dp b.row) (a.pairs.length:Int) (i:Int)=if nL aRA (a.pairs.drop i) (b.pairs.drop i)=true then some (0,[.r [.dp a.row],.r [.dp b.row]])else some (1,[.r [.bool false]])
 |0,i,h=>by
  rw[aE8]
  unfold cW
  have:¬(i:Int)<(a.pairs.length:Int):=by omega
  rw[List.drop_eq_nil_of_le (by omega),List.drop_eq_nil_of_le (by omega)]
  simp[this,nL]
 |j+1,i,h=>by
  rw[aE8]
  unfold cW
  have hbe:=a.eG
  have hpl:=s9 a.pairs
  have h1:i<a.pairs.length:=by omega
  have h2:i<b.pairs.length:=by omega
  have ih:=aYb a b hl hN j (i+1) (by omega)
  rw[List.drop_eq_getElem_cons h1,List.drop_eq_getElem_cons h2]
  have g1:(i:Int)<(a.pairs.length:Int):=by omega
  have g2:(i:Int)<(b.pairs.length:Int):=by omega
  have g0:(0:Int)≤(i:Int):=by omega
  have hm:=u9 (List.getElem_mem h1)
  have s1:=aDY a.pairs[i].1 b.pairs[i].1 (by omega)
  have s2:=aDY a.pairs[i].2 b.pairs[i].2 (by omega)
  simp only[dB,sA,aEQ,kC,iC,List.length_map,Int.toNat_natCast,h1,h2,aZZ,aZ0,aZ1,aZ2,aZ3,aZ4,aZ5,aZ6,aHe,s1,s2,xB (show i≤big by omega),ih,nL,g1,g2,g0,decide_true,and_self,if_true,Option.bind_some,cA,gA,jA,aRA]
  by_cases e1:a.pairs[i].1.eqv b.pairs[i].1=true
  ·by_cases e2:a.pairs[i].2.eqv b.pairs[i].2=true<;>simp[e1,e2]
  ·simp[e1]
theorem aYc (a b:dA) (hl:a.kids.length=b.kids.length) (hN:a.fB≤big) (hc:∀p∈a.kids,∀q:dA,(eA T).pc bE [p.row,q.row]=some [[.bool (p.eqv q)]]):∀(j i:Nat),i+j=a.kids.length→
 eW (eA T) (.dp a.row) (.dp b.row) (a.kids.length:Int) (i:Int)=if nL dA.eqv (a.kids.drop i) (b.kids.drop i)=true then some (0,[])else some (1,[.r [.bool false]])
 |0,i,h=>by
  rw[aE9]
  unfold fW
  have:¬(i:Int)<(a.kids.length:Int):=by omega
  rw[List.drop_eq_nil_of_le (by omega),List.drop_eq_nil_of_le (by omega)]
  simp[this,nL]
 |j+1,i,h=>by
  rw[aE9]
  unfold fW
  have hbe:=a.eG
  have hpl:=dA.aBo a.kids
  have h1:i<a.kids.length:=by omega
  have h2:i<b.kids.length:=by omega
  have ih:=aYc a b hl hN hc j (i+1) (by omega)
  rw[List.drop_eq_getElem_cons h1,List.drop_eq_getElem_cons h2]
  have g1:(i:Int)<(a.kids.length:Int):=by omega
  have g2:(i:Int)<(b.kids.length:Int):=by omega
  have g0:(0:Int)≤(i:Int):=by omega
  have s1:=hc _ (List.getElem_mem h1) b.kids[i]
  simp only[dB,sA,vC,dA.gD,iC,List.length_map,Int.toNat_natCast,h1,h2,s1,xB (show i≤big by omega),ih,nL,g1,g2,g0,decide_true,and_self,if_true,Option.bind_some,cA,gA,jA]
  by_cases e1:a.kids[i].eqv b.kids[i]=true<;>simp[e1]
theorem a8s {α:Type} {f:α→α→Bool} {l r:List α} (h:¬l.length=r.length):nL f l r=false:=by
 cases e:nL f l r
 ·rfl
 ·exact absurd (aUD e) h
theorem aNZ (a b:dA) (hN:a.fB≤big):(eA T).pc bE [a.row,b.row]=some [[.bool (a.eqv b)]]:=by
 have hbe:=a.eG
 have aBk:∀p∈a.kids,∀q:dA,(eA T).pc bE [p.row,q.row]=some [[.bool (p.eqv q)]]:=by
  intro p hp q
  have:=dA.sD hp
  have hb':=dA.aEP hp
  exact aNZ p q (by omega)
 have hv:=aDY a.v b.v (by omega)
 rw[aRb]
 unfold aHA
 rw[a.aPc]
 simp only[xC,sG,vR,aF6,aT9,aOd,aOe,aK7,aIi,aQd,aNg,aNh,aHe,hv,iA,rA]
 by_cases h0:a.op=b.op
 case neg=>simp[h0]
 by_cases h1:a.name=b.name
 case neg=>simp[h0,h1]
 by_cases h2:a.to=b.to
 case neg=>simp[h0,h1,h2]
 by_cases h3:a.n=b.n
 case neg=>simp[h0,h1,h2,h3]
 by_cases h4:a.low=b.low
 case neg=>simp[h0,h1,h2,h3,h4]
 by_cases h5:a.high=b.high
 case neg=>simp[h0,h1,h2,h3,h4,h5]
 by_cases h6:a.sep=b.sep
 case neg=>simp[h0,h1,h2,h3,h4,h5,h6]
 simp only[h0,h1,h2,h3,h4,h5,h6,bne_self_eq_false,beq_self_eq_true,Bool.not_true,Bool.false_eq_true,if_false,Option.bind_some,oD,eC,wC,cC,dF,eD,uB,qC,zB,yE,gA,jA,dB,if_true,sA,cA,Bool.true_and]
 by_cases e0:a.v.eqv b.v=true
 case neg=>simp[e0]
 simp only[e0,Bool.not_true,Bool.false_eq_true,if_false,Bool.true_and,aF6,aEQ,vC,kC,dA.gD,List.length_map]
 by_cases l0:a.names.length=b.names.length
 case neg=>
  have e:((a.names.length:Int) !=(b.names.length:Int))=true:=by simp;omega
  have:¬a.names=b.names:=fun h=>l0 (by rw[h])
  simp[e,this]
 have el0:((a.names.length:Int) !=(b.names.length:Int))=false:=by simp[l0]
 by_cases l1:a.pairs.length=b.pairs.length
 case neg=>
  have e:((a.pairs.length:Int) !=(b.pairs.length:Int))=true:=by simp;omega
  simp[e,el0,a8s l1]
 have el1:((a.pairs.length:Int) !=(b.pairs.length:Int))=false:=by simp[l1]
 by_cases l2:a.kids.length=b.kids.length
 case neg=>
  have e:((a.kids.length:Int) !=(b.kids.length:Int))=true:=by simp;omega
  simp[e,el0,el1,a8s l2]
 have el2:((a.kids.length:Int) !=(b.kids.length:Int))=false:=by simp[l2]
 have r0:=aYa a b l0 (by have:=uR a.names;omega) a.names.length 0 (by omega)
 have r1:=aYb a b l1 hN a.pairs.length 0 (by omega)
 have r2:=aYc a b l2 hN aBk a.kids.length 0 (by omega)
 simp only[Int.ofNat_zero,Int.natCast_zero,List.drop_zero]at r0 r1 r2
 rw[aZ7]at r0
 simp only[el0,el1,el2,Bool.false_eq_true,if_false,Option.bind_some,oD,eC,wC,cC,dF,eD,uB,qC,zB,yE,gA,jA,dB,if_true,sA,aF6,kC,List.length_map,r0]
 by_cases e1:a.names=b.names
 case neg=>simp[e1]
 simp only[e1,decide_true,if_true,Option.bind_some,oD,eC,wC,cC,dF,eD,uB,qC,zB,yE,gA,dB,sA,aEQ,kC,List.length_map,r1,Bool.true_and]
 by_cases e2:nL aRA a.pairs b.pairs=true
 case neg=>simp[e2]
 simp only[e2,if_true,Option.bind_some,oD,eC,wC,cC,dF,eD,uB,qC,zB,yE,gA,dB,sA,vC,dA.gD,List.length_map,r2,Bool.true_and]
 by_cases e3:nL dA.eqv a.kids b.kids=true<;>simp[e3]
 termination_by SizeOf.sizeOf a
end Go.Ev.dJ
namespace Go.Ev.dJ
theorem bCq:∀l:dA,mu l≤2*l.fB:=by
 intro l
 have h:∀k∈l.kids,mu k≤2*k.fB:=fun k hk=>by
  have:=dA.sD hk
  exact bCq k
 have key:∀ks:List dA,(∀k∈ks,mu k≤2*k.fB)→tot mu ks≤2*tot dA.fB ks:=by
  intro ks
  induction ks with
  |nil=>intro _;simp[tot]
  |cons a r ih=>intro hk;rw[qD,qD];have:=hk a (by simp);have:=ih (fun x hx=>hk x (by simp[hx]));omega
 have h1:=key _ h
 have h2:=aMw l
 have h3:wt l.op≤2:=by unfold wt;split<;>omega
 rw[aOY];omega
 termination_by l=>SizeOf.sizeOf l
theorem aVG (r a:Int):∀(p:List Int) (l o:dA),rU r a p l=some o→p.length+1≤l.fB
 |[],l,o,_=>by have:=l.aNe;simpa using this
 |i::p,l,o,e=>by
  unfold rU at e
  split at e
  ·rename_i hi
   obtain ⟨o',e1, -⟩:=Option.map_eq_some_iff.1 e
   have hm:l.kids.getD i.toNat nE∈l.kids:=aKb (by omega)
   have h1:=aVG r a p _ _ e1
   have h2:=dA.aEP hm
   simp only[List.length_cons];omega
  ·cases e
abbrev St3:Type:=List Int×Nat×Nat
def stR (s:St3):Row:=aAq s.1 s.2.1 s.2.2
theorem aYd (v1 v2:Row):∀(m:Nat) (l:dA) (acc:List St3),mu l≤m→aF l→ArA l→acc.length+mu l≤3*big→(∀s∈acc,s.1.length≤big)→
 ∃(sts:List St3) (e:Int) (o:dA),nY (eA T2) l.norm.row v1 (nK true (acc.map stR))=some (0,[.r [nK true (sts.map stR)],.r [.int e],.r o.norm.row])∧
  aR (eA T) l.row v2 (nK true (acc.map stR))=some (0,[.r [nK true (sts.map stR)],.r [.int e],.r o.row])∧o.fB≤big∧sts.length≤3*big∧∀s∈sts,s.1.length≤big
 |0,l,acc,hm,h,hA,hacc,hs=>by have:=aSv l;omega
 |m+1,l,acc,hm,h,hA,hacc,hs=>by
  rw[aJW,aOD]
  unfold aCy aDW
  have f1:=up (a2O l.norm h.norm hA.norm)
  rw[a0S]at f1
  have c1:=up (aDZ l.norm h.norm)
  rw[aTg h]at c1
  obtain ⟨r,o1,o2⟩:=a8l l h hA
  have c2:=vX l h
  have hsame:nE.norm.row=[.int 0,.str [],.str [],.bA,.int 0,.int 0,.int 0,.int 0,.int 0,.int 0,.str [],.bA,.bA,.bA]:=rfl
  have bJO:nE.row=[.int 0,.str [],.str [],.bA,.int 0,.int 0,.int 0,.int 0,.int 0,.int 0,.str [],.bA,.bA,.bA]:=rfl
  rw[f1,o1,c2]
  simp only[Option.bind_some,cA,gA,iA]
  have bCs:nE.fB≤big:=by unfold big;decide
  have hpos:=aSv l
  cases hf:aNR l with
  |none=>
   rw[hf]at o2
   have o2:r=_:=o2
   subst o2
   simp only[aNT,aD,cA,gA,jA,Bool.not_false,if_true,c1,Option.bind_some,iA,cC,zB,eC,uB,wC,qC,oD,eD]
   by_cases hc:mD l=0
   ·simp only[hc,bne_self_eq_false,Bool.false_eq_true,if_false]
    exact ⟨acc,0,l,rfl,rfl,h.fB,by omega,hs⟩
   ·simp only[aPR hc,if_true]
    exact ⟨[],2,nE,rfl,rfl,bCs,by simp,by simp⟩
  |some s=>
   obtain ⟨p,q,a⟩:=s
   rw[hf]at o2
   obtain ⟨o,op,rfl⟩:=o2
   have hu:(eA T2).pc aMb [l.norm.row,aAq p q a]=sB [l.norm.row,aAq p q a]:=bG9 _
   have hg:sB [l.norm.row,aAq p q a]=_:=aX9 l.norm h.norm (nK true (mB p)) p (q:Int) (a:Int) (aX8 p _ _)
   rw[aTg h,aSq,aXU,op]at hg
   simp only[aNT,aD,cA,gA,jA,Bool.not_true,Bool.false_eq_true,if_false,Option.bind_some,cC,zB,eC,uB,wC,qC,oD,eD,hu,hg]
   by_cases hc:mD l=0
   ·simp only[hc,bne_self_eq_false,Bool.false_eq_true,if_false,if_true,Option.bind_some,Option.map_some,aD,cA,gA,jA,Bool.not_true,kC,List.length_map,aG7]
    obtain ⟨k1,k2⟩:=aVF h hc
    obtain ⟨g1,g2⟩:=aX2 p hA k2 op
    have hd:=aVG _ _ p l o op
    have hb:l.fB≤4294967296:=h.fB
    have bMf:acc.length+mu l≤3*4294967296:=hacc
    have e1:acc.map stR++[aAq p q a]=(acc++[(p,q,a)]).map stR:=by rw[List.map_append];rfl
    have h2:(acc.length+[aAq p q a].length)*40≤140737488355328:=by simp only[List.length_cons,List.length_nil];omega
    rw[if_pos h2,if_pos h2,e1]
    exact aYd v1 v2 m o (acc++[(p,q,a)]) (by omega) ⟨a8m.rU p h.wf op,by show o.fB≤4294967296;omega⟩ (bEd.rU p hA op) (by simp only[List.length_append,List.length_cons,List.length_nil];omega) (fun s hs'=>by
     rcases List.mem_append.1 hs' with hs' |hs'
     ·exact hs s hs'
     ·rw[List.mem_singleton.1 hs'];show p.length≤4294967296;omega)
   ·simp only[hc,aPR hc,if_true,if_false,Option.bind_some,aD,cA,gA,jA,Bool.not_false]
    exact ⟨[],2,nE,rfl,rfl,bCs,by simp,by simp⟩
theorem a5z (l:dA) (h:aF l):∃(sts:List St3) (e:Int) (o o':dA),(eA T2).pc aBL [l.row]=some [o.row,[nK true (sts.map stR)],[.int e]]∧(eA T).pc aFR [l.row]=some [o'.row,[nK true (sts.map stR)],[.int e]]∧o.norm=o'.norm∧o.fB≤big∧sts.length≤3*big∧∀s∈sts,s.1.length≤big:=by
 rw[aOZ,aSp]
 unfold aOl aJJ
 rw[up (aDZ l h),vX l h]
 simp only[Option.bind_some,cA,gA,iA]
 by_cases hc:mD l=0
 ·simp only[hc,bne_self_eq_false,Bool.false_eq_true,if_false,up (aHO l h.fB),Option.bind_some,cA]
  have hb:l.fB≤4294967296:=h.fB
  obtain ⟨sts,e,o,e1,e2,e3,e4,e5⟩:=aYd [.int 0,.str [],.str [],.bA,.int 0,.int 0,.int 0,.int 0,.int 0,.int 0,.str [],.bA,.bA,.bA] [.int 0,.str [],.str [],.bA,.int 0,.int 0,.int 0,.int 0,.int 0,.int 0,.str [],.bA,.bA,.bA] (mu l) l [] (Nat.le_refl _) h (aVF h hc).1 (by have:=bCq l;show 0+mu l≤3*4294967296;omega) (by simp)
  have e1':nY (eA T2) l.norm.row _ .bA=_:=e1
  have e2':aR (eA T) l.row _ .bA=_:=e2
  rw[e1',e2']
  exact ⟨sts,e,o.norm,o,rfl,rfl,aSq o,by rw[aRB];exact e3,e4,e5⟩
 ·simp only[aPR hc,if_true]
  exact ⟨[],mD l,nE,nE,rfl,rfl,rfl,by unfold big;decide,by simp,by simp⟩
theorem aVH:∀(a b:dA),a.norm=b.norm→a.eqv b=true:=by
 intro a b h
 have hk:∀k∈a.kids,∀y:dA,k.norm=y.norm→k.eqv y=true:=fun k hk y=>by
  have:=dA.sD hk
  exact aVH k y
 have e0:=congrArg dA.op h
 have e1:=congrArg dA.name h
 have e2:=congrArg dA.to h
 have e3:=congrArg dA.n h
 have e4:=congrArg dA.low h
 have e5:=congrArg dA.high h
 have e6:=congrArg dA.sep h
 have e7:=congrArg dA.v h
 have e8:=congrArg dA.names h
 have e9:=congrArg dA.pairs h
 have e10:=congrArg dA.kids h
 simp only[aKM,aOm,a0R,bD8,a2I,aZs,aZt,a98,aVs,aVt,aAX]at e0 e1 e2 e3 e4 e5 e6 e7 e8 e9 e10
 have key:∀ks ks':List dA,ks.map dA.norm=ks'.map dA.norm→(∀k∈ks,∀y:dA,k.norm=y.norm→k.eqv y=true)→nL dA.eqv ks ks'=true:=by
  intro ks
  induction ks with
  |nil=>
   intro ks' e _
   cases ks' with
   |nil=>rfl
   |cons x r=>simp at e
  |cons a r ih=>
   intro ks' e hk
   cases ks' with
   |nil=>simp at e
   |cons x r'=>
    simp only[List.map_cons,List.cons.injEq]at e
    simp only[nL,hk a (by simp) x e.1,ih r' e.2 (fun y hy=>hk y (by simp[hy])),Bool.and_self]
 rw[dA.aPc,e0,e1,e2,e3,e4,e5,e6,e7,e8,e9,key _ _ e10 hk,aRz (fun p _=>by simp only[aRA,aB.aUE,Bool.and_self]),aB.aUE]
 simp
 termination_by a=>SizeOf.sizeOf a
def aKO:dA:= .mk 4 [98] [] true [] 0 0 0 0 (.mk 2 7 [] true []) true [] true []
def L0:dA:= .mk 1 [] [] true [] 0 0 0 0 zeroV true [] true [nE,aKO]
theorem a8t:(eA T).pc aFz []=some [aKO.row]:=(gQ T).2 ⟨10,by kernel_rfl⟩
theorem cl1:(eA T).pc aP [L0.row]=some [[.int 0]]:=(gQ T).2 ⟨60,by kernel_rfl⟩
theorem cl2:(eA T).pc aT [L0.row]=some [aAq [] 1 0,[.bool true]]:=(gQ T).2 ⟨60,by kernel_rfl⟩
theorem cl3:(eA T).pc aT [aKO.row]=some [[.bA,.int 0,.int 0],[.bool false]]:=(gQ T).2 ⟨60,by kernel_rfl⟩
theorem cl4:(eA T).pc aP [aKO.row]=some [[.int 0]]:=(gQ T).2 ⟨60,by kernel_rfl⟩
theorem cl5:(eA T).pc aMd [aKO.row,aKO.row]=some [[.bool true]]:=(gQ T).2 ⟨60,by kernel_rfl⟩
theorem a8u:aF L0:=⟨by simp[L0,aKO,nE,mkL,zeroV,dA.wf,dA.wfs,aB.wf,aB.wfs,aB5],by unfold big;decide⟩
theorem a2X (R D st z v1:Row) (h1:(eA T2).pc aT [R]=some [st,[.bool true]]) (h2:(eA T2).pc aMb [R,st]=some [D,[.bool true]]) (h3:(eA T2).pc aT [D]=some [z,[.bool false]]) (h4:(eA T2).pc aP [D]=some [[.int 0]]):nY (eA T2) R v1 .bA=some (0,[.r [.sl [st]],.r [.int 0],.r D]):=by
 rw[aJW];unfold aCy
 simp only[h1,Option.bind_some,aD,cA,gA,jA,Bool.not_true,Bool.false_eq_true,if_false,cC,zB,eC,uB,wC,qC,oD,eD,h2,a4S,List.length_nil,List.length_cons,Nat.zero_add]
 have e:wE .bA [st]= .sl [st]:=rfl
 rw[if_pos (by omega),e,aJW];unfold aCy
 simp only[h3,Option.bind_some,aD,cA,gA,jA,Bool.not_false,if_true,h4,iA,bne_self_eq_false,Bool.false_eq_true,if_false,cC,zB,eC,uB,wC,qC,oD,eD]
theorem aZB:(eA T2).pc aBL [L0.row]=some [aKO.row,[.sl [aAq [] 1 0]],[.int 0]]:=by
 rw[aOZ];unfold aOl
 have hn:L0.norm=L0:=rfl
 have hcp:=up (aHO L0 a8u.fB)
 rw[hn]at hcp
 have hz:mD L0=0:=by
  have h1:=aDZ L0 a8u
  rw[cl1]at h1
  injection h1 with h1;injection h1 with h1;injection h1 with h1;injection h1 with h1
  exact h1.symm
 have hg:sB [L0.row,aAq [] 1 0]=_:=aX9 L0 a8u (nK true (mB [])) [] ((1:Nat):Int) ((0:Nat):Int) (aX8 [] _ _)
 have hp:rU ((1:Nat):Int) ((0:Nat):Int) [] L0.norm=some aKO:=rfl
 rw[hz,hp]at hg
 have hu:(eA T2).pc aMb [L0.row,aAq [] 1 0]=sB [L0.row,aAq [] 1 0]:=bG9 _
 have r1:=fun v1=>a2X L0.row aKO.row (aAq [] 1 0) [.bA,.int 0,.int 0] v1 (up cl2) (hu.trans (hg.trans (by rw[if_pos rfl]))) (up cl3) (up cl4)
 have r2:=up cl1
 generalize L0.row=R at*
 generalize aKO.row=D at*
 simp only[r2,Option.bind_some,cA,gA,iA,bne_self_eq_false,Bool.false_eq_true,if_false,hcp,r1,cC,zB,eC,uB,wC,qC,oD,eD]
theorem aZC:(eA T2).pc aBi []=some [[.bool true]]:=by
 rw[aNW];unfold aDI
 have d1:=up a8t
 have d2:=aZB
 have d3:=up a04
 have d4:=up cl5
 have e:L0.row=[.int 1,.str [],.str [],.bA,.int 0,.int 0,.int 0,.int 0,.int 0,.int 0,.str [],.bA,.bA,.sl ([[.int 0,.str [],.str [],.bA,.int 0,.int 0,.int 0,.int 0,.int 0,.int 0,.str [],.bA,.bA,.bA],aKO.row]:List Row)]:=rfl
 rw[e]at d2
 have h3:((at_ (aAq [] 1 0) 1).uA==1)=true:=rfl
 generalize aKO.row=D at*
 generalize aAq [] 1 0=S at*
 have h1:(0:Int)≤0∧(0:Int)<((1:Nat):Int):=⟨by omega,by omega⟩
 have h2:(((1:Nat):Int)==1)=true:=rfl
 simp only[d1,d2,d3,Option.bind_some,aD,cA,gA,jA,iA,if_true,beq_self_eq_true,aB4,List.length_cons,List.length_nil,Nat.zero_add,h1,h2,h3,and_self,d4]
def thL (a b:dA):dA:=mkL 1 [] [] [a,b]
theorem a4j (a b:dA):(thL a b).row=[.int 1,.str [],.str [],.bA,.int 0,.int 0,.int 0,.int 0,.int 0,.int 0,.str [],.bA,.bA,.sl [a.row,b.row]]:=aUm 1 [] [] a [b]
theorem bEl {a b:dA} (ha:a.wf) (hb:b.wf) (hN:a.fB+b.fB+2≤big):aF (thL a b):=by
 refine ⟨a8m.mk' 1 [] [] [a,b] (by omega) (by omega) (fun k hk=> ?_) (by omega), ?_⟩
 ·rcases List.mem_cons.1 hk with rfl |hk
  ·exact ha
  ·rw[List.mem_singleton.1 hk];exact hb
 ·show (mkL 1 [] [] [a,b]).fB≤big
  rw[aHM,qD,qD,qJ]
  simp only[List.length_nil]
  omega
theorem bAf (a b:Row):(0:Int)≤0∧(0:Int)<((C.sl [a,b]).rows.length:Int):=⟨by decide,(by decide:(0:Int)<((2:Nat):Int))⟩
theorem bEm (a b:Row):(0:Int)≤1∧(1:Int)<((C.sl [a,b]).rows.length:Int):=⟨by decide,(by decide:(1:Int)<((2:Nat):Int))⟩
theorem a5A (a b:dA) (ha:aF a) (hb:aF b):(eA T2).pc aNL [a.row,b.row]=if mD a≠0 then some [uC,[.int (mD a)]]else if mD b≠0 then some [uC,[.int (mD b)]]else
 ((eA T2).pc aBL [(thL a b).row]).bind fun y=>some [aA y 0,[.int ((at_ (aA y 2) 0).uA)]]:=by
 have l2:∀z:Row,oY (eA T2) (.dp a.row) (.dp b.row) (.sl [a.row,b.row]) 2 2 z=some (0,[.r [.dp a.row],.r [.dp b.row],.r z]):=fun z=>by
  rw[aJX];unfold aCA;rfl
 have l1:∀z:Row,oY (eA T2) (.dp a.row) (.dp b.row) (.sl [a.row,b.row]) 2 1 z=if mD b≠0 then some (1,[.r [.int (mD b)],.r uC])else some (0,[.r [.dp a.row],.r [.dp b.row],.r z]):=fun z=>by
  rw[aJX];unfold aCA
  have e:aA (C.sl [a.row,b.row]).rows (1:Int).toNat=b.row:=rfl
  have w:IntKind.wrap .i64 ((1:Int)+1)=2:=by decide
  rw[if_pos (by decide),if_pos (bEm a.row b.row),e,up (aDZ b hb),w,l2]
  simp only[Option.bind_some,cA,gA,iA]
  by_cases hc:mD b=0
  ·simp only[hc,bne_self_eq_false,Bool.false_eq_true,if_false,ne_eq,not_true_eq_false]
  ·simp only[hc,aPR hc,if_true,ne_eq,not_false_eq_true];rfl
 have l0:∀z:Row,oY (eA T2) (.dp a.row) (.dp b.row) (.sl [a.row,b.row]) 2 0 z=if mD a≠0 then some (1,[.r [.int (mD a)],.r uC])else if mD b≠0 then some (1,[.r [.int (mD b)],.r uC])else some (0,[.r [.dp a.row],.r [.dp b.row],.r z]):=fun z=>by
  rw[aJX];unfold aCA
  have e:aA (C.sl [a.row,b.row]).rows (0:Int).toNat=a.row:=rfl
  have w:IntKind.wrap .i64 ((0:Int)+1)=1:=by decide
  rw[if_pos (by decide),if_pos (bAf a.row b.row),e,up (aDZ a ha),w,l1]
  simp only[Option.bind_some,cA,gA,iA]
  by_cases hc:mD a=0
  ·simp only[hc,bne_self_eq_false,Bool.false_eq_true,if_false,ne_eq,not_true_eq_false]
  ·simp only[hc,aPR hc,if_true,ne_eq,not_false_eq_true];rfl
 rw[aW8];unfold aR5
 have hl:(([a.row,b.row]:List Row).length:Int)=2:=rfl
 rw[hl,l0,a4j]
 by_cases h1:mD a=0
 ·by_cases h2:mD b=0
  ·simp only[h1,h2,ne_eq,not_true_eq_false,if_false,Option.bind_some,eC,uB,dB,sA,if_true]
  ·simp only[h1,h2,ne_eq,not_true_eq_false,not_false_eq_true,if_false,if_true,Option.bind_some,oD,eD,qC]
 ·simp only[h1,ne_eq,not_false_eq_true,if_true,Option.bind_some,oD,eD,qC]
theorem law (a b:dA) (ha:a.wf) (hb:b.wf) (hN:a.fB+b.fB+2≤big):(eA T2).pc 3 [a.row,b.row]=some [[.bool true]]:=by
 have ha':aF a:=⟨ha,by omega⟩
 have hb':aF b:=⟨hb,by omega⟩
 obtain ⟨sts,e,o,o',e1,e2,e3,e4, -, -⟩:=a5z (thL a b) (bEl ha hb hN)
 have ht:=a5A a b ha' hb'
 have hz:(eA T).pc bE [uC,uC]=some [[.bool true]]:=by
  have:=aNZ nE nE (by unfold big;decide)
  rw[aVH nE nE rfl]at this
  exact this
 have hq:=up (aNZ o o' e4)
 rw[aVH o o' e3]at hq
 refine (aMx a.row b.row).trans ?_
 unfold aBh
 rw[aZC]
 have hl:(([a.row,b.row]:List Row).length:Int)=2:=rfl
 simp only[Option.bind_some,cA,gA,jA,Bool.not_true,Bool.false_eq_true,if_false,hl]
 have l2:∀(f:Int) (g:Row),zC (eA T2) (.dp a.row) (.dp b.row) f (.sl [a.row,b.row]) 2 2 g=some (0,[.r [.dp a.row],.r [.dp b.row],.r [.int f],.r g]):=fun f g=>by
  rw[mF];unfold nD;rfl
 have bad:∀(x:dA) (f:Int) (g:Row) (z:Option (Nat×List PV)),f=mD x→g=uC→¬mD x=0→(if ((mD x) !=0)=true then (if (f==mD x)=true then ((eA T2).pc bE [g,[.int 0,.str [],.str [],.bA,.int 0,.int 0,.int 0,.int 0,.int 0,.int 0,.str [],.bA,.bA,.bA]]).bind fun y6=>some ((1:Nat),[PV.r [.bool ((at_ (aA y6 0) 0).rJ)]])else some (1,[.r [.bool false]]))else z)=some (1,[.r [.bool true]]):=fun x f g z hf hg hx=>by
  subst hf;subst hg
  have hz':(eA T2).pc bE [uC,[.int 0,.str [],.str [],.bA,.int 0,.int 0,.int 0,.int 0,.int 0,.int 0,.str [],.bA,.bA,.bA]]=some [[.bool true]]:=up hz
  rw[if_pos (aPR hx),if_pos (aJV rfl),hz'];rfl
 by_cases h1:mD a=0
 ·by_cases h2:mD b=0
  ·rw[if_neg (by simp[h1]),if_neg (by simp[h2]),e1]at ht
   have l1:∀(f:Int) (g:Row),zC (eA T2) (.dp a.row) (.dp b.row) f (.sl [a.row,b.row]) 2 1 g=some (0,[.r [.dp a.row],.r [.dp b.row],.r [.int f],.r g]):=fun f g=>by
    rw[mF];unfold nD
    have e:aA (C.sl [a.row,b.row]).rows (1:Int).toNat=b.row:=rfl
    have w:IntKind.wrap .i64 ((1:Int)+1)=2:=by decide
    rw[if_pos (by decide),if_pos (bEm a.row b.row),e,up (vX b hb'),w,l2]
    simp only[Option.bind_some,cA,gA,iA,h2,bne_self_eq_false,Bool.false_eq_true,if_false]
   have l0:∀(f:Int) (g:Row),zC (eA T2) (.dp a.row) (.dp b.row) f (.sl [a.row,b.row]) 2 0 g=some (0,[.r [.dp a.row],.r [.dp b.row],.r [.int f],.r g]):=fun f g=>by
    rw[mF];unfold nD
    have e:aA (C.sl [a.row,b.row]).rows (0:Int).toNat=a.row:=rfl
    have w:IntKind.wrap .i64 ((0:Int)+1)=1:=by decide
    rw[if_pos (by decide),if_pos (bAf a.row b.row),e,up (vX a ha'),w,l1]
    simp only[Option.bind_some,cA,gA,iA,h1,bne_self_eq_false,Bool.false_eq_true,if_false]
   have e2':=up e2
   rw[a4j]at e2'
   simp only[ht,Option.bind_some,cA,aD,gA,iA,l0,eC,uB,wC,qC,oD,eD,dB,sA,if_true,e2',beq_self_eq_true,hq,jA]
  ·rw[if_neg (by simp[h1]),if_pos h2]at ht
   have l1:zC (eA T2) (.dp a.row) (.dp b.row) (mD b) (.sl [a.row,b.row]) 2 1 uC=some (1,[.r [.bool true]]):=by
    rw[mF];unfold nD
    have e:aA (C.sl [a.row,b.row]).rows (1:Int).toNat=b.row:=rfl
    rw[if_pos (by decide),if_pos (bEm a.row b.row),e,up (vX b hb')]
    simp only[Option.bind_some,cA,gA,iA]
    exact bad b _ _ _ rfl rfl h2
   have l0:zC (eA T2) (.dp a.row) (.dp b.row) (mD b) (.sl [a.row,b.row]) 2 0 uC=some (1,[.r [.bool true]]):=by
    rw[mF];unfold nD
    have e:aA (C.sl [a.row,b.row]).rows (0:Int).toNat=a.row:=rfl
    have w:IntKind.wrap .i64 ((0:Int)+1)=1:=by decide
    rw[if_pos (by decide),if_pos (bAf a.row b.row),e,up (vX a ha'),w,l1]
    simp only[Option.bind_some,cA,gA,iA,h1,bne_self_eq_false,Bool.false_eq_true,if_false]
   simp only[ht,Option.bind_some,cA,aD,gA,iA,l0,zB]
 ·rw[if_pos h1]at ht
  have l0:zC (eA T2) (.dp a.row) (.dp b.row) (mD a) (.sl [a.row,b.row]) 2 0 uC=some (1,[.r [.bool true]]):=by
   rw[mF];unfold nD
   have e:aA (C.sl [a.row,b.row]).rows (0:Int).toNat=a.row:=rfl
   rw[if_pos (by decide),if_pos (bAf a.row b.row),e,up (vX a ha')]
   simp only[Option.bind_some,cA,gA,iA]
   exact bad a _ _ _ rfl rfl h1
  simp only[ht,Option.bind_some,cA,aD,gA,iA,l0,zB]
end Go.Ev.dJ
