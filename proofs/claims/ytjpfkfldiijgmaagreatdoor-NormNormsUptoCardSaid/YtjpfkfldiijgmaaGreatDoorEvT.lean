/-
  Regions whose operations may come in any order that their edges allow.
-/
import Derived.Test.YtjpfkfldiijgmaaGreatDoorEvQ
set_option linter.all false
set_option maxRecDepth 100000
namespace Go.Ev
variable {E:Env} {P:Program} {T:Nat→yF} {S S':xA} {pl sD:Pl} {St aD:Ev.St} {F F':Fr} {a:Act} {w w':World}
variable {Γ:Ctx} {n:Nat}
structure Rec where
 i:Nat
 o:rK
 ran:Bool
 v:AV
 us:List (Nat×Obj)
 rd:List Nat
def Rec.aLz (x:Rec):aRA:=(x.us.map (·.1),x.rd)
def aIz (F:Fr) (o:rK) (b:Bool):Prop:=match o.guard with
 |none=>b=true
 |some (t,w)=>(∃e,F.get t= .d (.one .bool) [.bool e]∧b=(e==w))∨(F.get t= .und∧b=false)
def Rec.did (E:Env) (base:Nat) (x:Rec) (F:Fr) (S:Ev.St):Prop:=
 aIz F x.o x.ran∧(x.ran=true→op1 E F S x.o.op base=some (x.v,x.us,x.rd))∧(x.ran=false→x.v= .und∧x.us=[]∧x.rd=[])
def Run (E:Env) (base:Nat):List Rec→Fr→Ev.St→Fr→Ev.St→Prop
 |[],F,S,Fn,Sn=>(∀t,F.get t=Fn.get t)∧S=Sn
 |x::rest,F,S,Fn,Sn=>x.did E base F S∧Run E base rest (F.put x.o.dst x.v) (zF x.us S) Fn Sn
theorem a0K {F F':Fr} (h:∀t,F.get t=F'.get t) (x:kD):x.ev F=x.ev F':=by cases x<;>simp[kD.ev,h]
theorem Fr.aGp (F:Fr) (d:Option Nat) (v:AV) (t:Nat):(F.put d v).get t=if d=some t then v else F.get t:=by
 cases d with
 |none=>simp[Fr.put]
 |some d=>simp only[Fr.put,Fr.aE6,Option.some.injEq]
theorem Rec.a5p {base:Nat} {x:Rec} (h:∀t,F.get t=F'.get t) (hd:x.did E base F St):x.did E base F' St:=by
 refine ⟨?_,fun hr=> ?_,hd.2.2⟩
 ·have:=hd.1
  unfold aIz at this⊢
  split<;>simp_all
 ·rw[←aRP St x.o.op base (fun y _=>a0K h y)];exact hd.2.1 hr
theorem Run.congr {base:Nat} {Fn:Fr} {Sn:Ev.St}:∀(l:List Rec) {F F':Fr} {St:Ev.St},(∀t,F.get t=F'.get t)→Run E base l F St Fn Sn→Run E base l F' St Fn Sn
 |[],F,F',St,h,hr=>⟨fun t=>(h t).symm.trans (hr.1 t),hr.2⟩
 |x::rest,F,F',St,h,hr=>⟨Rec.a5p h hr.1,Run.congr rest (fun t=>by rw[Fr.aGp,Fr.aGp,h t]) hr.2⟩
def aXO (o:rK):List Nat:=match o.guard with |some (t,_)=>[t]|none=>[]
def a36:kD→List Nat | .t n=>[n]| .c _ _=>[]
def slots (o:rK):List Nat:=aXO o++(aH8 o.op).flatMap a36
def a0L (d:Option Nat) (l:List Nat):Bool:=match d with |none=>true |some t=> !l.any (Nat.beq t)
def aRR (x y:rK):Bool:=a0L x.dst (slots y)&&a0L y.dst (slots x)&&(match x.dst,y.dst with |some a,some b=> !Nat.beq a b |_,_=>true)
theorem a0M {d:Option Nat} {l:List Nat} (h:a0L d l=true):∀t∈l,d≠some t:=by
 intro t ht e;subst e
 simp only[a0L,Bool.not_eq_true',List.any_eq_false]at h
 exact h t ht (by simp)
theorem a38 {base:Nat} {x:Rec} {d:Option Nat} {v:AV} (h:a0L d (slots x.o)=true):x.did E base (F.put d v) St↔x.did E base F St:=by
 have hn:=a0M h
 have hg:∀t,t∈slots x.o→(F.put d v).get t=F.get t:=fun t ht=>by rw[Fr.aGp,if_neg (hn t ht)]
 have hev:∀y∈aH8 x.o.op,y.ev (F.put d v)=y.ev F:=by
  intro y hy
  cases y with
  |c=>rfl
  |t n=>exact hg n (by simp only[slots,List.mem_append,List.mem_flatMap];exact .inr ⟨_,hy,by simp[a36]⟩)
 unfold Rec.did
 rw[aRP St x.o.op base hev]
 have:aIz (F.put d v) x.o x.ran↔aIz F x.o x.ran:=by
  unfold aIz
  cases hgd:x.o.guard with
  |none=>rfl
  |some p=>
   obtain ⟨t,b⟩:=p
   have:=hg t (by simp[slots,aXO,hgd])
   simp only[this]
 rw[this]
theorem aI3:∀(us:List (Nat×Obj)) (S:Ev.St),(zF us S).length=S.length
 |[],_=>rfl
 |(i,o)::r,S=>by simp only[zF];rw[aI3 r];simp
theorem aRS:∀(us:List (Nat×Obj)) (S:Ev.St) (j:Nat),j∉us.map (·.1)→(zF us S)[j]? =S[j]?
 |[],_,_,_=>rfl
 |(i,o)::r,S,j,h=>by
  simp only[List.map_cons,List.mem_cons,not_or]at h
  simp only[zF]
  rw[aRS r _ j h.2,List.getElem?_set_ne (Ne.symm h.1)]
theorem a2M (us:List (Nat×Obj)) (S:Ev.St) (i:Nat) (o:Obj) (h:i∉us.map (·.1)):zF us (S.set i o)=(zF us S).set i o:=by
 induction us generalizing S with
 |nil=>rfl
 |cons p r ih=>
  obtain ⟨j,q⟩:=p
  simp only[List.map_cons,List.mem_cons,not_or]at h
  simp only[zF]
  rw[←ih (S:=S.set j q) h.2,List.set_comm _ _ (h.1)]
theorem aS3:∀(us vs:List (Nat×Obj)) (S:Ev.St),(∀i∈us.map (·.1),i∉vs.map (·.1))→zF us (zF vs S)=zF vs (zF us S)
 |[],_,_,_=>rfl
 |(i,o)::r,vs,S,h=>by
  simp only[zF]
  rw[←a2M vs S i o (h i (by simp)),aS3 r vs _ (fun j hj=>h j (by simp only[List.map_cons,List.mem_cons];exact .inr hj))]
theorem aNB {a l:List Nat} (h:meets a l=false):∀i∈a,i∉l:=by
 induction a with
 |nil=>intro i hi;cases hi
 |cons b r ih=>
  simp only[meets,Bool.or_eq_false_iff]at h
  intro i hi
  cases hi with
  |head=>intro hl;have:=List.any_eq_false.1 h.1 _ hl;simp at this
  |tail _ hi=>exact ih h.2 i hi
theorem bAc {base:Nat} {x:Rec} {us:List (Nat×Obj)} (h:∀i∈us.map (·.1),i∉x.rd) (hd:x.did E base F St):x.did E base F (zF us St):=
 ⟨hd.1,fun hr=>a35 (hd.2.1 hr) (aI3 us St) (fun id hid=>aRS us St id (fun hm=>h id hm hid)),hd.2.2⟩
theorem a7n {base:Nat} {x:Rec} {us:List (Nat×Obj)} (h:∀i∈us.map (·.1),i∉x.rd) (hd:x.did E base F (zF us St)):x.did E base F St:=
 ⟨hd.1,fun hr=>a35 (hd.2.1 hr) (aI3 us St).symm (fun id hid=>(aRS us St id (fun hm=>h id hm hid)).symm),hd.2.2⟩
theorem put_comm {d d':Option Nat} (h:(match d,d' with |some a,some b=> !Nat.beq a b |_,_=>true)=true) (v v':AV) (t:Nat):
 ((F.put d v).put d' v').get t=((F.put d' v').put d v).get t:=by
 rw[Fr.aGp,Fr.aGp,Fr.aGp,Fr.aGp]
 by_cases h1:d=some t
 ·by_cases h2:d'=some t
  ·subst h1;subst h2;simp at h
  ·rw[if_neg h2,if_pos h1,if_pos h1]
 ·rw[if_neg h1,if_neg h1]
theorem Run.swap {base:Nat} {x y:Rec} {rest:List Rec} {Fn:Fr} {Sn:Ev.St} (h:Run E base (x::y::rest) F St Fn Sn) (hc:conflict y.aLz x.aLz=false) (ha:aRR x.o y.o=true):
 Run E base (y::x::rest) F St Fn Sn:=by
 obtain ⟨hx,hy,hr⟩:=h
 simp only[conflict,Bool.or_eq_false_iff]at hc
 obtain ⟨⟨c1,c2⟩,c3⟩:=hc
 have c1:=aNB c1
 have c2:=aNB c2
 have c3:=aNB c3
 have c3':∀i∈x.us.map (·.1),i∉y.rd:=fun i hi hj=>c3 i hj hi
 simp only[aRR,Bool.and_eq_true]at ha
 obtain ⟨⟨a1,a2⟩,a3⟩:=ha
 refine ⟨a7n c3' ((a38 a1).1 hy),bAc c2 ((a38 a2).2 hx), ?_⟩
 rw[aS3 x.us y.us St (fun i hi hj=>c1 i hj hi)]
 exact Run.congr rest (put_comm a3 x.v y.v) hr
theorem Run.front {base:Nat} {y:Rec} {post:List Rec} {Fn:Fr} {Sn:Ev.St}:∀(pre:List Rec) {F:Fr} {St:Ev.St},Run E base (pre++y::post) F St Fn Sn→(∀x∈pre,conflict y.aLz x.aLz=false∧aRR x.o y.o=true)→
 Run E base (y::(pre++post)) F St Fn Sn
 |[],F,St,h,_=>h
 |x::pre,F,St,h,ha=>by
  have h2:Run E base (x::y::(pre++post)) F St Fn Sn:=⟨h.1,Run.front pre h.2 (fun z hz=>ha z (by simp[hz]))⟩
  exact h2.swap (ha x (by simp)).1 (ha x (by simp)).2
theorem aS4 {f:aRA} {bef:List Nat}:∀{seen:List aRA} {i:Nat},aCf f bef seen i=true→∀j g,seen[j]? =some g→conflict f g=false∨i+j∈bef
 |[],_,_,j,g,h=>by simp at h
 |q::r,i,h,j,g,hj=>by
  simp only[aCf,Bool.and_eq_true,Bool.or_eq_true,Bool.not_eq_true']at h
  cases j with
  |zero=>
   simp at hj;subst hj
   rcases h.1 with h1 |h1
   ·exact .inl h1
   ·rw[List.any_eq_true]at h1
    obtain ⟨b,hb,e⟩:=h1
    have:=Nat.eq_of_beq_eq_true e
    subst this;exact .inr hb
  |succ j=>
   have:=aS4 h.2 j g (by simpa using hj)
   rw[Nat.add_assoc,Nat.add_comm 1 j]at this
   exact this
theorem trace {A:Type} {base:Nat} {k:Fr→Ev.St→Option A} {res:A}:∀(aos:List rK) (seen:List aRA) (F:Fr) (St:Ev.St),aIZ E true base aos seen F St k=some res→
 ∃(aAo:List Rec) (Fn:Fr) (Sn:Ev.St),Run E base aAo F St Fn Sn∧k Fn Sn=some res∧aAo.map (·.o)=aos∧(∀j x,aAo[j]? =some x→x.i=seen.length+j)∧
  (∀(j:Nat) (x:Rec),aAo[j]? =some x→∀(m:Nat) (g:aRA),(seen++aAo.map Rec.aLz)[m]? =some g→m<seen.length+j→conflict x.aLz g=false∨m∈x.o.bef)
 |[],seen,F,St,h=>⟨[],F,St,⟨fun _=>rfl,rfl⟩,h,rfl,fun j x h=>by simp at h,fun j x h=>by simp at h⟩
 |ao::aos,seen,F,St,h=>by
  have next:∀(F1:Fr) (b:Bool) (v:AV) (us:List (Nat×Obj)) (rd:List Nat),(∀t,F1.get t=F.get t)→({i:=seen.length,o:=ao,ran:=b,v:=v,us:=us,rd:=rd}:Rec).did E base F St→
   (aCf (us.map (·.1),rd) ao.bef seen 0=true∨b=false)→
   aIZ E true base aos (seen++[(us.map (·.1),rd)]) (F1.put ao.dst v) (zF us St) k=some res→
   ∃(aAo:List Rec) (Fn:Fr) (Sn:Ev.St),Run E base aAo F St Fn Sn∧k Fn Sn=some res∧aAo.map (·.o)=ao::aos∧(∀j x,aAo[j]? =some x→x.i=seen.length+j)∧
    (∀(j:Nat) (x:Rec),aAo[j]? =some x→∀(m:Nat) (g:aRA),(seen++aAo.map Rec.aLz)[m]? =some g→m<seen.length+j→conflict x.aLz g=false∨m∈x.o.bef):=by
   intro F1 b v us rd hF1 a5q bJn h
   obtain ⟨aAo,Fn,Sn,h1,h2,h3,h4,h5⟩:=trace aos _ _ _ h
   refine ⟨{i:=seen.length,o:=ao,ran:=b,v:=v,us:=us,rd:=rd}::aAo,Fn,Sn,⟨a5q,Run.congr aAo (fun t=>by rw[Fr.aGp,Fr.aGp,hF1 t]) h1⟩,h2,by simp[h3],fun j x hj=> ?_,fun j x hj m g hg hm=> ?_⟩
   ·cases j with
    |zero=>simp at hj;subst hj;rfl
    |succ j=>
     have:=h4 j x (by simpa using hj)
     rw[this];simp;omega
   ·cases j with
    |zero=>
     simp at hj;subst hj
     rcases bJn with ho |hb
     ·have hms:m<seen.length:=by omega
      rw[List.getElem?_append_left hms]at hg
      have:=aS4 ho m g hg
      simpa[Rec.aLz]using this
     ·left
      have:=a5q.2.2 hb
      simp only at this
      obtain ⟨_,rfl,rfl⟩:=this
      rfl
    |succ j=>
     refine h5 j x (by simpa using hj) m g ?_ (by simp;omega)
     simpa[Rec.aLz]using hg
  simp only[aIZ]at h
  have run:∀F1:Fr,(∀t,F1.get t=F.get t)→aIz F ao true→opK E F1 St ao.op base (fun v us rd=>check (!true ||aCf (us.map (·.1),rd) ao.bef seen 0) (aIZ E true base aos (seen++[(us.map (·.1),rd)]) (F1.put ao.dst v) (zF us St) k))=some res→
   ∃(aAo:List Rec) (Fn:Fr) (Sn:Ev.St),Run E base aAo F St Fn Sn∧k Fn Sn=some res∧aAo.map (·.o)=ao::aos∧(∀j x,aAo[j]? =some x→x.i=seen.length+j)∧
    (∀(j:Nat) (x:Rec),aAo[j]? =some x→∀(m:Nat) (g:aRA),(seen++aAo.map Rec.aLz)[m]? =some g→m<seen.length+j→conflict x.aLz g=false∨m∈x.o.bef):=by
   intro F1 hF1 hw h
   rw[aY4]at h
   obtain ⟨⟨av,us,rd⟩,e1,e2⟩:=Option.bind_eq_some_iff.1 h
   obtain ⟨ho,e2⟩:=mA e2
   rw[aRP St ao.op base (fun y _=>a0K hF1 y)]at e1
   exact next F1 true av us rd hF1 ⟨hw,fun _=>e1,fun h=>by simp at h⟩ (.inl (by simpa using ho)) e2
  have skip:∀F1:Fr,(∀t,F1.get t=F.get t)→aIz F ao false→aIZ E true base aos (seen++[([],[])]) (F1.put ao.dst .und) St k=some res→
   ∃(aAo:List Rec) (Fn:Fr) (Sn:Ev.St),Run E base aAo F St Fn Sn∧k Fn Sn=some res∧aAo.map (·.o)=ao::aos∧(∀j x,aAo[j]? =some x→x.i=seen.length+j)∧
    (∀(j:Nat) (x:Rec),aAo[j]? =some x→∀(m:Nat) (g:aRA),(seen++aAo.map Rec.aLz)[m]? =some g→m<seen.length+j→conflict x.aLz g=false∨m∈x.o.bef):=
   fun F1 hF1 hw h=>next F1 false .und [] [] hF1 ⟨hw,fun h=>by simp at h,fun _=>⟨rfl,rfl,rfl⟩⟩ (.inr rfl) h
  split at h
  ·rename_i hg
   exact run F (fun _=>rfl) (by simp[aIz,hg]) h
  ·rename_i t b hg
   split at h
   ·rename_i e hr
    have nar:∀c,e=c→∀t',Fr.get ((t,vB c)::F) t'=F.get t':=by
     intro c hc t'
     rw[Fr.aE6]
     split
     ·rename_i q;subst q;rw[hr,hc]
     ·rfl
    split at h
    ·split at h
     ·rename_i hb
      exact run _ (nar _ hb) (by simp only[aIz,hg];exact .inl ⟨e,hr,by simp[hb]⟩) h
     ·rename_i hb
      have hb:e=false:=by simpa using hb
      exact skip _ (nar _ hb) (by simp only[aIz,hg];exact .inl ⟨e,hr,by simp[hb]⟩) h
    ·split at h
     ·rename_i hb
      exact skip _ (nar _ hb) (by simp only[aIz,hg];exact .inl ⟨e,hr,by simp[hb]⟩) h
     ·rename_i hb
      have hb:e=false:=by simpa using hb
      exact run _ (nar _ hb) (by simp only[aIz,hg];exact .inl ⟨e,hr,by simp[hb]⟩) h
   ·rename_i hu
    exact skip F (fun _=>rfl) (by simp only[aIz,hg];exact (.inr ⟨hu,by trivial⟩)) h
   ·simp at h
def a7o (all:List rK) (o:Oper) (ao:rK):Bool:=
 ao.bef.all fun b=>o.after.toList.any fun e=>Region.binds .any e&&(Nat.beq e.on b ||(match all[e.on]? with |some ao'=>ao'.bef.any (Nat.beq b)|none=>false))
def aY6 (i:Nat) (o:Oper):Bool:=o.after.toList.all fun e=> !Region.binds .any e ||Nat.blt e.on i
def aKl (ao:rK):List rK→Nat→Bool
 |[],_=>true
 |p::r,m=>(ao.bef.any (Nat.beq m)||aRR p ao)&&aKl ao r (m+1)
def aXP (all:List rK):List Oper→List rK→List rK→Nat→Bool
 |[],[],_,_=>true
 |o::os,ao::aos,prev,i=>a7o all o ao&&aY6 i o&&aKl ao prev 0&&aXP all os aos (prev++[ao]) (i+1)
 |_,_,_,_=>false
theorem aQz {ao:rK}:∀{prev:List rK} {m:Nat},aKl ao prev m=true→∀j p,prev[j]? =some p→m+j∈ao.bef∨aRR p ao=true
 |[],_,_,j,p,h=>by simp at h
 |q::r,m,h,j,p,hj=>by
  simp only[aKl,Bool.and_eq_true,Bool.or_eq_true]at h
  cases j with
  |zero=>
   simp at hj;subst hj
   rcases h.1 with h1 |h1
   ·rw[List.any_eq_true]at h1
    obtain ⟨b,hb,e⟩:=h1
    have:=Nat.eq_of_beq_eq_true e
    subst this;exact .inl hb
   ·exact .inr h1
  |succ j=>
   have:=aQz h.2 j p (by simpa using hj)
   rw[Nat.add_assoc,Nat.add_comm 1 j]at this
   exact this
theorem aXQ {all:List rK}:∀{os:List Oper} {aos prev:List rK} {i:Nat},aXP all os aos prev i=true→prev.length=i→∀j o ao,os[j]? =some o→aos[j]? =some ao→
 a7o all o ao=true∧aY6 (i+j) o=true∧aKl ao (prev++aos.take j) 0=true
 |[],[],_,_,_,_,j,o,ao,h,_=>by simp at h
 |[],_::_,_,_,_,_,j,o,ao,h,_=>by simp at h
 |_::_,[],_,_,_,_,j,o,ao,_,h=>by simp at h
 |o::os,ao::aos,prev,i,h,hl,j,o',ao',ho,hao=>by
  simp only[aXP,Bool.and_eq_true]at h
  cases j with
  |zero=>simp at ho hao;subst ho;subst hao;exact ⟨h.1.1.1,h.1.1.2,by simpa using h.1.2⟩
  |succ j=>
   have:=aXQ h.2 (by simp[hl]) j o' ao' (by simpa using ho) (by simpa using hao)
   refine ⟨this.1,by rw[Nat.add_assoc,Nat.add_comm 1 j]at this;exact this.2.1,by simpa using this.2.2⟩
theorem aXR {ops:Array Oper}:∀{os:List Oper} {aos:List rK},aHw P T n ops os aos=true→∀(j:Nat) (o:Oper) (ao:rK),os[j]? =some o→aos[j]? =some ao→aU6 P T n ops o ao=true
 |[],_,_,j,o,ao,h,_=>by simp at h
 |_::_,[],h,_,_,_,_,_=>by simp[aHw]at h
 |o::os,ao::aos,h,j,o',ao',ho,hao=>by
  simp only[aHw,Bool.and_eq_true]at h
  cases j with
  |zero=>simp at ho hao;subst ho;subst hao;exact h.1
  |succ j=>exact aXR h.2 j o' ao' (by simpa using ho) (by simpa using hao)
theorem aRT {ops:Array Oper}:∀{os:List Oper} {aos:List rK},aHw P T n ops os aos=true→os.length=aos.length
 |[],[],_=>rfl
 |[],_::_,h=>by simp[aHw]at h
 |_::_,[],h=>by simp[aHw]at h
 |_::os,_::aos,h=>by simp only[aHw,Bool.and_eq_true]at h;simp[aRT h.2]
theorem Inv.bAd (h:Inv P T Γ S pl St F a w) (hF:∀t,F.get t=F'.get t):Inv P T Γ S pl St F' a w:=
 ⟨h.jO,fun t=>by rw[←hF t];exact h.frame t,h.size,h.defers,h.grow,h.zZ,h.kept⟩
theorem a5r {ops:Array Oper} {aos:List rK} {Q:Exit→Act→World→Prop} {base:Nat} {Fn:Fr} {Sn:Ev.St} (hpc:aQt P T E) (hok:aHw P T Γ.n ops ops.toList aos=true) (hdr:aXP aos ops.toList aos [] 0=true)
 (hQ:∀S pl a w,Inv P T Γ S pl Sn Fn a w→Q .normal a w):
 ∀(fuel:Nat) (rem:List Rec) (listed:Array Bool) (F:Fr) (St:Ev.St) (S:xA) (pl:Pl) (a:Act) (w:World),fuel=rem.length→listed.size=ops.size→
  (∀x∈rem,listed[x.i]? =some false∧aos[x.i]? =some x.o)→(∀i,listed.getD i true=false→∃x∈rem,x.i=i)→
  rem.Pairwise (fun x y=>x.i<y.i∧(conflict y.aLz x.aLz=false∨x.i∈y.o.bef))→
  (∀j ao,listed.getD j false=true→aos[j]? =some ao→∀b∈ao.bef,listed.getD b false=true)→
  Inv P T Γ S pl St F a w→Run E base rem F St Fn Sn→wpAny P .any ops Q fuel listed a w:=by
 have hlen:ops.size=aos.length:=by have:=aRT hok;simpa using this
 have bAe:∀i ao,aos[i]? =some ao→∃o,ops[i]? =some o:=fun i ao h=>by
  have:i<ops.size:=by have:=(List.getElem?_eq_some_iff.1 h).1;omega
  exact ⟨_,Array.getElem?_eq_getElem this⟩
 have bBg:∀i o ao,ops[i]? =some o→aos[i]? =some ao→aU6 P T Γ.n ops o ao=true∧a7o aos o ao=true∧aY6 i o=true∧aKl ao (aos.take i) 0=true:=by
  intro i o ao ho hao
  have ho':ops.toList[i]? =some o:=by simpa using ho
  have:=aXQ hdr rfl i o ao ho' hao
  exact ⟨aXR hok i o ao ho' hao,this.1,by simpa using this.2.1,by simpa using this.2.2⟩
 intro fuel
 induction fuel with
 |zero=>
  intro rem listed F St S pl a w hf hsz a7p a7q hpw aU3 hI hr
  have:rem=[]:=List.eq_nil_of_length_eq_zero hf.symm
  subst this
  obtain ⟨h1,rfl⟩:=hr
  refine ⟨?_,hQ S pl a w (hI.bAd h1)⟩
  apply List.eq_nil_iff_forall_not_mem.2
  intro i hi
  obtain ⟨x,hx,_⟩:=a7q i (mem_ready.1 hi).1
  cases hx
 |succ fuel ih=>
  intro rem listed F St S pl a w hf hsz a7p a7q hpw aU3 hI hr
  have unl:∀i,i<ops.size→listed.getD i false≠true→∃x∈rem,x.i=i:=by
   intro i hi hn
   refine a7q i ?_
   have hil:i<listed.size:=by omega
   simp[hil]at hn⊢
   exact hn
  refine ⟨fun aRM=> ?_,fun i hi=> ?_⟩
  ·exfalso
   match rem,hf with
   |x::rest,_=>
    obtain ⟨hx1,hx2⟩:=a7p x (by simp)
    obtain ⟨o,ho⟩:=bAe _ _ hx2
    have hmem:x.i∈Region.ready .any ops listed:=by
     refine mem_ready.2 ⟨by simp[hx1],o,ho,fun e he hb=> ?_⟩
     obtain ⟨_,_,hed,_⟩:=bBg _ _ _ ho hx2
     have:=List.all_eq_true.1 hed e (by simpa using he)
     rw[hb]at this
     have hlt:e.on<x.i:=by simpa using this
     have bNG:x.i<ops.size:=(Array.getElem?_eq_some_iff.1 ho).1
     by_cases hl:listed.getD e.on false=true
     ·exact hl
     ·obtain ⟨y,hy,hyi⟩:=unl e.on (by omega) hl
      rcases List.mem_cons.1 hy with rfl |hy
      ·omega
      ·have:=(List.pairwise_cons.1 hpw).1 y hy;omega
    rw[aRM]at hmem;cases hmem
  ·obtain ⟨h1,o,ho,hon⟩:=mem_ready.1 hi
   obtain ⟨x,hx,rfl⟩:=a7q i h1
   obtain ⟨hx1,hx2⟩:=a7p x hx
   obtain ⟨hoo,bJp,hed,hap⟩:=bBg _ _ _ ho hx2
   obtain ⟨pre,post,rfl⟩:=List.append_of_mem hx
   have bBh:∀b∈x.o.bef,listed.getD b false=true:=by
    intro b hb
    have:=List.all_eq_true.1 bJp b hb
    obtain ⟨e,he,h2⟩:=List.any_eq_true.1 this
    simp only[Bool.and_eq_true,Bool.or_eq_true]at h2
    have hel:=hon e (by simpa using he) h2.1
    rcases h2.2 with h3 |h3
    ·rw[←Nat.eq_of_beq_eq_true h3];exact hel
    ·split at h3
     ·rename_i ao' bJq
      obtain ⟨q,hq,hqe⟩:=List.any_eq_true.1 h3
      have:=Nat.eq_of_beq_eq_true hqe
      subst this
      exact aU3 e.on ao' hel bJq b hq
     ·simp at h3
   have hpre:∀p∈pre,conflict x.aLz p.aLz=false∧aRR p.o x.o=true:=by
    intro p hp
    have hpi:=a7p p (by simp[hp])
    have hR:=(List.pairwise_append.1 hpw).2.2 p hp x (by simp)
    have hnb:p.i∉x.o.bef:=fun hb=>by
     have:=bBh _ hb
     simp[hpi.1]at this
    refine ⟨hR.2.resolve_right hnb, ?_⟩
    have:=aQz hap p.i p.o (by rw[List.getElem?_take,if_pos hR.1];exact hpi.2)
    rw[Nat.zero_add]at this
    exact this.resolve_left hnb
   have bEb:=Run.front pre hr hpre
   obtain ⟨a5q,a33⟩:=bEb
   have bGI:x.i<listed.size:=(Array.getElem?_eq_some_iff.1 hx1).1
   have hsub:(pre++post).Sublist (pre++x::post):=List.Sublist.append (List.Sublist.refl _) (List.sublist_cons_self _ _)
   have bJr:∀y∈pre++post,y.i≠x.i:=by
    intro y hy
    rcases List.mem_append.1 hy with hy |hy
    ·have:=(List.pairwise_append.1 hpw).2.2 y hy x (by simp);omega
    ·have:=(List.pairwise_cons.1 (List.pairwise_append.1 hpw).2.1).1 y hy;omega
   have next:∀S' sD a' w',Inv P T Γ S' sD (zF x.us St) (F.put x.o.dst x.v) a' w'→wpAny P .any ops Q fuel (listed.setIfInBounds x.i true) a' w':=by
    intro S' sD a' w' hI'
    refine ih (pre++post) _ _ _ _ _ _ _ (by simp at hf⊢;omega) (by simp[hsz]) (fun y hy=> ?_) (fun j hj=> ?_) (hpw.sublist hsub) (fun j ao hj hao b hb=> ?_) hI' a33
    ·obtain ⟨h1,h2⟩:=a7p y (hsub.subset hy)
     refine ⟨?_,h2⟩
     rw[Array.getElem?_setIfInBounds,if_neg (Ne.symm (bJr y hy))];exact h1
    ·by_cases hji:x.i=j
     ·subst hji
      simp[bGI]at hj
     ·have:listed.getD j true=false:=by
       rw[Array.getD_eq_getD_getElem?,Array.getElem?_setIfInBounds,if_neg hji]at hj
       rw[Array.getD_eq_getD_getElem?];exact hj
      obtain ⟨y,hy,hyj⟩:=a7q j this
      refine ⟨y, ?_,hyj⟩
      rcases List.mem_append.1 hy with hy |hy
      ·exact List.mem_append_left _ hy
      ·rcases List.mem_cons.1 hy with rfl |hy
       ·exact absurd hyj hji
       ·exact List.mem_append_right _ hy
    ·have keep:∀m,listed.getD m false=true→(listed.setIfInBounds x.i true).getD m false=true:=by
      intro m hm
      rw[Array.getD_eq_getD_getElem?,Array.getElem?_setIfInBounds]
      split
      ·simp[bGI]
      ·rw[Array.getD_eq_getD_getElem?]at hm;exact hm
     by_cases hji:x.i=j
     ·subst hji
      rw[hx2]at hao;obtain rfl:=Option.some.inj hao
      exact keep b (bBh b hb)
     ·have:listed.getD j false=true:=by
       rw[Array.getD_eq_getD_getElem?,Array.getElem?_setIfInBounds,if_neg hji]at hj
       rw[Array.getD_eq_getD_getElem?];exact hj
      exact keep b (aU3 j ao this hao b hb)
   simp only[aU6,Bool.and_eq_true]at hoo
   obtain ⟨⟨⟨hop,aTB⟩,a7j⟩,hgd⟩:=hoo
   have aTB:=aY5 aTB
   obtain ⟨g1,g2,g3⟩:=aQv (ops:=ops) (o:=o) (ao:=x.o) hgd hI.frame
   have bGJ:Region.wanted o (yielded ops a.tmps)=x.ran:=by
    have hw:=a5q.1
    unfold aIz at hw
    split at hw
    ·rename_i hg;rw[hw];exact g1 hg
    ·rename_i t b hg
     rcases hw with ⟨e,he,hb⟩|⟨hu,hb⟩
     ·rw[g2 t b hg _ he,hb];rfl
     ·rw[g3 t b hg hu,hb]
   unfold wpOp
   rw[ho]
   dsimp only
   rw[bGJ]
   cases bGK:x.ran with
   |true=>
    rw[if_pos rfl]
    refine .inl (a30 hI hpc hop (a5q.2.1 bGK) _ _ fun v w' hp=> ?_)
    rw[aTB]
    obtain ⟨S',sD,hI'⟩:=hI.step a7j hp
    exact next S' sD _ w' hI'
   |false=>
    rw[if_neg (by simp)]
    obtain ⟨hv,hu,_⟩:=a5q.2.2 bGK
    rw[aTB]
    refine next S pl _ w ?_
    rw[hv,hu]
    exact hI.skip a7j
theorem a2N {A:Type} {ops:Array Oper} {aos:List rK} {Q:Exit→Act→World→Prop} {base:Nat} {k:Fr→Ev.St→Option A} {res:A} {id:Nat} (hm:P.follows .mixedOrders=true) (hpc:aQt P T E)
 (hok:aHw P T Γ.n ops ops.toList aos=true) (hdr:aXP aos ops.toList aos [] 0=true)
 (hQ:∀F St S pl a w,Inv P T Γ S pl St F a w→k F St=some res→Q .normal a w)
 (hI:Inv P T Γ S pl St F a w) (h:aIZ E true base aos [] F St k=some res):(Code.region id ops true).wp P Q a w:=by
 obtain ⟨aAo,Fn,Sn,h1,h2,h3,h4,h5⟩:=trace aos [] F St h
 have hlen:ops.size=aos.length:=by have:=aRT hok;simpa using this
 have hrl:aAo.length=aos.length:=by rw[←h3];simp
 have hI':Inv P T Γ S pl St F a {w with drawn:=w.drawn+1}:=by
  refine ⟨hI.jO.frame S.le_refl (fun _ _ _ _=>rfl) hI.jO.gN hI.jO.apart (fun _ _ _=>rfl),hI.frame,hI.size,hI.defers,⟨hI.grow.os,hI.grow.tape,hI.grow.output,hI.grow.size,hI.grow.block,hI.grow.mono,hI.grow.new⟩,hI.zZ,hI.kept⟩
 refine wp_region_any hm (a5r (E:=E) (base:=base) hpc hok hdr (fun S pl a w hI=>hQ Fn Sn S pl a w hI h2) ops.size aAo _ F St S pl a _ (by omega) (by simp) (fun x hx=> ?_) (fun i hi=> ?_) ?_ (fun j ao hj=> ?_) hI' h1)
 ·obtain ⟨j,hj,rfl⟩:=List.getElem_of_mem hx
  have hxi:=h4 j _ (List.getElem?_eq_getElem hj)
  simp only[List.length_nil,Nat.zero_add]at hxi
  refine ⟨?_, ?_⟩
  ·rw[hxi,Array.getElem?_replicate,if_pos (by omega)]
  ·rw[hxi,←h3];simp[hj]
 ·have hlt:i<ops.size:=by
   rcases Nat.lt_or_ge i ops.size with h |h
   ·exact h
   ·simp[h]at hi
  have hil:i<aAo.length:=by omega
  exact ⟨aAo[i],List.getElem_mem hil,by have:=h4 i _ (List.getElem?_eq_getElem hil);simpa using this⟩
 ·rw[List.pairwise_iff_getElem]
  intro i j hi hj hij
  have hxi:=h4 i _ (List.getElem?_eq_getElem hi)
  have hxj:=h4 j _ (List.getElem?_eq_getElem hj)
  simp only[List.length_nil,Nat.zero_add]at hxi hxj
  refine ⟨by omega, ?_⟩
  rw[hxi]
  exact h5 j _ (List.getElem?_eq_getElem hj) i aAo[i].aLz (by simp[hi]) (by simpa using hij)
 ·rw[Array.getD_eq_getD_getElem?,Array.getElem?_replicate]at hj
  split at hj<;>simp at hj
end Go.Ev
namespace Go.Ev
variable {E:Env} {P:Program} {T:Nat→yF} {S S':xA} {pl sD:Pl} {St aD:Ev.St} {F F':Fr} {a:Act} {w w':World}
variable {Γ:Ctx} {n:Nat}
theorem fD.a0N {i:Nat} {o:Obj} (hi:St[i]? =some o) (hf:o≠ .fresh):fD pl St pl (St.set i .dead):=by
 have hlt:i<St.length:=(List.getElem?_eq_some_iff.1 hi).1
 intro id o1 h hf1
 by_cases hne:id=i
 ·subst hne
  exact ⟨.dead,List.getElem?_set_self hlt,by simp,fun l row e=>(by cases e),fun c vs e=>(by cases e),fun v l' c e=>(by cases e),fun _ _ _ _ e=>(by cases e),fun _ _ _ e=>(by cases e),fun _ _ _ _ e=>(by cases e)⟩
 ·exact ⟨o1,by rw[List.getElem?_set_ne (Ne.symm hne)];exact h,hf1,fD.same rfl rfl⟩
theorem Inv.frozen {i:Nat} {o:Obj} {cs:Array Value} {e:TypeId} {m:Nat} (hI:Inv P T Γ S pl St F a w) (hi:St[i]? =some o) (ho:o.has=true) (hz:o.sn=0) (hb:w.heap[pl.blk i]? =some (.cells cs e (0,0))) (hnc:o.cst=false:=by rfl):
 Inv P T Γ (S.more (pl.blk i) (cs.toList.take m)) pl (St.set i .dead) F a w∧S.le (S.more (pl.blk i) (cs.toList.take m)):=by
 have hlt:i<St.length:=(List.getElem?_eq_some_iff.1 hi).1
 have hnone:∀off,S (pl.blk i) off=none:=fun off=>hI.jO.apart i o hi ho off (by omega)
 have hle:S.le (S.more (pl.blk i) (cs.toList.take m)):=xA.aUg hnone
 have hf:o≠ .fresh:=fun e=>by subst e;simp[Obj.has]at ho
 have hk:fD pl St pl (St.set i .dead):=fD.a0N hi hf
 refine ⟨⟨?_,fun t=>(hI.frame t).keep hk hle,hI.size,hI.defers, ?_,fun b hb'=> ?_,fun av v hr=>(hI.kept av v hr).keep hk hle⟩,hle⟩
 ·refine hI.jO.upd hlt hk hle (fun _ _=>⟨rfl,rfl⟩) (fun _ _ _ _ _=>rfl) (fun b off v h=> ?_) trivial (fun h=>by simp[Obj.has]at h) (fun j o1 hj h1 h2 off hoff=> ?_) (fun h=>by simp[Obj.has]at h) (fun _ _ _=>⟨rfl,fun h=>by simp[Obj.has]at h⟩)
  ·simp only[xA.more]at h
   split at h
   ·rename_i hbb;subst hbb
    rw[cell_of_row w _ _ _ _ _ hb]
    rw[List.getElem?_take]at h
    split at h
    ·simpa using h
    ·cases h
   ·exact hI.jO.gN _ _ _ h
  ·simp only[xA.more]
   rw[if_neg (fun e=>hj (hI.jO.inj j i _ _ h1 hi h2 ho e))]
   exact hI.jO.apart j o1 h1 h2 off hoff
 ·refine ⟨hI.grow.os,hI.grow.tape,hI.grow.output,hI.grow.size,hI.grow.block,xA.le_trans hI.grow.mono hle,fun b off hb' hn=> ?_⟩
  simp only[xA.more]
  rw[if_neg,hI.grow.new b off hb' hn]
  intro e;subst e
  rcases hI.zZ _ ⟨i,o,hi,ho,hnc,rfl⟩with h |h
  ·exact hn h
  ·omega
 ·obtain ⟨id,o1,h1,h2,h3⟩:=hb'
  by_cases hid:id=i
  ·subst hid
   rw[List.getElem?_set_self hlt]at h1
   obtain rfl:=Option.some.inj h1
   simp[Obj.has]at h2
  ·rw[List.getElem?_set_ne (Ne.symm hid)]at h1
   exact hI.zZ b ⟨id,o1,h1,h2,h3⟩
theorem Inv.slot {t:Nat} {av:AV} (hI:Inv P T Γ S pl St F a w) (hv:iB P T S pl St av (a.tmps.getD t undef)):Inv P T Γ S pl St ((t,av)::F) a w:=by
 refine ⟨hI.jO,fun t'=> ?_,hI.size,hI.defers,hI.grow,hI.zZ,hI.kept⟩
 rw[Fr.aE6]
 by_cases e:t=t'
 ·subst e;rw[if_pos rfl];exact hv
 ·rw[if_neg e];exact hI.frame t'
theorem Inv.aPq {i v:Nat} {e:TypeId} {l:L} {d:C} (hL:Lay P e l) (hI:Inv P T Γ S pl St F a w) (ho:St[i]? =some (.arr v l d)):
 ∃S',Inv P T Γ S' pl (St.set i .dead) F a w∧S.le S'∧∀val,iB P T S pl St (.whole i v) val→iB P T S' pl (St.set i .dead) (.d (.one (.sl e)) [d]) val:=by
 rcases hI.jO.objs _ _ ho with rfl |⟨rows,cur,e2,i2,rfl,hh,q1,q2,q3,q4,q5,q6,q7⟩
 ·have hk':fD pl St pl (St.set i .dead):=fD.a0N ho (by simp)
  have hlt:i<St.length:=(List.getElem?_eq_some_iff.1 ho).1
  refine ⟨S,⟨?_,fun t=>(hI.frame t).keep hk' S.le_refl,hI.size,hI.defers,hI.grow,fun b hb'=> ?_,fun av v hr=>(hI.kept av v hr).keep hk' S.le_refl⟩,S.le_refl,fun val hv=> ?_⟩
  ·exact hI.jO.upd hlt hk' S.le_refl (fun _ _=>⟨rfl,rfl⟩) (fun _ _ _ _ _=>rfl) hI.jO.gN trivial (fun h=>by simp[Obj.has]at h) (fun j o1 _ h1 h2=>hI.jO.apart j o1 h1 h2) (fun h=>by simp[Obj.has]at h) (fun _ _ _=>⟨rfl,fun h=>by simp[Obj.has]at h⟩)
  ·obtain ⟨j,o1,h1,h2,h3⟩:=hb'
   by_cases hid:j=i
   ·subst hid
    rw[List.getElem?_set_self hlt]at h1
    obtain rfl:=Option.some.inj h1
    simp[Obj.has]at h2
   ·rw[List.getElem?_set_ne (Ne.symm hid)]at h1
    exact hI.zZ b ⟨j,o1,h1,h2,h3⟩
  ·rw[(hv.mQ ho).1 rfl];exact .d ⟨_,rfl,.bA⟩
 ·obtain ⟨hI',hle⟩:=hI.frozen (m:=rows.length*l.n) ho rfl rfl hh
  refine ⟨_,hI',hle,fun val hv=> ?_⟩
  rw[(hv.mQ ho).2 rows rfl]
  have hrr:qC P T S l cur.toList rows:=⟨by rw[show cur.toList.length=cur.size from Array.length_toList,q6];exact Nat.mul_le_mul_right _ q4,q7⟩
  have aGm:=(hrr.mono hle).rep (b:=pl.blk i) (o:=0) (cap:=pl.cap i) hL q4 (fun p hp=>by
   simp only[xA.more,if_true,Nat.zero_add]
   rw[List.getElem?_take,if_pos hp]
   have:p<cur.toList.length:=Nat.lt_of_lt_of_le hp hrr.len
   simp[List.getD_eq_getElem?_getD,List.getElem?_eq_getElem this])
  exact .d ⟨_,rfl,aGm⟩
def bEc (P:Program) (t:TypeId):Option L→Bool |none=>true |some l=>aGk P t l&&Nat.blt 0 l.n
theorem oQ {A:Type} {S:Ev.St} {id:Nat} {k:Obj→Option A} {r:A} (h:aHo S id k=some r):∃o,S[id]? =some o∧k o=some r:=by
 unfold aHo at h;split at h
 ·exact ⟨_,by assumption,h⟩
 ·simp at h
theorem aO1 {A:Type} {t:Nat} {ty:TypeId} {ol:Option L} {k:Fr→Ev.St→Option A} {r:A} (hb:bEc P ty ol=true) (hI:Inv P T Γ S pl St F a w) (h:aK8 t ty ol F St k=some r):
 ∃F' aD S',Inv P T Γ S' pl aD F' a w∧k F' aD=some r∧aD.length=St.length:=by
 unfold aK8 at h
 have hv:=hI.frame t
 split at h
 ·rename_i l
  simp only[bEc,Bool.and_eq_true]at hb
  have hL:=zB hb.1
  split at h
  ·rename_i id v hg
   rw[hg]at hv
   obtain ⟨o,ho,hA⟩:=oQ h
   obtain ⟨l',c,rfl,hB⟩:=bE hA
   obtain ⟨hlb,hk⟩:=mA hB
   obtain rfl:=L.beq_eq hlb
   obtain ⟨S',hI',hle,hr⟩:=hI.aPq (e:=ty) hL ho
   exact ⟨_,_,S',hI'.slot (hr _ hv),hk,by simp⟩
  ·rename_i id hg
   rw[hg]at hv
   obtain ⟨o,ho,hA⟩:=oQ h
   split at hA
   ·rename_i l' row
    obtain ⟨hlb,hk⟩:=mA hA
    obtain rfl:=L.beq_eq hlb
    obtain ⟨cur,e,hh,hr⟩:=hI.jO.objs _ _ ho
    obtain ⟨hI',hle⟩:=hI.frozen (m:=l.n) ho rfl rfl hh
    refine ⟨_,_,_,hI'.slot ?_,hk,by simp⟩
    cases hv with
    |ptr h0 h1 h2 h3 h4=>
     rw[ho]at h1;obtain rfl:=Option.some.inj h1
     rw[h3 _ _ rfl]
     refine .d ⟨_,rfl,.ref (fun j=>cur.toList.getD j undef) hL hr.aB1 rfl (fun j hj=> ?_) (fun j k hk=>(hr.mono hle).cell j k hk)⟩
     have hjl:j<cur.toList.length:=by rw[hr.sL];exact hj
     simp only[xA.more,if_true,Nat.zero_add]
     rw[List.getElem?_take,if_pos hj,List.getElem?_eq_getElem hjl,List.getD_eq_getElem?_getD,List.getElem?_eq_getElem hjl];rfl
   ·simp at hA
  ·simp at h
 ·split at h
  ·rename_i id hg
   obtain ⟨o,ho,hA⟩:=oQ h
   split at hA
   ·rename_i c vs
    have hlt:id<St.length:=(List.getElem?_eq_some_iff.1 ho).1
    have hk':fD pl St pl (St.set id (.cells true vs)):=by
     intro j o1 h1 hf1
     by_cases hne:j=id
     ·subst hne
      rw[ho]at h1;obtain rfl:=Option.some.inj h1
      exact ⟨_,List.getElem?_set_self hlt,by simp,fun l row e=>(by cases e),fun c vs e=>⟨⟨_,_,rfl⟩,rfl⟩,fun v l' c e=>(by cases e),fun _ _ _ _ e=>(by cases e),fun _ _ _ e=>(by cases e),fun _ _ _ _ e=>(by cases e)⟩
     ·exact ⟨o1,by rw[List.getElem?_set_ne (Ne.symm hne)];exact h1,hf1,fD.same rfl rfl⟩
    refine ⟨_,_,S,⟨?_,fun t=>(hI.frame t).keep hk' S.le_refl,hI.size,hI.defers,hI.grow,fun b hb'=> ?_,fun av v hr=>(hI.kept av v hr).keep hk' S.le_refl⟩,hA,by simp⟩
    ·refine hI.jO.upd hlt hk' S.le_refl (fun _ _=>⟨rfl,rfl⟩) (fun _ _ _ _ _=>rfl) hI.jO.gN ?_ (fun _ off _=>hI.jO.apart id _ ho rfl off (Nat.zero_le _)) (fun j o1 _ h1 h2=>hI.jO.apart j o1 h1 h2) (fun _ j o1 hj h1 h2 e=>hj (hI.jO.inj j id _ _ h1 ho h2 rfl e)) (fun g _ ha=>⟨rfl,fun _=>ha id _ ho rfl⟩)
     obtain ⟨cur,e,q1,q2,q3,q4⟩:=hI.jO.objs _ _ ho
     exact ⟨cur,e,q1,q2,fun i av hi=>(q3 i av hi).keep hk' S.le_refl,q4⟩
    ·obtain ⟨j,o1,h1,h2,h3⟩:=hb'
     by_cases hid:j=id
     ·subst hid
      rw[List.getElem?_set_self hlt]at h1
      obtain rfl:=Option.some.inj h1
      exact absurd h3.1 (by simp[Obj.cst])
     ·rw[List.getElem?_set_ne (Ne.symm hid)]at h1
      exact hI.zZ b ⟨j,o1,h1,h2,h3⟩
   ·simp at hA
  ·simp at h
def aUp (P:Program):List (Nat×TypeId×Option L)→Bool
 |[]=>true
 |(_,t,ol)::r=>bEc P t ol&&aUp P r
theorem aMQ {A:Type} {k:Fr→Ev.St→Option A} {r:A}:∀(fz:List (Nat×TypeId×Option L)) {F:Fr} {St:Ev.St} {S:xA},aUp P fz=true→Inv P T Γ S pl St F a w→aBy fz F St k=some r→
 ∃F' aD S',Inv P T Γ S' pl aD F' a w∧k F' aD=some r
 |[],F,St,S,_,hI,h=>⟨F,St,S,hI,h⟩
 |(t,ty,ol)::fz,F,St,S,hb,hI,h=>by
  simp only[aUp,Bool.and_eq_true]at hb
  obtain ⟨F',aD,S',hI',h',_⟩:=aO1 hb.1 hI h
  exact aMQ fz hb.2 hI' h'
theorem Inv.room (m:Nat) (hI:Inv P T Γ S pl St F a w):Inv P T Γ S pl (St++List.replicate m .fresh) F a w:=by
 have get:∀(id:Nat) (o:Obj),(St++List.replicate m Obj.fresh)[id]? =some o→St[id]? =some o∨o=Obj.fresh:=by
  intro id o h
  by_cases hid:id<St.length
  ·rw[List.getElem?_append_left hid]at h;exact .inl h
  ·rw[List.getElem?_append_right (by omega)]at h
   have:=List.mem_of_getElem? h
   exact .inr (List.mem_replicate.1 this).2
 have hk:fD pl St pl (St++List.replicate m .fresh):=by
  intro id o h hf
  have hid:id<St.length:=(List.getElem?_eq_some_iff.1 h).1
  exact ⟨o,by rw[List.getElem?_append_left hid];exact h,hf,fD.same rfl rfl⟩
 have aQA:∀o:Obj,o.has=true→o≠ .fresh:=fun o h e=>by subst e;simp[Obj.has]at h
 refine ⟨⟨hI.jO.gN,fun id o h=> ?_,fun id o h ho=> ?_,fun i j o o' h1 h2 h3 h4 h5=> ?_,hI.jO.rR,fun g t l row e=>⟨(hI.jO.glo g t l row e).1,fun id o h hh=> ?_⟩⟩,fun t=>(hI.frame t).keep hk S.le_refl,hI.size,hI.defers,hI.grow,fun b hb=> ?_,fun av v hr=>(hI.kept av v hr).keep hk S.le_refl⟩
 ·rcases get id o h with h |rfl
  ·exact (hI.jO.objs id o h).keep hk S.le_refl rfl rfl (fun _=>rfl)
  ·trivial
 ·exact hI.jO.apart id o ((get id o h).resolve_right (aQA o ho)) ho
 ·exact hI.jO.inj i j o o' ((get i o h1).resolve_right (aQA o h3)) ((get j o' h2).resolve_right (aQA o' h4)) h3 h4 h5
 ·exact (hI.jO.glo g t l row e).2 id o ((get id o h).resolve_right (aQA o hh)) hh
 ·obtain ⟨id,o,h1,h2,h3⟩:=hb
  exact hI.zZ b ⟨id,o,(get id o h1).resolve_right (aQA o h2),h2,h3⟩
theorem Inv.more (hI:Inv P T Γ S pl St F a w) (e:TypeId) (l:L):Inv P T Γ S pl (St++[.zA 0 e l .bA]) F a w:=by
 have get:∀(id:Nat) (o:Obj),(St++[Obj.zA 0 e l .bA])[id]? =some o→St[id]? =some o∨o=Obj.zA 0 e l .bA:=by
  intro id o h
  by_cases hid:id<St.length
  ·rw[List.getElem?_append_left hid]at h;exact .inl h
  ·rw[List.getElem?_append_right (by omega)]at h
   have:=List.mem_of_getElem? h
   exact .inr (by simpa using this)
 have hk:fD pl St pl (St++[.zA 0 e l .bA]):=by
  intro id o h hf
  have hid:id<St.length:=(List.getElem?_eq_some_iff.1 h).1
  exact ⟨o,by rw[List.getElem?_append_left hid];exact h,hf,fD.same rfl rfl⟩
 have aNC:∀o:Obj,o.has=true→o≠Obj.zA 0 e l .bA:=fun o h q=>by subst q;simp[Obj.has]at h
 refine ⟨⟨hI.jO.gN,fun id o h=> ?_,fun id o h ho=> ?_,fun i j o o' h1 h2 h3 h4 h5=> ?_,hI.jO.rR,fun g t l' row e'=>⟨(hI.jO.glo g t l' row e').1,fun id o h hh=> ?_⟩⟩,fun t=>(hI.frame t).keep hk S.le_refl,hI.size,hI.defers,hI.grow,fun b hb=> ?_,fun av v hr=>(hI.kept av v hr).keep hk S.le_refl⟩
 ·rcases get id o h with h |rfl
  ·exact (hI.jO.objs id o h).keep hk S.le_refl rfl rfl (fun _=>rfl)
  ·exact .inl rfl
 ·exact hI.jO.apart id o ((get id o h).resolve_right (aNC o ho)) ho
 ·exact hI.jO.inj i j o o' ((get i o h1).resolve_right (aNC o h3)) ((get j o' h2).resolve_right (aNC o' h4)) h3 h4 h5
 ·exact (hI.jO.glo g t l' row e').2 id o ((get id o h).resolve_right (aNC o hh)) hh
 ·obtain ⟨id,o,h1,h2,h3⟩:=hb
  exact hI.zZ b ⟨id,o,(get id o h1).resolve_right (aNC o h2),h2,h3⟩
theorem Inv.bGL (hI:Inv P T Γ S pl St F a w) (l:L):Inv P T Γ S pl (St++[.arr 0 l .bA]) F a w:=by
 have get:∀(id:Nat) (o:Obj),(St++[Obj.arr 0 l .bA])[id]? =some o→St[id]? =some o∨o=Obj.arr 0 l .bA:=by
  intro id o h
  by_cases hid:id<St.length
  ·rw[List.getElem?_append_left hid]at h;exact .inl h
  ·rw[List.getElem?_append_right (by omega)]at h
   have:=List.mem_of_getElem? h
   exact .inr (by simpa using this)
 have hk:fD pl St pl (St++[.arr 0 l .bA]):=by
  intro id o h hf
  have hid:id<St.length:=(List.getElem?_eq_some_iff.1 h).1
  exact ⟨o,by rw[List.getElem?_append_left hid];exact h,hf,fD.same rfl rfl⟩
 have aNC:∀o:Obj,o.has=true→o≠Obj.arr 0 l .bA:=fun o h q=>by subst q;simp[Obj.has]at h
 refine ⟨⟨hI.jO.gN,fun id o h=> ?_,fun id o h ho=> ?_,fun i j o o' h1 h2 h3 h4 h5=> ?_,hI.jO.rR,fun g t l' row e'=>⟨(hI.jO.glo g t l' row e').1,fun id o h hh=> ?_⟩⟩,fun t=>(hI.frame t).keep hk S.le_refl,hI.size,hI.defers,hI.grow,fun b hb=> ?_,fun av v hr=>(hI.kept av v hr).keep hk S.le_refl⟩
 ·rcases get id o h with h |rfl
  ·exact (hI.jO.objs id o h).keep hk S.le_refl rfl rfl (fun _=>rfl)
  ·exact .inl rfl
 ·exact hI.jO.apart id o ((get id o h).resolve_right (aNC o ho)) ho
 ·exact hI.jO.inj i j o o' ((get i o h1).resolve_right (aNC o h3)) ((get j o' h2).resolve_right (aNC o' h4)) h3 h4 h5
 ·exact (hI.jO.glo g t l' row e').2 id o ((get id o h).resolve_right (aNC o hh)) hh
 ·obtain ⟨id,o,h1,h2,h3⟩:=hb
  exact hI.zZ b ⟨id,o,(get id o h1).resolve_right (aNC o h2),h2,h3⟩
theorem Inv.a2O {id p:Nat} {c:Bool} {vs:List AV} {av:AV} (hI:Inv P T Γ S pl St F a w) (ho:St[id]? =some (.cells c vs)) (hv:∀(cur:Array Value) (e:TypeId),w.heap[pl.blk id]? =some (.cells cur e (0,0))→p<vs.length→iB P T S pl St av (cur.getD p undef)):
 Inv P T Γ S pl (St.set id (.cells c (vs.set p av))) F a w:=by
 have hlt:id<St.length:=(List.getElem?_eq_some_iff.1 ho).1
 have hk:fD pl St pl (St.set id (.cells c (vs.set p av))):=fD.set ho (fun _=>⟨by simp,fun _ _ h=>by simp at h,fun _ _ _=>⟨_,_,rfl⟩,fun _ _ _ h=>by simp at h,fun _ _ _ _ h=>by simp at h,fun _ _ _ h=>by simp at h⟩)
 refine ⟨?_,fun t=>(hI.frame t).keep hk S.le_refl,hI.size,hI.defers,hI.grow,fun b hb'=> ?_,fun av v hr=>(hI.kept av v hr).keep hk S.le_refl⟩
 ·refine hI.jO.upd hlt hk S.le_refl (fun _ _=>⟨rfl,rfl⟩) (fun _ _ _ _ _=>rfl) hI.jO.gN ?_ (fun _ off _=>hI.jO.apart id _ ho rfl off (Nat.zero_le _)) (fun j o1 _ h1 h2=>hI.jO.apart j o1 h1 h2) (fun _ j o1 hj h1 h2 e=>hj (hI.jO.inj j id _ _ h1 ho h2 rfl e)) (fun g _ ha=>⟨rfl,fun _=>ha id _ ho rfl⟩)
  obtain ⟨cur,e,q1,q2,q3,q4⟩:=hI.jO.objs _ _ ho
  refine ⟨cur,e,q1,by simp[q2],fun i u hi=> ?_,q4⟩
  by_cases hip:i=p
  ·subst hip
   have hil:i<vs.length:=by have:=(List.getElem?_eq_some_iff.1 hi).1;simpa using this
   rw[List.getElem?_set_self hil]at hi
   obtain rfl:=Option.some.inj hi
   exact (hv cur e q1 hil).keep hk S.le_refl
  ·rw[List.getElem?_set_ne (Ne.symm hip)]at hi
   exact (q3 i u hi).keep hk S.le_refl
 ·obtain ⟨j,o1,h1,h2,h3⟩:=hb'
  by_cases hid:j=id
  ·subst hid
   rw[List.getElem?_set_self hlt]at h1
   obtain rfl:=Option.some.inj h1
   exact hI.zZ b ⟨j,_,ho,rfl,by cases c<;>first |rfl |exact h3.1,h3.2⟩
  ·rw[List.getElem?_set_ne (Ne.symm hid)]at h1
   exact hI.zZ b ⟨j,o1,h1,h2,h3⟩
theorem Inv.a7r {i:Nat} {o o':Obj} (hI:Inv P T Γ S pl St F a w) (hi:St[i]? =some o) (hf:o≠ .fresh) (ho':o'.has=false) (bGM:aAi P T S pl (St.set i .dead++[o']) w St.length o'):
 fD pl St pl (St.set i .dead++[o'])∧Inv P T Γ S pl (St.set i .dead++[o']) F a w:=by
 have hlt:i<St.length:=(List.getElem?_eq_some_iff.1 hi).1
 have hk:fD pl St pl (St.set i .dead++[o']):=by
  intro id o1 h hf
  have hid:id<St.length:=(List.getElem?_eq_some_iff.1 h).1
  by_cases hne:id=i
  ·subst hne
   exact ⟨.dead,by rw[List.getElem?_append_left (by simpa using hid)];exact List.getElem?_set_self hlt,by simp,fun l row e=>(by cases e),fun c vs e=>(by cases e),fun v l' c e=>(by cases e),fun _ _ _ _ e=>(by cases e),fun _ _ _ e=>(by cases e),fun _ _ _ _ e=>(by cases e)⟩
  ·exact ⟨o1,by rw[List.getElem?_append_left (by simpa using hid),List.getElem?_set_ne (Ne.symm hne)];exact h,hf,fD.same rfl rfl⟩
 have get:∀(id:Nat) (o1:Obj),(St.set i .dead++[o'])[id]? =some o1→o1.has=true→St[id]? =some o1:=by
  intro id o1 h hh
  by_cases hid:id<St.length
  ·rw[List.getElem?_append_left (by simpa using hid)]at h
   by_cases hne:id=i
   ·subst hne
    rw[List.getElem?_set_self hlt]at h
    obtain rfl:=Option.some.inj h
    simp[Obj.has]at hh
   ·rw[List.getElem?_set_ne (Ne.symm hne)]at h;exact h
  ·rw[List.getElem?_append_right (by simp;omega)]at h
   have h2:=List.mem_of_getElem? h
   simp at h2
   subst h2
   rw[ho']at hh;cases hh
 refine ⟨hk,⟨hI.jO.gN,fun id o1 h=> ?_,fun id o1 h hh=>hI.jO.apart id o1 (get id o1 h hh) hh,fun i1 j1 o1 o2 h1 h2 h3 h4 h5=>hI.jO.inj i1 j1 o1 o2 (get _ _ h1 h3) (get _ _ h2 h4) h3 h4 h5,hI.jO.rR,fun g t l' row e'=>⟨(hI.jO.glo g t l' row e').1,fun id o1 h hh=>(hI.jO.glo g t l' row e').2 id o1 (get id o1 h hh) hh⟩⟩,fun t=>(hI.frame t).keep hk S.le_refl,hI.size,hI.defers,hI.grow,fun b hb=> ?_,fun av v hr=>(hI.kept av v hr).keep hk S.le_refl⟩
 ·by_cases hid:id<St.length
  ·rw[List.getElem?_append_left (by simpa using hid)]at h
   by_cases hne:id=i
   ·subst hne
    rw[List.getElem?_set_self hlt]at h
    obtain rfl:=Option.some.inj h
    trivial
   ·rw[List.getElem?_set_ne (Ne.symm hne)]at h
    exact (hI.jO.objs id o1 h).keep hk S.le_refl rfl rfl (fun _=>rfl)
  ·rw[List.getElem?_append_right (by simp;omega)]at h
   have h1:=(List.getElem?_eq_some_iff.1 h).1
   have h2:=List.mem_of_getElem? h
   simp at h1 h2
   obtain rfl:id=St.length:=by omega
   subst h2
   exact bGM
 ·obtain ⟨id,o1,h1,h2,h3⟩:=hb
  exact hI.zZ b ⟨id,o1,get id o1 h1 h2,h2,h3⟩
theorem Inv.a7s {i:Nat} {o o':Obj} (hI:Inv P T Γ S pl St F a w) (hi:St[i]? =some o) (ho:o.has=true) (hz:o.sn=0)
 (aOB:fD pl St (pl.at St.length (pl.blk i) (pl.cap i)) (St.set i .dead++[o'])→aAi P T S (pl.at St.length (pl.blk i) (pl.cap i)) (St.set i .dead++[o']) w St.length o') (hnc:o.cst=false:=by rfl):
 fD pl St (pl.at St.length (pl.blk i) (pl.cap i)) (St.set i .dead++[o'])∧Inv P T Γ S (pl.at St.length (pl.blk i) (pl.cap i)) (St.set i .dead++[o']) F a w:=by
 have hlt:i<St.length:=(List.getElem?_eq_some_iff.1 hi).1
 have hk:fD pl St (pl.at St.length (pl.blk i) (pl.cap i)) (St.set i .dead++[o']):=by
  intro id o1 h hf
  have hid:id<St.length:=(List.getElem?_eq_some_iff.1 h).1
  obtain ⟨b1,b2⟩:=pl.yZ St.length (pl.blk i) (pl.cap i) id (by omega)
  by_cases hne:id=i
  ·subst hne
   exact ⟨.dead,by rw[List.getElem?_append_left (by simpa using hid)];exact List.getElem?_set_self hlt,by simp,fun l row e=>(by cases e),fun c vs e=>(by cases e),fun v l' c e=>(by cases e),fun _ _ _ _ e=>(by cases e),fun _ _ _ e=>(by cases e),fun _ _ _ _ e=>(by cases e)⟩
  ·exact ⟨o1,by rw[List.getElem?_append_left (by simpa using hid),List.getElem?_set_ne (Ne.symm hne)];exact h,hf,fD.same b1 b2⟩
 have get:∀(id:Nat) (o1:Obj),(St.set i .dead++[o'])[id]? =some o1→o1.has=true→(id=St.length∧o1=o')∨(id≠i∧id<St.length∧St[id]? =some o1):=by
  intro id o1 h hh
  by_cases hid:id<St.length
  ·rw[List.getElem?_append_left (by simpa using hid)]at h
   by_cases hne:id=i
   ·subst hne
    rw[List.getElem?_set_self hlt]at h
    obtain rfl:=Option.some.inj h
    simp[Obj.has]at hh
   ·rw[List.getElem?_set_ne (Ne.symm hne)]at h;exact .inr ⟨hne,hid,h⟩
  ·rw[List.getElem?_append_right (by simp;omega)]at h
   have h1:=(List.getElem?_eq_some_iff.1 h).1
   have h2:=List.mem_of_getElem? h
   simp at h1 h2
   exact .inl ⟨by omega,h2⟩
 refine ⟨hk,⟨hI.jO.gN,fun id o1 h=> ?_,fun id o1 h hh off hoff=> ?_,fun i1 j1 o1 o2 h1 h2 h3 h4 h5=> ?_,hI.jO.rR,fun g t l' row e'=>⟨(hI.jO.glo g t l' row e').1,fun id o1 h hh=> ?_⟩⟩,fun t=>(hI.frame t).keep hk S.le_refl,hI.size,hI.defers,hI.grow,fun b hb=> ?_,fun av v hr=>(hI.kept av v hr).keep hk S.le_refl⟩
 ·by_cases hid:id<St.length
  ·rw[List.getElem?_append_left (by simpa using hid)]at h
   obtain ⟨b1,b2⟩:=pl.yZ St.length (pl.blk i) (pl.cap i) id (by omega)
   by_cases hne:id=i
   ·subst hne
    rw[List.getElem?_set_self hlt]at h
    obtain rfl:=Option.some.inj h
    trivial
   ·rw[List.getElem?_set_ne (Ne.symm hne)]at h
    exact (hI.jO.objs id o1 h).keep hk S.le_refl b1 b2 (fun _=>rfl)
  ·rw[List.getElem?_append_right (by simp;omega)]at h
   have h1:=(List.getElem?_eq_some_iff.1 h).1
   have h2:=List.mem_of_getElem? h
   simp at h1 h2
   obtain rfl:id=St.length:=by omega
   subst h2
   exact aOB hk
 ·rcases get id o1 h hh with ⟨rfl,rfl⟩|⟨hne,hid,h⟩
  ·rw[Pl.gD];exact hI.jO.apart i o hi ho off (by omega)
  ·rw[(pl.yZ St.length (pl.blk i) (pl.cap i) id (by omega)).1];exact hI.jO.apart id o1 h hh off hoff
 ·rcases get i1 o1 h1 h3 with ⟨rfl,rfl⟩|⟨hn1,hl1,k1⟩<;>rcases get j1 o2 h2 h4 with ⟨rfl,rfl⟩|⟨hn2,hl2,k2⟩
  ·rfl
  ·rw[Pl.gD,(pl.yZ St.length (pl.blk i) (pl.cap i) j1 (by omega)).1]at h5
   exact absurd (hI.jO.inj i j1 o o2 hi k2 ho h4 h5).symm hn2
  ·rw[Pl.gD,(pl.yZ St.length (pl.blk i) (pl.cap i) i1 (by omega)).1]at h5
   exact absurd (hI.jO.inj i1 i o1 o k1 hi h3 ho h5) hn1
  ·rw[(pl.yZ St.length (pl.blk i) (pl.cap i) i1 (by omega)).1,(pl.yZ St.length (pl.blk i) (pl.cap i) j1 (by omega)).1]at h5
   exact hI.jO.inj i1 j1 o1 o2 k1 k2 h3 h4 h5
 ·rcases get id o1 h hh with ⟨rfl,rfl⟩|⟨hne,hid,h⟩
  ·rw[Pl.gD];exact (hI.jO.glo g t l' row e').2 i o hi ho
  ·rw[(pl.yZ St.length (pl.blk i) (pl.cap i) id (by omega)).1];exact (hI.jO.glo g t l' row e').2 id o1 h hh
 ·obtain ⟨id,o1,h1,h2,h3⟩:=hb
  rcases get id o1 h1 h2 with ⟨rfl,rfl⟩|⟨hne,hid,h⟩
  ·rw[Pl.gD]at h3;exact hI.zZ b ⟨i,o,hi,ho,hnc,h3.2⟩
  ·rw[(pl.yZ St.length (pl.blk i) (pl.cap i) id (by omega)).1]at h3;exact hI.zZ b ⟨id,o1,h,h2,h3⟩
def aLA (P:Program):aSJ→Bool
 | .lft _ _ _ _=>true
 | .a9E _ _ _ _=>true
 | .frz _ _ e l=>aGk P e l&&Nat.blt 0 l.n
 | .a9F _ e l=>aGk P e l&&Nat.blt 0 l.n
 | .a9G _ _=>true
 | .a9H _ e l=>aGk P e l&&Nat.blt 0 l.n
 | .a9I _=>true
theorem aVb {e:TypeId} {v:Value} (h:iB P T S pl St (.d (.one (.sl e)) [.bA]) v):v= .slice none 0 0:=by
 obtain ⟨c,hc,hr⟩:=h.aB2
 simp only[List.cons.injEq,and_true]at hc
 subst hc
 cases hr;rfl
theorem aS5 {A:Type} {g:aSJ} {k:Fr→Ev.St→Option A} {r:A} (hb:aLA P g=true) (hI:Inv P T Γ S pl St F a w) (h:eN g F St k=some r):
 ∃F' aD S' sD,Inv P T Γ S' sD aD F' a w∧k F' aD=some r:=by
 cases g with
 |lft n off e l=>
  simp only[eN]at h
  have hnew:(St++[Obj.zA 0 e l .bA])[St.length]? =some (Obj.zA 0 e l .bA):=by simp
  have a39:iB P T S pl (St++[Obj.zA 0 e l .bA]) (.sw St.length 0) (.slice none 0 0):= .a2C hnew
  cases off with
  |none=>
   simp only at h
   split at h
   ·rename_i e' hg
    obtain ⟨_,hk⟩:=mA h
    have hv:=hI.frame n
    rw[hg]at hv
    refine ⟨_,_,S,pl,(hI.more e l).slot ?_,hk⟩
    rw[aVb hv];exact a39
   ·simp at h
  |some off=>
   simp only at h
   split at h
   ·rename_i id p hg
    obtain ⟨o,ho,hA⟩:=oQ h
    split at hA
    ·rename_i c vs
     split at hA
     ·rename_i e' hc
      obtain ⟨_,hk⟩:=mA hA
      have hlt:id<St.length:=(List.getElem?_eq_some_iff.1 ho).1
      have hI2:=hI.more e l
      have ho2:(St++[Obj.zA 0 e l .bA])[id]? =some (.cells c vs):=by rw[List.getElem?_append_left hlt];exact ho
      have hI3:=hI2.a2O (p:=p+off) (av:= .sw St.length 0) ho2 (fun cur e q1 _=>by
       obtain ⟨bGO,e0,z1,z2,z3,z4⟩:=hI.jO.objs _ _ ho
       rw[q1]at z1
       simp only[Option.some.injEq,Go.Obj.cells.injEq]at z1
       have:=aVb (z3 _ _ hc)
       rw[←z1.1]at this
       rw[this];exact a39)
      refine ⟨F,_,S,pl,hI3, ?_⟩
      rw[List.set_append_left _ _ hlt];exact hk
     ·simp at hA
    ·simp at hA
   ·simp at h
 |a9E n off e l=>
  simp only[eN]at h
  have hnew:(St++[Obj.arr 0 l .bA])[St.length]? =some (Obj.arr 0 l .bA):=by simp
  have a39:iB P T S pl (St++[Obj.arr 0 l .bA]) (.whole St.length 0) (.slice none 0 0):= .aOm hnew
  split at h
  ·rename_i id p hg
   obtain ⟨o,ho,hA⟩:=oQ h
   split at hA
   ·rename_i c vs
    split at hA
    ·rename_i e' hc
     obtain ⟨_,hk⟩:=mA hA
     have hlt:id<St.length:=(List.getElem?_eq_some_iff.1 ho).1
     have hI2:=hI.bGL l
     have ho2:(St++[Obj.arr 0 l .bA])[id]? =some (.cells c vs):=by rw[List.getElem?_append_left hlt];exact ho
     have hI3:=hI2.a2O (p:=p+off) (av:= .whole St.length 0) ho2 (fun cur e q1 _=>by
      obtain ⟨bGO,e0,z1,z2,z3,z4⟩:=hI.jO.objs _ _ ho
      rw[q1]at z1
      simp only[Option.some.injEq,Go.Obj.cells.injEq]at z1
      have:=aVb (z3 _ _ hc)
      rw[←z1.1]at this
      rw[this];exact a39)
     refine ⟨F,_,S,pl,hI3, ?_⟩
     rw[List.set_append_left _ _ hlt];exact hk
    ·simp at hA
   ·simp at hA
  ·simp at h
 |a9F n e l=>
  simp only[eN]at h
  obtain ⟨F',aD,S',h1,h2,_⟩:=aO1 (ol:=some l) hb hI h
  exact ⟨F',aD,S',pl,h1,h2⟩
 |a9G n l=>
  simp only[eN]at h
  split at h
  ·rename_i id v hg
   obtain ⟨o,ho,hA⟩:=oQ h
   obtain ⟨l',c,rfl,hB⟩:=bE hA
   obtain ⟨hlb,hC⟩:=mA hB
   obtain rfl:=L.beq_eq hlb
   have hv:=hI.frame n
   rw[hg]at hv
   rcases hI.jO.objs _ _ ho with rfl |⟨rows,cur,e2,i2,rfl,hh,q1,q2,q3,q4,q5,q6,q7⟩
   ·obtain ⟨hk,hI2⟩:=hI.a7r (o':= .tE l .bA 0 (.agg [])) ho (by simp) rfl (.inl rfl)
    refine ⟨_,_,S,_,hI2.slot ?_,hC⟩
    rw[(hv.mQ ho).1 rfl]
    exact .tE rfl (by rw[List.getElem?_append_right (by simp)];simp;rfl) (by simp) (fun l' i' av' e=>rfl) (fun l' wP i' av' e=>by simp at e)
   ·obtain ⟨hk,hI2⟩:=hI.a7s (o':= .tE l (.sl rows) rows.length (.agg [])) ho rfl rfl (fun _=> .inr ⟨rows,cur,e2,i2,rfl,by rw[Pl.gD];exact hh,q1,q2,q3,by rw[Pl.bG];exact q4,by rw[Pl.bG];exact q5,by rw[Pl.bG,q6],fun j r _ hr=>q7 j r hr,fun hi=>absurd hi (Nat.lt_irrefl _)⟩)
    refine ⟨_,_,S,_,hI2.slot ?_,hC⟩
    rw[(hv.mQ ho).2 rows rfl]
    exact .tE rfl (by rw[List.getElem?_append_right (by simp)];simp;rfl) (by simp) (fun l' i' av' e=>by simp at e) (fun l' wP i' av' e=>by simp only[Obj.tE.injEq,C.sl.injEq]at e;obtain ⟨_,rfl,_,_⟩:=e;rw[Pl.gD,Pl.bG])
  ·simp at h
 |a9I n=>
  simp only[eN]at h
  split at h
  ·rename_i id hg
   obtain ⟨o,ho,hA⟩:=oQ h
   obtain ⟨l,c,i,av,rfl,hB⟩:=aLl hA
   obtain ⟨hle,hC⟩:=eD hB
   have hv:=hI.frame n
   rw[hg]at hv
   rcases hI.jO.objs _ _ ho with rfl |⟨rows,cur,e2,inf,rfl,hh,q1,q2,q3,q4,q5,q6,q7,q8⟩
   ·obtain ⟨hk,hI2⟩:=hI.a7r (o':= .arr 0 l .bA) ho (by simp) rfl (.inl rfl)
    refine ⟨_,_,S,_,hI2.slot ?_,hC⟩
    rw[(hv.aNu ho).1 rfl]
    exact .aOm (by rw[List.getElem?_append_right (by simp)];simp;rfl)
   ·simp only[C.rows]at hle
    obtain ⟨hk,hI2⟩:=hI.a7s (o':= .arr 0 l (.sl rows)) ho rfl rfl (fun _=> .inr ⟨rows,cur,e2,inf,rfl,by rw[Pl.gD];exact hh,q1,q2,q3,by rw[Pl.bG];exact q4,by rw[Pl.bG];exact q5,by rw[Pl.bG,q6],fun j r hr=>q7 j r (fun e=>by subst e;have:=(List.getElem?_eq_some_iff.1 hr).1;omega) hr⟩)
    refine ⟨_,_,S,_,hI2.slot ?_,hC⟩
    rw[(hv.aNu ho).2 rows rfl]
    refine .whole (o:= .arr 0 l (.sl rows)) rfl (by rw[List.getElem?_append_right (by simp)];simp) (by simp) (fun v l c e=>Nat.zero_le _) (fun l e=>by simp at e) (fun l wP e=> ?_)
    simp only[Obj.arr.injEq,true_and,C.sl.injEq]at e
    obtain ⟨_,rfl⟩:=e
    rw[Pl.gD,Pl.bG]
  ·simp at h
 |a9H n e l=>
  simp only[aLA,Bool.and_eq_true]at hb
  have hL:=zB hb.1
  simp only[eN]at h
  split at h
  ·rename_i id hg
   obtain ⟨o,ho,hA⟩:=oQ h
   obtain ⟨l',c0,i,av,rfl,hB⟩:=aLl hA
   split at hB
   ·rename_i e' id' v
    obtain ⟨o',ho',hC⟩:=oQ hB
    obtain ⟨l2,c,rfl,hD⟩:=bE hC
    obtain ⟨hlb,hE⟩:=mA hD
    simp only[Bool.and_eq_true]at hlb
    obtain rfl:=Nat.eq_of_beq_eq_true hlb.1.1
    obtain rfl:=L.beq_eq hlb.1.2
    have hne:id'≠id:=by
     intro q;subst q
     have:=hlb.2
     simp at this
    have hv:=hI.frame n
    rw[hg]at hv
    rcases hI.jO.objs _ _ ho with rfl |⟨rows,cur,e2,inf,rfl,hh,q1,q2,q3,q4,q5,q6,q7,q8⟩
    ·simp[aNf]at hE
    simp only[aNf]at hE
    have hv:=(hv.aNu ho).2 rows rfl
    obtain ⟨S',hI2,hle,hr⟩:=hI.aPq (e:=e) hL ho'
    have ho2:(St.set id' Obj.dead)[id]? =some (.tE (.one (.sl e)) (.sl rows) i (.whole id' v)):=by rw[List.getElem?_set_ne hne];exact ho
    have hn:(L.one (.sl e)).n=1:=rfl
    rw[hn,Nat.mul_one]at q6
    obtain ⟨hk,hI3⟩:=hI2.a7s (o':= .arr 0 (.one (.sl e)) (.sl (rows.set i [c]))) ho2 rfl rfl (fun _=> .inr ⟨_,cur,e2,inf,rfl,by rw[Pl.gD];exact hh,q1,q2,by show 0<1;omega,by rw[Pl.bG];simpa using q4,by rw[Pl.bG];exact q5,by rw[Pl.bG,q6];simp[L.n,L.ks],fun j r hj=>by
     rw[hn,Nat.mul_one]
     have hjl:j<rows.length:=by have:=(List.getElem?_eq_some_iff.1 hj).1;simpa using this
     by_cases hji:j=i
     ·subst hji
      rw[List.getElem?_set_self hjl]at hj
      obtain rfl:=Option.some.inj hj
      have hrel:=(hr _ (q8 hjl).2.1).aB2
      obtain ⟨c2,hc2,aGm⟩:=hrel
      simp only[List.cons.injEq,and_true]at hc2
      subst hc2
      have hjc:j<cur.size:=by omega
      refine ⟨by simp[L.ks];omega,rfl,fun m k hm=> ?_⟩
      cases m with
      |zero=>
       simp only[L.ks,List.getElem?_cons_zero,Option.some.injEq]at hm
       subst hm
       have e1:((cur.toList.drop j).take 1).getD 0 undef=cur.getD j undef:=by
        simp[List.getD_eq_getElem?_getD,hjc]
       rw[e1];exact aGm
      |succ m=>simp[L.ks]at hm
     ·rw[List.getElem?_set_ne (Ne.symm hji)]at hj
      have:=(q7 j r hji hj).mono hle
      rw[hn,Nat.mul_one]at this
      exact this⟩)
    have hE':k ((n,.whole (St.set id' Obj.dead).length 0)::F) ((St.set id' Obj.dead).set id Obj.dead++[.arr 0 (.one (.sl e)) (.sl (rows.set i [c]))])=some r:=by simpa using hE
    refine ⟨_,_,S',_,hI3.slot ?_,hE'⟩
    ·rw[hv]
     refine .whole (o:= .arr 0 (.one (.sl e)) (.sl (rows.set i [c]))) rfl (by rw[List.getElem?_append_right (by simp)];simp) (by simp) (fun v l c e=>Nat.zero_le _) (fun l e=>by simp at e) (fun l wP e=> ?_)
     simp only[Obj.arr.injEq,true_and,C.sl.injEq]at e
     obtain ⟨_,rfl⟩:=e
     rw[Pl.gD,Pl.bG];simp
   ·simp at hB
  ·simp at h
 |frz n off e l=>
  simp only[aLA,Bool.and_eq_true]at hb
  have hL:=zB hb.1
  simp only[eN]at h
  split at h
  ·rename_i id p hg
   obtain ⟨o,ho,hA⟩:=oQ h
   split at hA
   ·rename_i c vs
    split at hA
    ·rename_i i v hc
     obtain ⟨o',ho',hB⟩:=oQ hA
     obtain ⟨l',d,rfl,hC⟩:=bE hB
     obtain ⟨hlb,hk⟩:=mA hC
     simp only[Bool.and_eq_true]at hlb
     obtain rfl:=L.beq_eq hlb.1
     have hne:i≠id:=by
      intro q;subst q
      have:=hlb.2
      simp at this
     obtain ⟨bGO,e0,z1,z2,z3,z4⟩:=hI.jO.objs _ _ ho
     have hcell:=z3 _ _ hc
     have ho2:(St.set i Obj.dead)[id]? =some (.cells c vs):=by rw[List.getElem?_set_ne hne];exact ho
     obtain ⟨S',hI2,hle,hr⟩:=hI.aPq (e:=e) hL ho'
     refine ⟨F,_,S',pl,hI2.a2O (p:=p+off) (av:= .d (.one (.sl e)) [d]) ho2 (fun cur e q1 _=> ?_),hk⟩
     rw[q1]at z1
     simp only[Option.some.injEq,Go.Obj.cells.injEq]at z1
     rw[z1.1];exact hr _ hcell
    ·simp at hA
   ·simp at hA
  ·simp at h
def aVc (P:Program) (T:Nat→yF) (n:Nat) (ops:Array Oper) (draw:Bool) (fz:List (Nat×TypeId×Option L)) (aos:List rK) (aQB:Bool):Bool:=
 aUp P fz&&aHw P T n ops ops.toList aos&&(match draw with |true=>aQB&&aXP aos ops.toList aos [] 0 |false=> !aQB)
theorem aY7 {A:Type} {id m:Nat} {ops:Array Oper} {draw aQB:Bool} {fz:List (Nat×TypeId×Option L)} {aos:List rK} {Q:Exit→Act→World→Prop} {k:Fr→Ev.St→Option A} {r:A} (hm:P.follows .mixedOrders=true) (hpc:aQt P T E)
 (hok:aVc P T Γ.n ops draw fz aos aQB=true) (hI:Inv P T Γ S pl St F a w) (h:(aBy fz F St fun F S=>aIZ E aQB S.length aos [] F (S++List.replicate m .fresh) k)=some r)
 (hQ:∀F St S pl a w,Inv P T Γ S pl St F a w→k F St=some r→Q .normal a w):(Code.region id ops draw).wp P Q a w:=by
 simp only[aVc,Bool.and_eq_true]at hok
 obtain ⟨⟨h1,h2⟩,h3⟩:=hok
 obtain ⟨F',aD,S',hI',h'⟩:=aMQ fz h1 hI h
 have bGQ:=hI'.room m
 cases draw with
 |false=>
  have:aQB=false:=by simpa using h3
  subst this
  have:=aRN (ops:=ops) (Q:=Q) hpc hQ ops.toList aos 0 _ _ _ _ _ _ (by simp) h2 bGQ h'
  refine wp_region ?_
  rw[List.range_eq_range']
  simpa using this
 |true=>
  simp only[Bool.and_eq_true]at h3
  obtain ⟨rfl,h4⟩:=h3
  exact a2N hm hpc h2 h4 hQ bGQ h'
end Go.Ev
namespace Go.Ev
variable {E:Env} {P:Program} {T:Nat→yF} {S S':xA} {pl sD:Pl} {St aD:Ev.St} {F F':Fr} {a:Act} {w w' w0:World}
variable {Γ:Ctx} {n:Nat}
theorem aXS:∀{m:Nat} {ids:List Nat} {i j:Nat},aQb.aXl m ids i=true→j<m→j<ids.length∧ids.getD j 0=i+j
 |0,_,_,_,_,h=>by omega
 |m+1,[],_,_,h,_=>by simp[aQb.aXl]at h
 |m+1,x::r,i,0,h,_=>by
  simp only[aQb.aXl,Bool.and_eq_true]at h
  exact ⟨by simp,by simpa using Nat.eq_of_beq_eq_true h.1⟩
 |m+1,x::r,i,j+1,h,hj=>by
  simp only[aQb.aXl,Bool.and_eq_true]at h
  obtain ⟨h1,h2⟩:=aXS h.2 (show j<m by omega)
  exact ⟨by simpa using h1,by rw[List.getD_cons_succ,h2];omega⟩
theorem aS7 {sh:Shape} {vs:List AV} {ps:List PV} {vals:Nat→Value} (hs:vW P T S pl St w) (hv:∀i av,vs[i]? =some av→iB P T S pl St av (vals i)) (h:aQb sh vs St=some ps):
 ∃(ids:List Nat) (dM:List AV) (r:List PV) (aD:Ev.St),aM6 (sh.slots.map (·.2)) ps=(dM,r)∧aD=aKa sh.objs r∧dM.length=vs.length∧aD.length=ids.length∧Ren ids pl St (pl.sub ids) aD∧vW P T S (pl.sub ids) aD w∧
  (∀i av,dM[i]? =some av→iB P T S (pl.sub ids) aD av (vals i))∧(∀b,wW (pl.sub ids) aD b→wW pl St b)∧(∀j,j<sh.m→j<ids.length∧ids.getD j 0=j)∧
  ∀(j:Nat) (o':Obj),aD[j]? =some o'→∃o:Obj,St[ids.getD j 0]? =some o∧aOX o o':=by
 unfold aQb at h
 simp only at h
 split at h
 ·rename_i hc
  simp only[Bool.and_eq_true]at hc
  obtain ⟨⟨c1,c2⟩,c3⟩:=hc
  obtain ⟨dM,r,aD,g1,g2,g3,g4,g5,g6,g7,g8,g9,g10⟩:=a0D hs (aLv c1) c2 hv h
  refine ⟨_,dM,r,aD,g1,g2,g3,g4,g6,g7,g8,fun b hb=> ?_,fun j hj=> ?_,fun j o' ho'=> ?_⟩
  ·obtain ⟨i,_,o,h1,h2,h3⟩:=g9 b hb
   exact ⟨i,o,h1,h2,h3⟩
  ·have:=aXS c3 hj
   rw[Nat.zero_add]at this;exact this
  ·obtain ⟨o,h1,h2,_⟩:=g10 j o' ho'
   exact ⟨o,h1,h2⟩
 ·simp at h
theorem aS8:∀(ss:List (Nat×Sh)) (ps:List PV),∃dM r,aM6 (ss.map (·.2)) ps=(dM,r)∧(sK ss ps).2=r∧dM.length=ss.length∧
 ∀t,(sK ss ps).1.get t= .undef∨∃(i:Nat) (p:Nat×Sh) (av:AV),ss[i]? =some p∧p.1=t∧dM[i]? =some av∧(sK ss ps).1.get t=av
 |[],ps=>⟨[],ps,rfl,rfl,rfl,fun t=> .inl rfl⟩
 |(n,s)::ss,ps=>by
  obtain ⟨dM,r,h1,h2,h3,h4⟩:=aS8 ss (unV s ps).2
  refine ⟨(unV s ps).1::dM,r, ?_, ?_,by simp[h3],fun t=> ?_⟩
  ·simp only[List.map_cons,aM6,h1]
  ·simp only[sK,h2]
  ·simp only[sK,Fr.aE6]
   by_cases e:n=t
   ·rw[if_pos e]
    exact .inr ⟨0,(n,s),_,rfl,e,rfl,rfl⟩
   ·rw[if_neg e]
    rcases h4 t with h |⟨i,p,av,q1,q2,q3,q4⟩
    ·exact .inl h
    ·exact .inr ⟨i+1,p,av,by simpa using q1,q2,by simpa using q3,q4⟩
theorem aPr {sh:Shape} {ps:List PV} (hsh:Γ.m≤sh.m) (hI:Inv P T Γ S pl St F a w) (h:pack sh F St=some ps):
 ∃F' aD sD,(∀{A:Type} (k:Fr→Ev.St→Option A),unpack sh ps k=k F' aD)∧Inv P T Γ S sD aD F' a w:=by
 unfold pack at h
 obtain ⟨ids,dM,r,aD,g1,g2,g3,g4,g5,g6,g7,g8,g9,g10⟩:=aS7 (vals:=fun i=>a.tmps.getD (sh.slots.getD i (0,.d (.one .bool))).1 undef) hI.jO (fun i av hi=>by
  rw[List.getElem?_map]at hi
  obtain ⟨p,hp,rfl⟩:=Option.map_eq_some_iff.1 hi
  have:=hI.frame p.1
  simpa[List.getD_eq_getElem?_getD,hp]using this) h
 obtain ⟨bJt,r',u1,u2,u3,u4⟩:=aS8 sh.slots ps
 rw[g1]at u1
 simp only[Prod.mk.injEq]at u1
 obtain ⟨rfl,rfl⟩:=u1
 refine ⟨(sK sh.slots ps).1,aD,pl.sub ids,fun k=> ?_,⟨g6,fun t=> ?_,hI.size,hI.defers,hI.grow,fun b hb=>hI.zZ b (g8 b hb),fun av v hr=> ?_⟩⟩
 ·unfold unpack
  have hsplit:sK sh.slots ps=((sK sh.slots ps).1,(sK sh.slots ps).2):=rfl
  rw[hsplit]
  simp only[u2,←g2]
 ·rcases u4 t with h |⟨i,p,av,q1,q2,q3,q4⟩
  ·rw[h];exact .undef
  ·rw[q4]
   have:=g7 i av q3
   simp only[List.getD_eq_getElem?_getD,q1,Option.getD_some,q2]at this
   exact this
 ·obtain ⟨id,hid,hav⟩:=Γ.hR0 av v hr
  obtain ⟨hj,hjj⟩:=g9 id (by omega)
  have hv:=hI.kept av v hr
  rcases hav with rfl |rfl |⟨off,rfl⟩
  ·cases hv with
   |map h0 h1 h2 h3=>
    obtain ⟨o',g1,⟨g2,g3,g4,g5,g6,g7⟩,b1,b2⟩:=g5.get hj (by rw[hjj];exact h1)
    rw[hjj]at b1
    refine .map h0 g1 g2 (fun kl vl es e=> ?_)
    obtain ⟨a,b,c,q⟩:=g6 _ _ _ e;rw[b1];exact h3 _ _ _ q
  ·cases hv with
   |tE h0 h1 h2 h3 h4=>
    obtain ⟨o',g1,⟨g2,g3,g4,g5,g6,g7⟩,b1,b2⟩:=g5.get hj (by rw[hjj];exact h1)
    rw[hjj]at b1 b2
    refine .tE h0 g1 g2 (fun l i av e=> ?_) (fun l rows i av e=> ?_)
    ·obtain ⟨av0,q⟩:=g7.2.1 _ _ _ _ e;exact h3 _ _ _ q
    ·obtain ⟨av0,q⟩:=g7.2.1 _ _ _ _ e;rw[b1,b2];exact h4 _ _ _ _ q
  ·cases hv with
   |ptr h0 h1 h2 h3 h4=>
    obtain ⟨o',g1,⟨g2,g3,g4,g5,g6,g7⟩,b1,b2⟩:=g5.get hj (by rw[hjj];exact h1)
    rw[hjj]at b1
    refine .ptr h0 g1 g2 (fun l row e=> ?_) (fun c vs e=> ?_)
    ·obtain ⟨l0,r0,q⟩:=g3 l row e;rw[b1];exact h3 _ _ q
    ·obtain ⟨l0,r0,q⟩:=g4 c vs e;rw[b1];exact h4 _ _ q
end Go.Ev
namespace Go.Ev
variable {E:Env} {P:Program} {T:Nat→yF} {S S':xA} {pl sD:Pl} {St aD:Ev.St} {F F':Fr} {a:Act} {w w':World}
variable {Γ:Ctx} {n:Nat}
def a7t:eB→Exit | .normal=> .normal | .exit id=> .exit id | .ret=> .ret
def bAf (m:Nat) (sh:Shape):Bool:=Nat.ble m sh.m
def aPs (m:Nat):List (eB×Shape)→Bool
 |[]=>true
 |(_,sh)::r=>bAf m sh&&aPs m r
def cG (P:Program) (T:Nat→yF) (n m:Nat):rB→Code→Bool
 | .join outs ac,c=>aPs m outs&&cG P T n m ac c
 | .ghost g ac,c=>aLA P g&&cG P T n m ac c
 | .post g ac,c=>aLA P g&&cG P T n m ac c
 | .bad,_=>true
 | .skip,.skip=>true
 | .skip,.label _=>true
 | .region fz aos aQB _,.region _ ops draw=>aVc P T n ops draw fz aos aQB
 | .seq a b,.seq x y=>cG P T n m a x&&cG P T n m b y
 | .cond ac a b,.cond c x y=>oA P T c ac&&cG P T n m a x&&cG P T n m b y
 | .block id a,.block id' x=>Nat.beq id id'&&cG P T n m a x
 | .loop sh outs a,.loop x=>bAf m sh&&aPs m outs&&cG P T n m a x
 | .exit id,.exit id'=>Nat.beq id id'
 | .ret,.ret=>true
 |_,_=>false
theorem eB.beq_eq {a b:eB} (h:eB.beq a b=true):a=b:=by
 cases a<;>cases b<;>simp[eB.beq]at h<;>first |rfl |(subst h;rfl)
theorem a0O {c:Code} {Q:Exit→Act→World→Prop} (G:Nat→Act→World→Prop) {m:Nat} {a:Act} {w:World} (h₀:G m a w)
 (round:∀m a w,G m a w→c.wp P (Exit.then (fun a' w'=>∃m',m'<m∧G m' a' w') Q) a w):(Code.loop c).wp P Q a w:=by
 intro b k cs
 have key:∀m a w,G m a w→
  ∃e a' w',Q e a' w'∧Arrives P (lone (b.at a (.code c:: .inLoop c::k)) cs w) b k cs e a' w':=by
  intro m
  induction m using Nat.strongRecOn with
  |_ m ih=>
   intro a w hI
   obtain ⟨e,a₁,w₁,hq,a0P⟩:=round m a w hI b (.inLoop c::k) cs
   cases e with
   |normal=>
    obtain ⟨m',hlt,hI₁⟩:=hq
    obtain ⟨e₂,a₂,w₂,hq₂,bGR⟩:=ih m' hlt a₁ w₁ hI₁
    exact ⟨e₂,a₂,w₂,hq₂,.of_steps (Steps.trans a0P (.one step_inLoop)) bGR⟩
   |exit id=>exact ⟨_,a₁,w₁,hq,.pass (x:= .inLoop c) rfl (fun _ _=> .inl (by simp)) a0P⟩
   |goto l=>exact ⟨_,a₁,w₁,hq,.pass (x:= .inLoop c) rfl (fun _ _=> .inl (by simp)) a0P⟩
   |ret=>exact ⟨_,a₁,w₁,hq,.pass (x:= .inLoop c) rfl (fun _ _=> .inl (by simp)) a0P⟩
   |panic ch=>exact ⟨_,a₁,w₁,hq,.pass (x:= .inLoop c) rfl (fun _ _=> .inl (by simp)) a0P⟩
   |outgrown=>exact ⟨_,a₁,w₁,hq,.pass (x:= .inLoop c) rfl (fun _ _=> .inl (by simp)) a0P⟩
 obtain ⟨e,a',w',hq,a0P⟩:=key m a w h₀
 exact ⟨e,a',w',hq,.of_steps (.one step_loop) a0P⟩
theorem aRU {A:Type} {K:eB→Fr→Ev.St→Option A} {res:A} {e:eB} (hI:Inv P T Γ S pl St F a w):∀(outs:List (eB×Shape)) (i0 i:Nat) (ps:List PV),aPs Γ.m outs=true→aEh e F St outs i0=some (i,ps)→
 ∃j,i=i0+j∧(aZ3 K outs j ps=some res→∃F' aD sD,Inv P T Γ S sD aD F' a w∧K e F' aD=some res)
 |[],_,_,_,_,h=>by simp[aEh]at h
 |(e',sh)::r,i0,i,ps,hok,h=>by
  simp only[aPs,Bool.and_eq_true]at hok
  simp only[aEh]at h
  split at h
  ·rename_i hb
   obtain rfl:=eB.beq_eq hb
   split at h
   ·rename_i ps' hp
    simp only[Option.some.injEq,Prod.mk.injEq]at h
    obtain ⟨rfl,rfl⟩:=h
    obtain ⟨F',aD,sD,hu,hI'⟩:=aPr (by simpa[bAf]using hok.1) hI hp
    refine ⟨0,rfl,fun hg=>⟨F',aD,sD,hI', ?_⟩⟩
    rw[←hu (K e)]
    cases r with
    |nil=>exact hg
    |cons x xs=>exact hg
   ·simp at h
  ·obtain ⟨j,rfl,hj⟩:=aRU hI r (i0+1) i ps hok.2 h
   refine ⟨j+1,by omega,fun hg=>hj ?_⟩
   cases r with
   |nil=>simp[aEh]at h
   |cons x xs=>exact hg
def a4a (fix:((List PV→Option (Nat×List PV))→List PV→Option (Nat×List PV))→List PV→Option (Nat×List PV)):Prop:=∀step ps x,fix step ps=some x→∃n,aDx step n ps=some x
theorem aVd (hm:P.follows .mixedOrders=true) (hpc:aQt P T E) (a7u:a4a E.fix):∀(ac:rB) (c:Code),cG P T Γ.n Γ.m ac c=true→∀{A:Type} {F:Fr} {St:Ev.St} {S:xA} {pl:Pl} {a:Act} {w:World} {K:eB→Fr→Ev.St→Option A} {res:A} {Q:Exit→Act→World→Prop},
 Inv P T Γ S pl St F a w→vM E ac F St K=some res→(∀e F St S pl a w,Inv P T Γ S pl St F a w→K e F St=some res→Q (a7t e) a w)→c.wp P Q a w:=by
 intro ac
 induction ac with
 |skip=>
  intro c hok A F St S pl a w K res Q hI h hQ
  cases c with
  |skip=>exact wp_skip (hQ .normal _ _ _ _ _ _ hI h)
  |label l=>exact wp_label (hQ .normal _ _ _ _ _ _ hI h)
  |_=>simp[cG]at hok
 |region fz aos aQB m=>
  intro c hok A F St S pl a w K res Q hI h hQ
  cases c with
  |region id ops draw=>exact aY7 hm hpc hok hI h (fun F St S pl a w hI h=>hQ .normal _ _ _ _ _ _ hI h)
  |_=>simp[cG]at hok
 |seq x y ihx ihy=>
  intro c hok A F St S pl a w K res Q hI h hQ
  cases c with
  |seq cx cy=>
   simp only[cG,Bool.and_eq_true]at hok
   refine wp_seq (ihx cx hok.1 hI h (fun e F St S pl a w hI h=> ?_))
   cases e with
   |normal=>exact ihy cy hok.2 hI h hQ
   |exit id=>exact hQ (.exit id) _ _ _ _ _ _ hI h
   |ret=>exact hQ .ret _ _ _ _ _ _ hI h
  |_=>simp[cG]at hok
 |cond oc x y ihx ihy=>
  intro c hok A F St S pl a w K res Q hI h hQ
  cases c with
  |cond cc cx cy=>
   simp only[cG,Bool.and_eq_true]at hok
   have hv:=sC hI.jO hok.1.1 hI.frame
   simp only[vM]at h
   split at h
   ·rename_i r e
    rw[e]at hv
    refine wp_cond hv.of_bool ?_
    split at h
    ·rename_i hb;rw[if_pos hb];exact ihx cx hok.1.2 hI h hQ
    ·rename_i hb;rw[if_neg hb];exact ihy cy hok.2 hI h hQ
   ·simp at h
  |_=>simp[cG]at hok
 |block id x ih=>
  intro c hok A F St S pl a w K res Q hI h hQ
  cases c with
  |block id' cx=>
   simp only[cG,Bool.and_eq_true]at hok
   obtain rfl:=Nat.eq_of_beq_eq_true hok.1
   refine wp_block (ih cx hok.2 hI h (fun e F St S pl a w hI h=> ?_))
   cases e with
   |normal=>exact hQ .normal _ _ _ _ _ _ hI h
   |exit i=>
    simp only at h
    show (if i=id then Q .normal a w else Q (.exit i) a w)
    split at h
    ·rename_i hb;rw[if_pos (Nat.eq_of_beq_eq_true hb)];exact hQ .normal _ _ _ _ _ _ hI h
    ·rename_i hb
     rw[if_neg (fun e=>by subst e;simp at hb)];exact hQ (.exit i) _ _ _ _ _ _ hI h
   |ret=>exact hQ .ret _ _ _ _ _ _ hI h
  |_=>simp[cG]at hok
 |loop sh outs x ih=>
  intro c hok A F St S pl a w K res Q hI h hQ
  cases c with
  |loop cx=>
   simp only[cG,Bool.and_eq_true]at hok
   obtain ⟨⟨hsh,bGS⟩,hok⟩:=hok
   have hsh:Γ.m≤sh.m:=by simpa[bAf]using hsh
   simp only[vM]at h
   split at h
   ·rename_i ps hp
    obtain ⟨⟨i,qs⟩,h1,h2⟩:=Option.bind_eq_some_iff.1 h
    obtain ⟨F1,St1,pl1,hu,hI1⟩:=aPr hsh hI hp
    obtain ⟨m0,h1⟩:=a7u _ _ _ h1
    let G:Nat→Act→World→Prop:=fun m a w=>∃ps F St S pl,Inv P T Γ S pl St F a w∧(∀{B:Type} (k:Fr→Ev.St→Option B),unpack sh ps k=k F St)∧aDx (aHp (fun F S k=>vM E x F S k) sh outs) m ps=some (i,qs)
    refine a0O G (m:=m0) ⟨ps,F1,St1,S,pl1,hI1,hu,h1⟩ (fun m a w hG=> ?_)
    obtain ⟨ps,F,St,S,pl,hI,hu,hit⟩:=hG
    cases m with
    |zero=>simp[aDx]at hit
    |succ m=>
     simp only[aDx,aHp]at hit
     rw[hu]at hit
     refine ih cx hok hI hit (fun e F St S pl a w hI h=> ?_)
     have out:aEh e F St outs 0=some (i,qs)→Q (a7t e) a w:=by
      intro ho
      obtain ⟨j,hj,hg⟩:=aRU (K:=K) (res:=res) hI outs 0 i qs bGS ho
      rw[Nat.zero_add]at hj;subst hj
      obtain ⟨F',aD,sD,hI',h'⟩:=hg h2
      exact hQ e _ _ _ _ _ _ hI' h'
     cases e with
     |normal=>
      simp only at h
      split at h
      ·rename_i ps' hp'
       obtain ⟨F',aD,sD,hu',hI'⟩:=aPr hsh hI hp'
       exact ⟨m,Nat.lt_succ_self m,ps',F',aD,S,sD,hI',hu',h⟩
      ·simp at h
     |exit id=>exact out h
     |ret=>exact out h
   ·simp at h
  |_=>simp[cG]at hok
 |ghost g x ih=>
  intro c hok A F St S pl a w K res Q hI h hQ
  have hok:aLA P g=true∧cG P T Γ.n Γ.m x c=true:=by
   have:(aLA P g&&cG P T Γ.n Γ.m x c)=true:=by cases c<;>exact hok
   simpa using this
  simp only[vM]at h
  obtain ⟨F',aD,S',sD,hI',h'⟩:=aS5 hok.1 hI h
  exact ih c hok.2 hI' h' hQ
 |post g x ih=>
  intro c hok A F St S pl a w K res Q hI h hQ
  have hok:aLA P g=true∧cG P T Γ.n Γ.m x c=true:=by
   have:(aLA P g&&cG P T Γ.n Γ.m x c)=true:=by cases c<;>exact hok
   simpa using this
  simp only[vM]at h
  refine ih c hok.2 hI h (fun e F St S pl a w hI h=> ?_)
  cases e with
  |normal=>
   obtain ⟨F',aD,S',sD,hI',h'⟩:=aS5 hok.1 hI h
   exact hQ .normal _ _ _ _ _ _ hI' h'
  |exit id=>exact hQ (.exit id) _ _ _ _ _ _ hI h
  |ret=>exact hQ .ret _ _ _ _ _ _ hI h
 |join outs x ih=>
  intro c hok A F St S pl a w K res Q hI h hQ
  have hok:aPs Γ.m outs=true∧cG P T Γ.n Γ.m x c=true:=by
   have:(aPs Γ.m outs&&cG P T Γ.n Γ.m x c)=true:=by cases c<;>exact hok
   simpa using this
  simp only[vM]at h
  obtain ⟨⟨i,qs⟩,h1,h2⟩:=Option.bind_eq_some_iff.1 h
  refine ih c hok.2 hI h1 (fun e F St S pl a w hI h=> ?_)
  obtain ⟨j,hj,hg⟩:=aRU (K:=K) (res:=res) hI outs 0 i qs hok.1 h
  rw[Nat.zero_add]at hj;subst hj
  obtain ⟨F',aD,sD,hI',h'⟩:=hg h2
  exact hQ e _ _ _ _ _ _ hI' h'
 |exit id=>
  intro c hok A F St S pl a w K res Q hI h hQ
  cases c with
  |exit id'=>
   simp only[cG]at hok
   obtain rfl:=Nat.eq_of_beq_eq_true hok
   exact wp_exit (hQ (.exit id) _ _ _ _ _ _ hI h)
  |_=>simp[cG]at hok
 |bad=>
  intro c hok A F St S pl a w K res Q hI h hQ
  simp[vM]at h
 |ret=>
  intro c hok A F St S pl a w K res Q hI h hQ
  cases c with
  |ret=>exact wp_ret (hQ .ret _ _ _ _ _ _ hI h)
  |_=>simp[cG]at hok
end Go.Ev
