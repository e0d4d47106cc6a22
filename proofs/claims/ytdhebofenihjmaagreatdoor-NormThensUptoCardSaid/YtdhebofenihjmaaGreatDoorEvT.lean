/-
  Regions whose operations may come in any order that their edges allow.
-/
import Derived.Test.YtdhebofenihjmaaGreatDoorEvQ
set_option linter.all false
set_option maxRecDepth 100000
namespace Go.Ev
variable {E:Env} {P:Program} {T:Nat→yF} {S S':yA} {pl wD:Pl} {St dD:Ev.St} {F F':Fr} {a:Act} {w w':World}
variable {Γ:Ctx} {n:Nat}
structure Rec where
 i:Nat
 o:lK
 ran:Bool
 v:AV
 us:List (Nat×Obj)
 rd:List Nat
def Rec.aLo (x:Rec):aRt:=(x.us.map (·.1),x.rd)
def aIm (F:Fr) (o:lK) (b:Bool):Prop:=match o.guard with
 |none=>b=true
 |some (t,w)=>(∃e,F.get t= .d (.one .bool) [.bool e]∧b=(e==w))∨(F.get t= .und∧b=false)
def Rec.did (E:Env) (base:Nat) (x:Rec) (F:Fr) (S:Ev.St):Prop:=
 aIm F x.o x.ran∧(x.ran=true→op1 E F S x.o.op base=some (x.v,x.us,x.rd))∧(x.ran=false→x.v= .und∧x.us=[]∧x.rd=[])
def Run (E:Env) (base:Nat):List Rec→Fr→Ev.St→Fr→Ev.St→Prop
 |[],F,S,Fn,Sn=>(∀t,F.get t=Fn.get t)∧S=Sn
 |x::rest,F,S,Fn,Sn=>x.did E base F S∧Run E base rest (F.put x.o.dst x.v) (zF x.us S) Fn Sn
theorem a0D {F F':Fr} (h:∀t,F.get t=F'.get t) (x:rD):x.ev F=x.ev F':=by cases x<;>simp[rD.ev,h]
theorem Fr.aGa (F:Fr) (d:Option Nat) (v:AV) (t:Nat):(F.put d v).get t=if d=some t then v else F.get t:=by
 cases d with
 |none=>simp[Fr.put]
 |some d=>simp only[Fr.put,Fr.aER,Option.some.injEq]
theorem Rec.a5c {base:Nat} {x:Rec} (h:∀t,F.get t=F'.get t) (hd:x.did E base F St):x.did E base F' St:=by
 refine ⟨?_,fun hr=> ?_,hd.2.2⟩
 ·have:=hd.1
  unfold aIm at this⊢
  split<;>simp_all
 ·rw[←aRI St x.o.op base (fun y _=>a0D h y)];exact hd.2.1 hr
theorem Run.congr {base:Nat} {Fn:Fr} {Sn:Ev.St}:∀(l:List Rec) {F F':Fr} {St:Ev.St},(∀t,F.get t=F'.get t)→Run E base l F St Fn Sn→Run E base l F' St Fn Sn
 |[],F,F',St,h,hr=>⟨fun t=>(h t).symm.trans (hr.1 t),hr.2⟩
 |x::rest,F,F',St,h,hr=>⟨Rec.a5c h hr.1,Run.congr rest (fun t=>by rw[Fr.aGa,Fr.aGa,h t]) hr.2⟩
def aXF (o:lK):List Nat:=match o.guard with |some (t,_)=>[t]|none=>[]
def a3R:rD→List Nat | .t n=>[n]| .c _ _=>[]
def slots (o:lK):List Nat:=aXF o++(aHV o.op).flatMap a3R
def a0E (d:Option Nat) (l:List Nat):Bool:=match d with |none=>true |some t=> !l.any (Nat.beq t)
def aRK (x y:lK):Bool:=a0E x.dst (slots y)&&a0E y.dst (slots x)&&(match x.dst,y.dst with |some a,some b=> !Nat.beq a b |_,_=>true)
theorem a0F {d:Option Nat} {l:List Nat} (h:a0E d l=true):∀t∈l,d≠some t:=by
 intro t ht e;subst e
 simp only[a0E,Bool.not_eq_true',List.any_eq_false]at h
 exact h t ht (by simp)
theorem a3S {base:Nat} {x:Rec} {d:Option Nat} {v:AV} (h:a0E d (slots x.o)=true):x.did E base (F.put d v) St↔x.did E base F St:=by
 have hn:=a0F h
 have hg:∀t,t∈slots x.o→(F.put d v).get t=F.get t:=fun t ht=>by rw[Fr.aGa,if_neg (hn t ht)]
 have hev:∀y∈aHV x.o.op,y.ev (F.put d v)=y.ev F:=by
  intro y hy
  cases y with
  |c=>rfl
  |t n=>exact hg n (by simp only[slots,List.mem_append,List.mem_flatMap];exact .inr ⟨_,hy,by simp[a3R]⟩)
 unfold Rec.did
 rw[aRI St x.o.op base hev]
 have:aIm (F.put d v) x.o x.ran↔aIm F x.o x.ran:=by
  unfold aIm
  cases hgd:x.o.guard with
  |none=>rfl
  |some p=>
   obtain ⟨t,b⟩:=p
   have:=hg t (by simp[slots,aXF,hgd])
   simp only[this]
 rw[this]
theorem aIR:∀(us:List (Nat×Obj)) (S:Ev.St),(zF us S).length=S.length
 |[],_=>rfl
 |(i,o)::r,S=>by simp only[zF];rw[aIR r];simp
theorem aRL:∀(us:List (Nat×Obj)) (S:Ev.St) (j:Nat),j∉us.map (·.1)→(zF us S)[j]? =S[j]?
 |[],_,_,_=>rfl
 |(i,o)::r,S,j,h=>by
  simp only[List.map_cons,List.mem_cons,not_or]at h
  simp only[zF]
  rw[aRL r _ j h.2,List.getElem?_set_ne (Ne.symm h.1)]
theorem a2z (us:List (Nat×Obj)) (S:Ev.St) (i:Nat) (o:Obj) (h:i∉us.map (·.1)):zF us (S.set i o)=(zF us S).set i o:=by
 induction us generalizing S with
 |nil=>rfl
 |cons p r ih=>
  obtain ⟨j,q⟩:=p
  simp only[List.map_cons,List.mem_cons,not_or]at h
  simp only[zF]
  rw[←ih (S:=S.set j q) h.2,List.set_comm _ _ (h.1)]
theorem aSX:∀(us vs:List (Nat×Obj)) (S:Ev.St),(∀i∈us.map (·.1),i∉vs.map (·.1))→zF us (zF vs S)=zF vs (zF us S)
 |[],_,_,_=>rfl
 |(i,o)::r,vs,S,h=>by
  simp only[zF]
  rw[←a2z vs S i o (h i (by simp)),aSX r vs _ (fun j hj=>h j (by simp only[List.map_cons,List.mem_cons];exact .inr hj))]
theorem aNt {a l:List Nat} (h:meets a l=false):∀i∈a,i∉l:=by
 induction a with
 |nil=>intro i hi;cases hi
 |cons b r ih=>
  simp only[meets,Bool.or_eq_false_iff]at h
  intro i hi
  cases hi with
  |head=>intro hl;have:=List.any_eq_false.1 h.1 _ hl;simp at this
  |tail _ hi=>exact ih h.2 i hi
theorem a9W {base:Nat} {x:Rec} {us:List (Nat×Obj)} (h:∀i∈us.map (·.1),i∉x.rd) (hd:x.did E base F St):x.did E base F (zF us St):=
 ⟨hd.1,fun hr=>a3Q (hd.2.1 hr) (aIR us St) (fun id hid=>aRL us St id (fun hm=>h id hm hid)),hd.2.2⟩
theorem a7a {base:Nat} {x:Rec} {us:List (Nat×Obj)} (h:∀i∈us.map (·.1),i∉x.rd) (hd:x.did E base F (zF us St)):x.did E base F St:=
 ⟨hd.1,fun hr=>a3Q (hd.2.1 hr) (aIR us St).symm (fun id hid=>(aRL us St id (fun hm=>h id hm hid)).symm),hd.2.2⟩
theorem put_comm {d d':Option Nat} (h:(match d,d' with |some a,some b=> !Nat.beq a b |_,_=>true)=true) (v v':AV) (t:Nat):
 ((F.put d v).put d' v').get t=((F.put d' v').put d v).get t:=by
 rw[Fr.aGa,Fr.aGa,Fr.aGa,Fr.aGa]
 by_cases h1:d=some t
 ·by_cases h2:d'=some t
  ·subst h1;subst h2;simp at h
  ·rw[if_neg h2,if_pos h1,if_pos h1]
 ·rw[if_neg h1,if_neg h1]
theorem Run.swap {base:Nat} {x y:Rec} {rest:List Rec} {Fn:Fr} {Sn:Ev.St} (h:Run E base (x::y::rest) F St Fn Sn) (hc:conflict y.aLo x.aLo=false) (ha:aRK x.o y.o=true):
 Run E base (y::x::rest) F St Fn Sn:=by
 obtain ⟨hx,hy,hr⟩:=h
 simp only[conflict,Bool.or_eq_false_iff]at hc
 obtain ⟨⟨c1,c2⟩,c3⟩:=hc
 have c1:=aNt c1
 have c2:=aNt c2
 have c3:=aNt c3
 have c3':∀i∈x.us.map (·.1),i∉y.rd:=fun i hi hj=>c3 i hj hi
 simp only[aRK,Bool.and_eq_true]at ha
 obtain ⟨⟨a1,a2⟩,a3⟩:=ha
 refine ⟨a7a c3' ((a3S a1).1 hy),a9W c2 ((a3S a2).2 hx), ?_⟩
 rw[aSX x.us y.us St (fun i hi hj=>c1 i hj hi)]
 exact Run.congr rest (put_comm a3 x.v y.v) hr
theorem Run.front {base:Nat} {y:Rec} {post:List Rec} {Fn:Fr} {Sn:Ev.St}:∀(pre:List Rec) {F:Fr} {St:Ev.St},Run E base (pre++y::post) F St Fn Sn→(∀x∈pre,conflict y.aLo x.aLo=false∧aRK x.o y.o=true)→
 Run E base (y::(pre++post)) F St Fn Sn
 |[],F,St,h,_=>h
 |x::pre,F,St,h,ha=>by
  have h2:Run E base (x::y::(pre++post)) F St Fn Sn:=⟨h.1,Run.front pre h.2 (fun z hz=>ha z (by simp[hz]))⟩
  exact h2.swap (ha x (by simp)).1 (ha x (by simp)).2
theorem aSY {f:aRt} {bef:List Nat}:∀{seen:List aRt} {i:Nat},aB1 f bef seen i=true→∀j g,seen[j]? =some g→conflict f g=false∨i+j∈bef
 |[],_,_,j,g,h=>by simp at h
 |q::r,i,h,j,g,hj=>by
  simp only[aB1,Bool.and_eq_true,Bool.or_eq_true,Bool.not_eq_true']at h
  cases j with
  |zero=>
   simp at hj;subst hj
   rcases h.1 with h1 |h1
   ·exact .inl h1
   ·rw[List.any_eq_true]at h1
    obtain ⟨b,hb,e⟩:=h1
    have:=Nat.eq_of_beq_eq_true e
    subst this;exact .inr hb
  |succ j=>
   have:=aSY h.2 j g (by simpa using hj)
   rw[Nat.add_assoc,Nat.add_comm 1 j]at this
   exact this
theorem trace {A:Type} {base:Nat} {k:Fr→Ev.St→Option A} {res:A}:∀(aos:List lK) (seen:List aRt) (F:Fr) (St:Ev.St),aIN E true base aos seen F St k=some res→
 ∃(aAc:List Rec) (Fn:Fr) (Sn:Ev.St),Run E base aAc F St Fn Sn∧k Fn Sn=some res∧aAc.map (·.o)=aos∧(∀j x,aAc[j]? =some x→x.i=seen.length+j)∧
  (∀(j:Nat) (x:Rec),aAc[j]? =some x→∀(m:Nat) (g:aRt),(seen++aAc.map Rec.aLo)[m]? =some g→m<seen.length+j→conflict x.aLo g=false∨m∈x.o.bef)
 |[],seen,F,St,h=>⟨[],F,St,⟨fun _=>rfl,rfl⟩,h,rfl,fun j x h=>by simp at h,fun j x h=>by simp at h⟩
 |ao::aos,seen,F,St,h=>by
  have next:∀(F1:Fr) (b:Bool) (v:AV) (us:List (Nat×Obj)) (rd:List Nat),(∀t,F1.get t=F.get t)→({i:=seen.length,o:=ao,ran:=b,v:=v,us:=us,rd:=rd}:Rec).did E base F St→
   (aB1 (us.map (·.1),rd) ao.bef seen 0=true∨b=false)→
   aIN E true base aos (seen++[(us.map (·.1),rd)]) (F1.put ao.dst v) (zF us St) k=some res→
   ∃(aAc:List Rec) (Fn:Fr) (Sn:Ev.St),Run E base aAc F St Fn Sn∧k Fn Sn=some res∧aAc.map (·.o)=ao::aos∧(∀j x,aAc[j]? =some x→x.i=seen.length+j)∧
    (∀(j:Nat) (x:Rec),aAc[j]? =some x→∀(m:Nat) (g:aRt),(seen++aAc.map Rec.aLo)[m]? =some g→m<seen.length+j→conflict x.aLo g=false∨m∈x.o.bef):=by
   intro F1 b v us rd hF1 a5d bJe h
   obtain ⟨aAc,Fn,Sn,h1,h2,h3,h4,h5⟩:=trace aos _ _ _ h
   refine ⟨{i:=seen.length,o:=ao,ran:=b,v:=v,us:=us,rd:=rd}::aAc,Fn,Sn,⟨a5d,Run.congr aAc (fun t=>by rw[Fr.aGa,Fr.aGa,hF1 t]) h1⟩,h2,by simp[h3],fun j x hj=> ?_,fun j x hj m g hg hm=> ?_⟩
   ·cases j with
    |zero=>simp at hj;subst hj;rfl
    |succ j=>
     have:=h4 j x (by simpa using hj)
     rw[this];simp;omega
   ·cases j with
    |zero=>
     simp at hj;subst hj
     rcases bJe with ho |hb
     ·have hms:m<seen.length:=by omega
      rw[List.getElem?_append_left hms]at hg
      have:=aSY ho m g hg
      simpa[Rec.aLo]using this
     ·left
      have:=a5d.2.2 hb
      simp only at this
      obtain ⟨_,rfl,rfl⟩:=this
      rfl
    |succ j=>
     refine h5 j x (by simpa using hj) m g ?_ (by simp;omega)
     simpa[Rec.aLo]using hg
  simp only[aIN]at h
  have run:∀F1:Fr,(∀t,F1.get t=F.get t)→aIm F ao true→opK E F1 St ao.op base (fun v us rd=>check (!true ||aB1 (us.map (·.1),rd) ao.bef seen 0) (aIN E true base aos (seen++[(us.map (·.1),rd)]) (F1.put ao.dst v) (zF us St) k))=some res→
   ∃(aAc:List Rec) (Fn:Fr) (Sn:Ev.St),Run E base aAc F St Fn Sn∧k Fn Sn=some res∧aAc.map (·.o)=ao::aos∧(∀j x,aAc[j]? =some x→x.i=seen.length+j)∧
    (∀(j:Nat) (x:Rec),aAc[j]? =some x→∀(m:Nat) (g:aRt),(seen++aAc.map Rec.aLo)[m]? =some g→m<seen.length+j→conflict x.aLo g=false∨m∈x.o.bef):=by
   intro F1 hF1 hw h
   rw[aYU]at h
   obtain ⟨⟨av,us,rd⟩,e1,e2⟩:=Option.bind_eq_some_iff.1 h
   obtain ⟨ho,e2⟩:=lA e2
   rw[aRI St ao.op base (fun y _=>a0D hF1 y)]at e1
   exact next F1 true av us rd hF1 ⟨hw,fun _=>e1,fun h=>by simp at h⟩ (.inl (by simpa using ho)) e2
  have skip:∀F1:Fr,(∀t,F1.get t=F.get t)→aIm F ao false→aIN E true base aos (seen++[([],[])]) (F1.put ao.dst .und) St k=some res→
   ∃(aAc:List Rec) (Fn:Fr) (Sn:Ev.St),Run E base aAc F St Fn Sn∧k Fn Sn=some res∧aAc.map (·.o)=ao::aos∧(∀j x,aAc[j]? =some x→x.i=seen.length+j)∧
    (∀(j:Nat) (x:Rec),aAc[j]? =some x→∀(m:Nat) (g:aRt),(seen++aAc.map Rec.aLo)[m]? =some g→m<seen.length+j→conflict x.aLo g=false∨m∈x.o.bef):=
   fun F1 hF1 hw h=>next F1 false .und [] [] hF1 ⟨hw,fun h=>by simp at h,fun _=>⟨rfl,rfl,rfl⟩⟩ (.inr rfl) h
  split at h
  ·rename_i hg
   exact run F (fun _=>rfl) (by simp[aIm,hg]) h
  ·rename_i t b hg
   split at h
   ·rename_i e hr
    have nar:∀c,e=c→∀t',Fr.get ((t,vB c)::F) t'=F.get t':=by
     intro c hc t'
     rw[Fr.aER]
     split
     ·rename_i q;subst q;rw[hr,hc]
     ·rfl
    split at h
    ·split at h
     ·rename_i hb
      exact run _ (nar _ hb) (by simp only[aIm,hg];exact .inl ⟨e,hr,by simp[hb]⟩) h
     ·rename_i hb
      have hb:e=false:=by simpa using hb
      exact skip _ (nar _ hb) (by simp only[aIm,hg];exact .inl ⟨e,hr,by simp[hb]⟩) h
    ·split at h
     ·rename_i hb
      exact skip _ (nar _ hb) (by simp only[aIm,hg];exact .inl ⟨e,hr,by simp[hb]⟩) h
     ·rename_i hb
      have hb:e=false:=by simpa using hb
      exact run _ (nar _ hb) (by simp only[aIm,hg];exact .inl ⟨e,hr,by simp[hb]⟩) h
   ·rename_i hu
    exact skip F (fun _=>rfl) (by simp only[aIm,hg];exact (.inr ⟨hu,by trivial⟩)) h
   ·simp at h
def a7b (all:List lK) (o:Oper) (ao:lK):Bool:=
 ao.bef.all fun b=>o.after.toList.any fun e=>Region.binds .any e&&(Nat.beq e.on b ||(match all[e.on]? with |some ao'=>ao'.bef.any (Nat.beq b)|none=>false))
def aYW (i:Nat) (o:Oper):Bool:=o.after.toList.all fun e=> !Region.binds .any e ||Nat.blt e.on i
def aKc (ao:lK):List lK→Nat→Bool
 |[],_=>true
 |p::r,m=>(ao.bef.any (Nat.beq m)||aRK p ao)&&aKc ao r (m+1)
def aXG (all:List lK):List Oper→List lK→List lK→Nat→Bool
 |[],[],_,_=>true
 |o::os,ao::aos,prev,i=>a7b all o ao&&aYW i o&&aKc ao prev 0&&aXG all os aos (prev++[ao]) (i+1)
 |_,_,_,_=>false
theorem aQt {ao:lK}:∀{prev:List lK} {m:Nat},aKc ao prev m=true→∀j p,prev[j]? =some p→m+j∈ao.bef∨aRK p ao=true
 |[],_,_,j,p,h=>by simp at h
 |q::r,m,h,j,p,hj=>by
  simp only[aKc,Bool.and_eq_true,Bool.or_eq_true]at h
  cases j with
  |zero=>
   simp at hj;subst hj
   rcases h.1 with h1 |h1
   ·rw[List.any_eq_true]at h1
    obtain ⟨b,hb,e⟩:=h1
    have:=Nat.eq_of_beq_eq_true e
    subst this;exact .inl hb
   ·exact .inr h1
  |succ j=>
   have:=aQt h.2 j p (by simpa using hj)
   rw[Nat.add_assoc,Nat.add_comm 1 j]at this
   exact this
theorem aXH {all:List lK}:∀{os:List Oper} {aos prev:List lK} {i:Nat},aXG all os aos prev i=true→prev.length=i→∀j o ao,os[j]? =some o→aos[j]? =some ao→
 a7b all o ao=true∧aYW (i+j) o=true∧aKc ao (prev++aos.take j) 0=true
 |[],[],_,_,_,_,j,o,ao,h,_=>by simp at h
 |[],_::_,_,_,_,_,j,o,ao,h,_=>by simp at h
 |_::_,[],_,_,_,_,j,o,ao,_,h=>by simp at h
 |o::os,ao::aos,prev,i,h,hl,j,o',ao',ho,hao=>by
  simp only[aXG,Bool.and_eq_true]at h
  cases j with
  |zero=>simp at ho hao;subst ho;subst hao;exact ⟨h.1.1.1,h.1.1.2,by simpa using h.1.2⟩
  |succ j=>
   have:=aXH h.2 (by simp[hl]) j o' ao' (by simpa using ho) (by simpa using hao)
   refine ⟨this.1,by rw[Nat.add_assoc,Nat.add_comm 1 j]at this;exact this.2.1,by simpa using this.2.2⟩
theorem aXI {ops:Array Oper}:∀{os:List Oper} {aos:List lK},aHi P T n ops os aos=true→∀(j:Nat) (o:Oper) (ao:lK),os[j]? =some o→aos[j]? =some ao→aUX P T n ops o ao=true
 |[],_,_,j,o,ao,h,_=>by simp at h
 |_::_,[],h,_,_,_,_,_=>by simp[aHi]at h
 |o::os,ao::aos,h,j,o',ao',ho,hao=>by
  simp only[aHi,Bool.and_eq_true]at h
  cases j with
  |zero=>simp at ho hao;subst ho;subst hao;exact h.1
  |succ j=>exact aXI h.2 j o' ao' (by simpa using ho) (by simpa using hao)
theorem aRM {ops:Array Oper}:∀{os:List Oper} {aos:List lK},aHi P T n ops os aos=true→os.length=aos.length
 |[],[],_=>rfl
 |[],_::_,h=>by simp[aHi]at h
 |_::_,[],h=>by simp[aHi]at h
 |_::os,_::aos,h=>by simp only[aHi,Bool.and_eq_true]at h;simp[aRM h.2]
theorem Inv.a9X (h:Inv P T Γ S pl St F a w) (hF:∀t,F.get t=F'.get t):Inv P T Γ S pl St F' a w:=
 ⟨h.cO,fun t=>by rw[←hF t];exact h.frame t,h.size,h.defers,h.grow,h.rZ,h.kept⟩
theorem a5e {ops:Array Oper} {aos:List lK} {Q:Exit→Act→World→Prop} {base:Nat} {Fn:Fr} {Sn:Ev.St} (hpc:aQn P T E) (hok:aHi P T Γ.n ops ops.toList aos=true) (hdr:aXG aos ops.toList aos [] 0=true)
 (hQ:∀S pl a w,Inv P T Γ S pl Sn Fn a w→Q .normal a w):
 ∀(fuel:Nat) (rem:List Rec) (listed:Array Bool) (F:Fr) (St:Ev.St) (S:yA) (pl:Pl) (a:Act) (w:World),fuel=rem.length→listed.size=ops.size→
  (∀x∈rem,listed[x.i]? =some false∧aos[x.i]? =some x.o)→(∀i,listed.getD i true=false→∃x∈rem,x.i=i)→
  rem.Pairwise (fun x y=>x.i<y.i∧(conflict y.aLo x.aLo=false∨x.i∈y.o.bef))→
  (∀j ao,listed.getD j false=true→aos[j]? =some ao→∀b∈ao.bef,listed.getD b false=true)→
  Inv P T Γ S pl St F a w→Run E base rem F St Fn Sn→wpAny P .any ops Q fuel listed a w:=by
 have hlen:ops.size=aos.length:=by have:=aRM hok;simpa using this
 have a9Y:∀i ao,aos[i]? =some ao→∃o,ops[i]? =some o:=fun i ao h=>by
  have:i<ops.size:=by have:=(List.getElem?_eq_some_iff.1 h).1;omega
  exact ⟨_,Array.getElem?_eq_getElem this⟩
 have bA2:∀i o ao,ops[i]? =some o→aos[i]? =some ao→aUX P T Γ.n ops o ao=true∧a7b aos o ao=true∧aYW i o=true∧aKc ao (aos.take i) 0=true:=by
  intro i o ao ho hao
  have ho':ops.toList[i]? =some o:=by simpa using ho
  have:=aXH hdr rfl i o ao ho' hao
  exact ⟨aXI hok i o ao ho' hao,this.1,by simpa using this.2.1,by simpa using this.2.2⟩
 intro fuel
 induction fuel with
 |zero=>
  intro rem listed F St S pl a w hf hsz a7c a7d hpw aUU hI hr
  have:rem=[]:=List.eq_nil_of_length_eq_zero hf.symm
  subst this
  obtain ⟨h1,rfl⟩:=hr
  refine ⟨?_,hQ S pl a w (hI.a9X h1)⟩
  apply List.eq_nil_iff_forall_not_mem.2
  intro i hi
  obtain ⟨x,hx,_⟩:=a7d i (mem_ready.1 hi).1
  cases hx
 |succ fuel ih=>
  intro rem listed F St S pl a w hf hsz a7c a7d hpw aUU hI hr
  have unl:∀i,i<ops.size→listed.getD i false≠true→∃x∈rem,x.i=i:=by
   intro i hi hn
   refine a7d i ?_
   have hil:i<listed.size:=by omega
   simp[hil]at hn⊢
   exact hn
  refine ⟨fun aRF=> ?_,fun i hi=> ?_⟩
  ·exfalso
   match rem,hf with
   |x::rest,_=>
    obtain ⟨hx1,hx2⟩:=a7c x (by simp)
    obtain ⟨o,ho⟩:=a9Y _ _ hx2
    have hmem:x.i∈Region.ready .any ops listed:=by
     refine mem_ready.2 ⟨by simp[hx1],o,ho,fun e he hb=> ?_⟩
     obtain ⟨_,_,hed,_⟩:=bA2 _ _ _ ho hx2
     have:=List.all_eq_true.1 hed e (by simpa using he)
     rw[hb]at this
     have hlt:e.on<x.i:=by simpa using this
     have bNv:x.i<ops.size:=(Array.getElem?_eq_some_iff.1 ho).1
     by_cases hl:listed.getD e.on false=true
     ·exact hl
     ·obtain ⟨y,hy,hyi⟩:=unl e.on (by omega) hl
      rcases List.mem_cons.1 hy with rfl |hy
      ·omega
      ·have:=(List.pairwise_cons.1 hpw).1 y hy;omega
    rw[aRF]at hmem;cases hmem
  ·obtain ⟨h1,o,ho,hon⟩:=mem_ready.1 hi
   obtain ⟨x,hx,rfl⟩:=a7d i h1
   obtain ⟨hx1,hx2⟩:=a7c x hx
   obtain ⟨hoo,bJg,hed,hap⟩:=bA2 _ _ _ ho hx2
   obtain ⟨pre,post,rfl⟩:=List.append_of_mem hx
   have bA3:∀b∈x.o.bef,listed.getD b false=true:=by
    intro b hb
    have:=List.all_eq_true.1 bJg b hb
    obtain ⟨e,he,h2⟩:=List.any_eq_true.1 this
    simp only[Bool.and_eq_true,Bool.or_eq_true]at h2
    have hel:=hon e (by simpa using he) h2.1
    rcases h2.2 with h3 |h3
    ·rw[←Nat.eq_of_beq_eq_true h3];exact hel
    ·split at h3
     ·rename_i ao' bJh
      obtain ⟨q,hq,hqe⟩:=List.any_eq_true.1 h3
      have:=Nat.eq_of_beq_eq_true hqe
      subst this
      exact aUU e.on ao' hel bJh b hq
     ·simp at h3
   have hpre:∀p∈pre,conflict x.aLo p.aLo=false∧aRK p.o x.o=true:=by
    intro p hp
    have hpi:=a7c p (by simp[hp])
    have hR:=(List.pairwise_append.1 hpw).2.2 p hp x (by simp)
    have hnb:p.i∉x.o.bef:=fun hb=>by
     have:=bA3 _ hb
     simp[hpi.1]at this
    refine ⟨hR.2.resolve_right hnb, ?_⟩
    have:=aQt hap p.i p.o (by rw[List.getElem?_take,if_pos hR.1];exact hpi.2)
    rw[Nat.zero_add]at this
    exact this.resolve_left hnb
   have bD1:=Run.front pre hr hpre
   obtain ⟨a5d,a3O⟩:=bD1
   have bGz:x.i<listed.size:=(Array.getElem?_eq_some_iff.1 hx1).1
   have hsub:(pre++post).Sublist (pre++x::post):=List.Sublist.append (List.Sublist.refl _) (List.sublist_cons_self _ _)
   have bJi:∀y∈pre++post,y.i≠x.i:=by
    intro y hy
    rcases List.mem_append.1 hy with hy |hy
    ·have:=(List.pairwise_append.1 hpw).2.2 y hy x (by simp);omega
    ·have:=(List.pairwise_cons.1 (List.pairwise_append.1 hpw).2.1).1 y hy;omega
   have next:∀S' wD a' w',Inv P T Γ S' wD (zF x.us St) (F.put x.o.dst x.v) a' w'→wpAny P .any ops Q fuel (listed.setIfInBounds x.i true) a' w':=by
    intro S' wD a' w' hI'
    refine ih (pre++post) _ _ _ _ _ _ _ (by simp at hf⊢;omega) (by simp[hsz]) (fun y hy=> ?_) (fun j hj=> ?_) (hpw.sublist hsub) (fun j ao hj hao b hb=> ?_) hI' a3O
    ·obtain ⟨h1,h2⟩:=a7c y (hsub.subset hy)
     refine ⟨?_,h2⟩
     rw[Array.getElem?_setIfInBounds,if_neg (Ne.symm (bJi y hy))];exact h1
    ·by_cases hji:x.i=j
     ·subst hji
      simp[bGz]at hj
     ·have:listed.getD j true=false:=by
       rw[Array.getD_eq_getD_getElem?,Array.getElem?_setIfInBounds,if_neg hji]at hj
       rw[Array.getD_eq_getD_getElem?];exact hj
      obtain ⟨y,hy,hyj⟩:=a7d j this
      refine ⟨y, ?_,hyj⟩
      rcases List.mem_append.1 hy with hy |hy
      ·exact List.mem_append_left _ hy
      ·rcases List.mem_cons.1 hy with rfl |hy
       ·exact absurd hyj hji
       ·exact List.mem_append_right _ hy
    ·have keep:∀m,listed.getD m false=true→(listed.setIfInBounds x.i true).getD m false=true:=by
      intro m hm
      rw[Array.getD_eq_getD_getElem?,Array.getElem?_setIfInBounds]
      split
      ·simp[bGz]
      ·rw[Array.getD_eq_getD_getElem?]at hm;exact hm
     by_cases hji:x.i=j
     ·subst hji
      rw[hx2]at hao;obtain rfl:=Option.some.inj hao
      exact keep b (bA3 b hb)
     ·have:listed.getD j false=true:=by
       rw[Array.getD_eq_getD_getElem?,Array.getElem?_setIfInBounds,if_neg hji]at hj
       rw[Array.getD_eq_getD_getElem?];exact hj
      exact keep b (aUU j ao this hao b hb)
   simp only[aUX,Bool.and_eq_true]at hoo
   obtain ⟨⟨⟨hop,aTt⟩,a66⟩,hgd⟩:=hoo
   have aTt:=aYV aTt
   obtain ⟨g1,g2,g3⟩:=aQp (ops:=ops) (o:=o) (ao:=x.o) hgd hI.frame
   have bGA:Region.wanted o (yielded ops a.tmps)=x.ran:=by
    have hw:=a5d.1
    unfold aIm at hw
    split at hw
    ·rename_i hg;rw[hw];exact g1 hg
    ·rename_i t b hg
     rcases hw with ⟨e,he,hb⟩|⟨hu,hb⟩
     ·rw[g2 t b hg _ he,hb];rfl
     ·rw[g3 t b hg hu,hb]
   unfold wpOp
   rw[ho]
   dsimp only
   rw[bGA]
   cases bGB:x.ran with
   |true=>
    rw[if_pos rfl]
    refine .inl (a3N hI hpc hop (a5d.2.1 bGB) _ _ fun v w' hp=> ?_)
    rw[aTt]
    obtain ⟨S',wD,hI'⟩:=hI.step a66 hp
    exact next S' wD _ w' hI'
   |false=>
    rw[if_neg (by simp)]
    obtain ⟨hv,hu,_⟩:=a5d.2.2 bGB
    rw[aTt]
    refine next S pl _ w ?_
    rw[hv,hu]
    exact hI.skip a66
theorem a2A {A:Type} {ops:Array Oper} {aos:List lK} {Q:Exit→Act→World→Prop} {base:Nat} {k:Fr→Ev.St→Option A} {res:A} {id:Nat} (hm:P.follows .mixedOrders=true) (hpc:aQn P T E)
 (hok:aHi P T Γ.n ops ops.toList aos=true) (hdr:aXG aos ops.toList aos [] 0=true)
 (hQ:∀F St S pl a w,Inv P T Γ S pl St F a w→k F St=some res→Q .normal a w)
 (hI:Inv P T Γ S pl St F a w) (h:aIN E true base aos [] F St k=some res):(Code.region id ops true).wp P Q a w:=by
 obtain ⟨aAc,Fn,Sn,h1,h2,h3,h4,h5⟩:=trace aos [] F St h
 have hlen:ops.size=aos.length:=by have:=aRM hok;simpa using this
 have hrl:aAc.length=aos.length:=by rw[←h3];simp
 have hI':Inv P T Γ S pl St F a {w with drawn:=w.drawn+1}:=by
  refine ⟨hI.cO.frame S.le_refl (fun _ _ _ _=>rfl) hI.cO.yM hI.cO.apart (fun _ _ _=>rfl),hI.frame,hI.size,hI.defers,⟨hI.grow.os,hI.grow.tape,hI.grow.output,hI.grow.size,hI.grow.block,hI.grow.mono,hI.grow.new⟩,hI.rZ,hI.kept⟩
 refine wp_region_any hm (a5e (E:=E) (base:=base) hpc hok hdr (fun S pl a w hI=>hQ Fn Sn S pl a w hI h2) ops.size aAc _ F St S pl a _ (by omega) (by simp) (fun x hx=> ?_) (fun i hi=> ?_) ?_ (fun j ao hj=> ?_) hI' h1)
 ·obtain ⟨j,hj,rfl⟩:=List.getElem_of_mem hx
  have hxi:=h4 j _ (List.getElem?_eq_getElem hj)
  simp only[List.length_nil,Nat.zero_add]at hxi
  refine ⟨?_, ?_⟩
  ·rw[hxi,Array.getElem?_replicate,if_pos (by omega)]
  ·rw[hxi,←h3];simp[hj]
 ·have hlt:i<ops.size:=by
   rcases Nat.lt_or_ge i ops.size with h |h
   ·exact h
   ·simp[h]at hi
  have hil:i<aAc.length:=by omega
  exact ⟨aAc[i],List.getElem_mem hil,by have:=h4 i _ (List.getElem?_eq_getElem hil);simpa using this⟩
 ·rw[List.pairwise_iff_getElem]
  intro i j hi hj hij
  have hxi:=h4 i _ (List.getElem?_eq_getElem hi)
  have hxj:=h4 j _ (List.getElem?_eq_getElem hj)
  simp only[List.length_nil,Nat.zero_add]at hxi hxj
  refine ⟨by omega, ?_⟩
  rw[hxi]
  exact h5 j _ (List.getElem?_eq_getElem hj) i aAc[i].aLo (by simp[hi]) (by simpa using hij)
 ·rw[Array.getD_eq_getD_getElem?,Array.getElem?_replicate]at hj
  split at hj<;>simp at hj
end Go.Ev
namespace Go.Ev
variable {E:Env} {P:Program} {T:Nat→yF} {S S':yA} {pl wD:Pl} {St dD:Ev.St} {F F':Fr} {a:Act} {w w':World}
variable {Γ:Ctx} {n:Nat}
theorem kD.a0G {i:Nat} {o:Obj} (hi:St[i]? =some o) (hf:o≠ .fresh):kD pl St pl (St.set i .dead):=by
 have hlt:i<St.length:=(List.getElem?_eq_some_iff.1 hi).1
 intro id o1 h hf1
 by_cases hne:id=i
 ·subst hne
  exact ⟨.dead,List.getElem?_set_self hlt,by simp,fun l row e=>(by cases e),fun c vs e=>(by cases e),fun v l' c e=>(by cases e),fun _ _ _ _ e=>(by cases e),fun _ _ _ e=>(by cases e),fun _ _ _ _ e=>(by cases e)⟩
 ·exact ⟨o1,by rw[List.getElem?_set_ne (Ne.symm hne)];exact h,hf1,kD.same rfl rfl⟩
theorem Inv.frozen {i:Nat} {o:Obj} {cs:Array Value} {e:TypeId} {m:Nat} (hI:Inv P T Γ S pl St F a w) (hi:St[i]? =some o) (ho:o.has=true) (hz:o.sn=0) (hb:w.heap[pl.blk i]? =some (.cells cs e (0,0))) (hnc:o.cst=false:=by rfl):
 Inv P T Γ (S.more (pl.blk i) (cs.toList.take m)) pl (St.set i .dead) F a w∧S.le (S.more (pl.blk i) (cs.toList.take m)):=by
 have hlt:i<St.length:=(List.getElem?_eq_some_iff.1 hi).1
 have hnone:∀off,S (pl.blk i) off=none:=fun off=>hI.cO.apart i o hi ho off (by omega)
 have hle:S.le (S.more (pl.blk i) (cs.toList.take m)):=yA.aT7 hnone
 have hf:o≠ .fresh:=fun e=>by subst e;simp[Obj.has]at ho
 have hk:kD pl St pl (St.set i .dead):=kD.a0G hi hf
 refine ⟨⟨?_,fun t=>(hI.frame t).keep hk hle,hI.size,hI.defers, ?_,fun b hb'=> ?_,fun av v hr=>(hI.kept av v hr).keep hk hle⟩,hle⟩
 ·refine hI.cO.upd hlt hk hle (fun _ _=>⟨rfl,rfl⟩) (fun _ _ _ _ _=>rfl) (fun b off v h=> ?_) trivial (fun h=>by simp[Obj.has]at h) (fun j o1 hj h1 h2 off hoff=> ?_) (fun h=>by simp[Obj.has]at h) (fun _ _ _=>⟨rfl,fun h=>by simp[Obj.has]at h⟩)
  ·simp only[yA.more]at h
   split at h
   ·rename_i hbb;subst hbb
    rw[cell_of_row w _ _ _ _ _ hb]
    rw[List.getElem?_take]at h
    split at h
    ·simpa using h
    ·cases h
   ·exact hI.cO.yM _ _ _ h
  ·simp only[yA.more]
   rw[if_neg (fun e=>hj (hI.cO.inj j i _ _ h1 hi h2 ho e))]
   exact hI.cO.apart j o1 h1 h2 off hoff
 ·refine ⟨hI.grow.os,hI.grow.tape,hI.grow.output,hI.grow.size,hI.grow.block,yA.le_trans hI.grow.mono hle,fun b off hb' hn=> ?_⟩
  simp only[yA.more]
  rw[if_neg,hI.grow.new b off hb' hn]
  intro e;subst e
  rcases hI.rZ _ ⟨i,o,hi,ho,hnc,rfl⟩with h |h
  ·exact hn h
  ·omega
 ·obtain ⟨id,o1,h1,h2,h3⟩:=hb'
  by_cases hid:id=i
  ·subst hid
   rw[List.getElem?_set_self hlt]at h1
   obtain rfl:=Option.some.inj h1
   simp[Obj.has]at h2
  ·rw[List.getElem?_set_ne (Ne.symm hid)]at h1
   exact hI.rZ b ⟨id,o1,h1,h2,h3⟩
theorem Inv.slot {t:Nat} {av:AV} (hI:Inv P T Γ S pl St F a w) (hv:iB P T S pl St av (a.tmps.getD t undef)):Inv P T Γ S pl St ((t,av)::F) a w:=by
 refine ⟨hI.cO,fun t'=> ?_,hI.size,hI.defers,hI.grow,hI.rZ,hI.kept⟩
 rw[Fr.aER]
 by_cases e:t=t'
 ·subst e;rw[if_pos rfl];exact hv
 ·rw[if_neg e];exact hI.frame t'
theorem Inv.aPi {i v:Nat} {e:TypeId} {l:L} {d:C} (hL:Lay P e l) (hI:Inv P T Γ S pl St F a w) (ho:St[i]? =some (.arr v l d)):
 ∃S',Inv P T Γ S' pl (St.set i .dead) F a w∧S.le S'∧∀val,iB P T S pl St (.whole i v) val→iB P T S' pl (St.set i .dead) (.d (.one (.sl e)) [d]) val:=by
 rcases hI.cO.objs _ _ ho with rfl |⟨rows,cur,e2,i2,rfl,hh,q1,q2,q3,q4,q5,q6,q7⟩
 ·have hk':kD pl St pl (St.set i .dead):=kD.a0G ho (by simp)
  have hlt:i<St.length:=(List.getElem?_eq_some_iff.1 ho).1
  refine ⟨S,⟨?_,fun t=>(hI.frame t).keep hk' S.le_refl,hI.size,hI.defers,hI.grow,fun b hb'=> ?_,fun av v hr=>(hI.kept av v hr).keep hk' S.le_refl⟩,S.le_refl,fun val hv=> ?_⟩
  ·exact hI.cO.upd hlt hk' S.le_refl (fun _ _=>⟨rfl,rfl⟩) (fun _ _ _ _ _=>rfl) hI.cO.yM trivial (fun h=>by simp[Obj.has]at h) (fun j o1 _ h1 h2=>hI.cO.apart j o1 h1 h2) (fun h=>by simp[Obj.has]at h) (fun _ _ _=>⟨rfl,fun h=>by simp[Obj.has]at h⟩)
  ·obtain ⟨j,o1,h1,h2,h3⟩:=hb'
   by_cases hid:j=i
   ·subst hid
    rw[List.getElem?_set_self hlt]at h1
    obtain rfl:=Option.some.inj h1
    simp[Obj.has]at h2
   ·rw[List.getElem?_set_ne (Ne.symm hid)]at h1
    exact hI.rZ b ⟨j,o1,h1,h2,h3⟩
  ·rw[(hv.bQ ho).1 rfl];exact .d ⟨_,rfl,.bA⟩
 ·obtain ⟨hI',hle⟩:=hI.frozen (m:=rows.length*l.n) ho rfl rfl hh
  refine ⟨_,hI',hle,fun val hv=> ?_⟩
  rw[(hv.bQ ho).2 rows rfl]
  have hrr:rC P T S l cur.toList rows:=⟨by rw[show cur.toList.length=cur.size from Array.length_toList,q6];exact Nat.mul_le_mul_right _ q4,q7⟩
  have aF7:=(hrr.mono hle).rep (b:=pl.blk i) (o:=0) (cap:=pl.cap i) hL q4 (fun p hp=>by
   simp only[yA.more,if_true,Nat.zero_add]
   rw[List.getElem?_take,if_pos hp]
   have:p<cur.toList.length:=Nat.lt_of_lt_of_le hp hrr.len
   simp[List.getD_eq_getElem?_getD,List.getElem?_eq_getElem this])
  exact .d ⟨_,rfl,aF7⟩
def bD2 (P:Program) (t:TypeId):Option L→Bool |none=>true |some l=>aF5 P t l&&Nat.blt 0 l.n
theorem dQ {A:Type} {S:Ev.St} {id:Nat} {k:Obj→Option A} {r:A} (h:aHa S id k=some r):∃o,S[id]? =some o∧k o=some r:=by
 unfold aHa at h;split at h
 ·exact ⟨_,by assumption,h⟩
 ·simp at h
theorem aOS {A:Type} {t:Nat} {ty:TypeId} {ol:Option L} {k:Fr→Ev.St→Option A} {r:A} (hb:bD2 P ty ol=true) (hI:Inv P T Γ S pl St F a w) (h:aKX t ty ol F St k=some r):
 ∃F' dD S',Inv P T Γ S' pl dD F' a w∧k F' dD=some r∧dD.length=St.length:=by
 unfold aKX at h
 have hv:=hI.frame t
 split at h
 ·rename_i l
  simp only[bD2,Bool.and_eq_true]at hb
  have hL:=aC hb.1
  split at h
  ·rename_i id v hg
   rw[hg]at hv
   obtain ⟨o,ho,hA⟩:=dQ h
   obtain ⟨l',c,rfl,hB⟩:=eE hA
   obtain ⟨hlb,hk⟩:=lA hB
   obtain rfl:=L.beq_eq hlb
   obtain ⟨S',hI',hle,hr⟩:=hI.aPi (e:=ty) hL ho
   exact ⟨_,_,S',hI'.slot (hr _ hv),hk,by simp⟩
  ·rename_i id hg
   rw[hg]at hv
   obtain ⟨o,ho,hA⟩:=dQ h
   split at hA
   ·rename_i l' row
    obtain ⟨hlb,hk⟩:=lA hA
    obtain rfl:=L.beq_eq hlb
    obtain ⟨cur,e,hh,hr⟩:=hI.cO.objs _ _ ho
    obtain ⟨hI',hle⟩:=hI.frozen (m:=l.n) ho rfl rfl hh
    refine ⟨_,_,_,hI'.slot ?_,hk,by simp⟩
    cases hv with
    |ptr h0 h1 h2 h3 h4=>
     rw[ho]at h1;obtain rfl:=Option.some.inj h1
     rw[h3 _ _ rfl]
     refine .d ⟨_,rfl,.ref (fun j=>cur.toList.getD j undef) hL hr.aBQ rfl (fun j hj=> ?_) (fun j k hk=>(hr.mono hle).cell j k hk)⟩
     have hjl:j<cur.toList.length:=by rw[hr.mL];exact hj
     simp only[yA.more,if_true,Nat.zero_add]
     rw[List.getElem?_take,if_pos hj,List.getElem?_eq_getElem hjl,List.getD_eq_getElem?_getD,List.getElem?_eq_getElem hjl];rfl
   ·simp at hA
  ·simp at h
 ·split at h
  ·rename_i id hg
   obtain ⟨o,ho,hA⟩:=dQ h
   split at hA
   ·rename_i c vs
    have hlt:id<St.length:=(List.getElem?_eq_some_iff.1 ho).1
    have hk':kD pl St pl (St.set id (.cells true vs)):=by
     intro j o1 h1 hf1
     by_cases hne:j=id
     ·subst hne
      rw[ho]at h1;obtain rfl:=Option.some.inj h1
      exact ⟨_,List.getElem?_set_self hlt,by simp,fun l row e=>(by cases e),fun c vs e=>⟨⟨_,_,rfl⟩,rfl⟩,fun v l' c e=>(by cases e),fun _ _ _ _ e=>(by cases e),fun _ _ _ e=>(by cases e),fun _ _ _ _ e=>(by cases e)⟩
     ·exact ⟨o1,by rw[List.getElem?_set_ne (Ne.symm hne)];exact h1,hf1,kD.same rfl rfl⟩
    refine ⟨_,_,S,⟨?_,fun t=>(hI.frame t).keep hk' S.le_refl,hI.size,hI.defers,hI.grow,fun b hb'=> ?_,fun av v hr=>(hI.kept av v hr).keep hk' S.le_refl⟩,hA,by simp⟩
    ·refine hI.cO.upd hlt hk' S.le_refl (fun _ _=>⟨rfl,rfl⟩) (fun _ _ _ _ _=>rfl) hI.cO.yM ?_ (fun _ off _=>hI.cO.apart id _ ho rfl off (Nat.zero_le _)) (fun j o1 _ h1 h2=>hI.cO.apart j o1 h1 h2) (fun _ j o1 hj h1 h2 e=>hj (hI.cO.inj j id _ _ h1 ho h2 rfl e)) (fun g _ ha=>⟨rfl,fun _=>ha id _ ho rfl⟩)
     obtain ⟨cur,e,q1,q2,q3,q4⟩:=hI.cO.objs _ _ ho
     exact ⟨cur,e,q1,q2,fun i av hi=>(q3 i av hi).keep hk' S.le_refl,q4⟩
    ·obtain ⟨j,o1,h1,h2,h3⟩:=hb'
     by_cases hid:j=id
     ·subst hid
      rw[List.getElem?_set_self hlt]at h1
      obtain rfl:=Option.some.inj h1
      exact absurd h3.1 (by simp[Obj.cst])
     ·rw[List.getElem?_set_ne (Ne.symm hid)]at h1
      exact hI.rZ b ⟨j,o1,h1,h2,h3⟩
   ·simp at hA
  ·simp at h
def aUg (P:Program):List (Nat×TypeId×Option L)→Bool
 |[]=>true
 |(_,t,ol)::r=>bD2 P t ol&&aUg P r
theorem aMH {A:Type} {k:Fr→Ev.St→Option A} {r:A}:∀(fz:List (Nat×TypeId×Option L)) {F:Fr} {St:Ev.St} {S:yA},aUg P fz=true→Inv P T Γ S pl St F a w→aBm fz F St k=some r→
 ∃F' dD S',Inv P T Γ S' pl dD F' a w∧k F' dD=some r
 |[],F,St,S,_,hI,h=>⟨F,St,S,hI,h⟩
 |(t,ty,ol)::fz,F,St,S,hb,hI,h=>by
  simp only[aUg,Bool.and_eq_true]at hb
  obtain ⟨F',dD,S',hI',h',_⟩:=aOS hb.1 hI h
  exact aMH fz hb.2 hI' h'
theorem Inv.room (m:Nat) (hI:Inv P T Γ S pl St F a w):Inv P T Γ S pl (St++List.replicate m .fresh) F a w:=by
 have get:∀(id:Nat) (o:Obj),(St++List.replicate m Obj.fresh)[id]? =some o→St[id]? =some o∨o=Obj.fresh:=by
  intro id o h
  by_cases hid:id<St.length
  ·rw[List.getElem?_append_left hid]at h;exact .inl h
  ·rw[List.getElem?_append_right (by omega)]at h
   have:=List.mem_of_getElem? h
   exact .inr (List.mem_replicate.1 this).2
 have hk:kD pl St pl (St++List.replicate m .fresh):=by
  intro id o h hf
  have hid:id<St.length:=(List.getElem?_eq_some_iff.1 h).1
  exact ⟨o,by rw[List.getElem?_append_left hid];exact h,hf,kD.same rfl rfl⟩
 have aQu:∀o:Obj,o.has=true→o≠ .fresh:=fun o h e=>by subst e;simp[Obj.has]at h
 refine ⟨⟨hI.cO.yM,fun id o h=> ?_,fun id o h ho=> ?_,fun i j o o' h1 h2 h3 h4 h5=> ?_,hI.cO.fR,fun g t l row e=>⟨(hI.cO.glo g t l row e).1,fun id o h hh=> ?_⟩⟩,fun t=>(hI.frame t).keep hk S.le_refl,hI.size,hI.defers,hI.grow,fun b hb=> ?_,fun av v hr=>(hI.kept av v hr).keep hk S.le_refl⟩
 ·rcases get id o h with h |rfl
  ·exact (hI.cO.objs id o h).keep hk S.le_refl rfl rfl (fun _=>rfl)
  ·trivial
 ·exact hI.cO.apart id o ((get id o h).resolve_right (aQu o ho)) ho
 ·exact hI.cO.inj i j o o' ((get i o h1).resolve_right (aQu o h3)) ((get j o' h2).resolve_right (aQu o' h4)) h3 h4 h5
 ·exact (hI.cO.glo g t l row e).2 id o ((get id o h).resolve_right (aQu o hh)) hh
 ·obtain ⟨id,o,h1,h2,h3⟩:=hb
  exact hI.rZ b ⟨id,o,(get id o h1).resolve_right (aQu o h2),h2,h3⟩
theorem Inv.more (hI:Inv P T Γ S pl St F a w) (e:TypeId) (l:L):Inv P T Γ S pl (St++[.zA 0 e l .bA]) F a w:=by
 have get:∀(id:Nat) (o:Obj),(St++[Obj.zA 0 e l .bA])[id]? =some o→St[id]? =some o∨o=Obj.zA 0 e l .bA:=by
  intro id o h
  by_cases hid:id<St.length
  ·rw[List.getElem?_append_left hid]at h;exact .inl h
  ·rw[List.getElem?_append_right (by omega)]at h
   have:=List.mem_of_getElem? h
   exact .inr (by simpa using this)
 have hk:kD pl St pl (St++[.zA 0 e l .bA]):=by
  intro id o h hf
  have hid:id<St.length:=(List.getElem?_eq_some_iff.1 h).1
  exact ⟨o,by rw[List.getElem?_append_left hid];exact h,hf,kD.same rfl rfl⟩
 have aNu:∀o:Obj,o.has=true→o≠Obj.zA 0 e l .bA:=fun o h q=>by subst q;simp[Obj.has]at h
 refine ⟨⟨hI.cO.yM,fun id o h=> ?_,fun id o h ho=> ?_,fun i j o o' h1 h2 h3 h4 h5=> ?_,hI.cO.fR,fun g t l' row e'=>⟨(hI.cO.glo g t l' row e').1,fun id o h hh=> ?_⟩⟩,fun t=>(hI.frame t).keep hk S.le_refl,hI.size,hI.defers,hI.grow,fun b hb=> ?_,fun av v hr=>(hI.kept av v hr).keep hk S.le_refl⟩
 ·rcases get id o h with h |rfl
  ·exact (hI.cO.objs id o h).keep hk S.le_refl rfl rfl (fun _=>rfl)
  ·exact .inl rfl
 ·exact hI.cO.apart id o ((get id o h).resolve_right (aNu o ho)) ho
 ·exact hI.cO.inj i j o o' ((get i o h1).resolve_right (aNu o h3)) ((get j o' h2).resolve_right (aNu o' h4)) h3 h4 h5
 ·exact (hI.cO.glo g t l' row e').2 id o ((get id o h).resolve_right (aNu o hh)) hh
 ·obtain ⟨id,o,h1,h2,h3⟩:=hb
  exact hI.rZ b ⟨id,o,(get id o h1).resolve_right (aNu o h2),h2,h3⟩
theorem Inv.bGC (hI:Inv P T Γ S pl St F a w) (l:L):Inv P T Γ S pl (St++[.arr 0 l .bA]) F a w:=by
 have get:∀(id:Nat) (o:Obj),(St++[Obj.arr 0 l .bA])[id]? =some o→St[id]? =some o∨o=Obj.arr 0 l .bA:=by
  intro id o h
  by_cases hid:id<St.length
  ·rw[List.getElem?_append_left hid]at h;exact .inl h
  ·rw[List.getElem?_append_right (by omega)]at h
   have:=List.mem_of_getElem? h
   exact .inr (by simpa using this)
 have hk:kD pl St pl (St++[.arr 0 l .bA]):=by
  intro id o h hf
  have hid:id<St.length:=(List.getElem?_eq_some_iff.1 h).1
  exact ⟨o,by rw[List.getElem?_append_left hid];exact h,hf,kD.same rfl rfl⟩
 have aNu:∀o:Obj,o.has=true→o≠Obj.arr 0 l .bA:=fun o h q=>by subst q;simp[Obj.has]at h
 refine ⟨⟨hI.cO.yM,fun id o h=> ?_,fun id o h ho=> ?_,fun i j o o' h1 h2 h3 h4 h5=> ?_,hI.cO.fR,fun g t l' row e'=>⟨(hI.cO.glo g t l' row e').1,fun id o h hh=> ?_⟩⟩,fun t=>(hI.frame t).keep hk S.le_refl,hI.size,hI.defers,hI.grow,fun b hb=> ?_,fun av v hr=>(hI.kept av v hr).keep hk S.le_refl⟩
 ·rcases get id o h with h |rfl
  ·exact (hI.cO.objs id o h).keep hk S.le_refl rfl rfl (fun _=>rfl)
  ·exact .inl rfl
 ·exact hI.cO.apart id o ((get id o h).resolve_right (aNu o ho)) ho
 ·exact hI.cO.inj i j o o' ((get i o h1).resolve_right (aNu o h3)) ((get j o' h2).resolve_right (aNu o' h4)) h3 h4 h5
 ·exact (hI.cO.glo g t l' row e').2 id o ((get id o h).resolve_right (aNu o hh)) hh
 ·obtain ⟨id,o,h1,h2,h3⟩:=hb
  exact hI.rZ b ⟨id,o,(get id o h1).resolve_right (aNu o h2),h2,h3⟩
theorem Inv.a2B {id p:Nat} {c:Bool} {vs:List AV} {av:AV} (hI:Inv P T Γ S pl St F a w) (ho:St[id]? =some (.cells c vs)) (hv:∀(cur:Array Value) (e:TypeId),w.heap[pl.blk id]? =some (.cells cur e (0,0))→p<vs.length→iB P T S pl St av (cur.getD p undef)):
 Inv P T Γ S pl (St.set id (.cells c (vs.set p av))) F a w:=by
 have hlt:id<St.length:=(List.getElem?_eq_some_iff.1 ho).1
 have hk:kD pl St pl (St.set id (.cells c (vs.set p av))):=kD.set ho (fun _=>⟨by simp,fun _ _ h=>by simp at h,fun _ _ _=>⟨_,_,rfl⟩,fun _ _ _ h=>by simp at h,fun _ _ _ _ h=>by simp at h,fun _ _ _ h=>by simp at h⟩)
 refine ⟨?_,fun t=>(hI.frame t).keep hk S.le_refl,hI.size,hI.defers,hI.grow,fun b hb'=> ?_,fun av v hr=>(hI.kept av v hr).keep hk S.le_refl⟩
 ·refine hI.cO.upd hlt hk S.le_refl (fun _ _=>⟨rfl,rfl⟩) (fun _ _ _ _ _=>rfl) hI.cO.yM ?_ (fun _ off _=>hI.cO.apart id _ ho rfl off (Nat.zero_le _)) (fun j o1 _ h1 h2=>hI.cO.apart j o1 h1 h2) (fun _ j o1 hj h1 h2 e=>hj (hI.cO.inj j id _ _ h1 ho h2 rfl e)) (fun g _ ha=>⟨rfl,fun _=>ha id _ ho rfl⟩)
  obtain ⟨cur,e,q1,q2,q3,q4⟩:=hI.cO.objs _ _ ho
  refine ⟨cur,e,q1,by simp[q2],fun i u hi=> ?_,q4⟩
  by_cases hip:i=p
  ·subst hip
   have hil:i<vs.length:=by have:=(List.getElem?_eq_some_iff.1 hi).1;simpa using this
   rw[List.getElem?_set_self hil]at hi
   obtain rfl:=Option.some.inj hi
   exact (hv cur e q1 hil).keep hk S.le_refl
  ·rw[List.getElem?_set_ne (Ne.symm hip)]at hi
   exact (q3 i u hi).keep hk S.le_refl
 ·obtain ⟨j,o1,h1,h2,h3⟩:=hb'
  by_cases hid:j=id
  ·subst hid
   rw[List.getElem?_set_self hlt]at h1
   obtain rfl:=Option.some.inj h1
   exact hI.rZ b ⟨j,_,ho,rfl,by cases c<;>first |rfl |exact h3.1,h3.2⟩
  ·rw[List.getElem?_set_ne (Ne.symm hid)]at h1
   exact hI.rZ b ⟨j,o1,h1,h2,h3⟩
theorem Inv.a7e {i:Nat} {o o':Obj} (hI:Inv P T Γ S pl St F a w) (hi:St[i]? =some o) (hf:o≠ .fresh) (ho':o'.has=false) (bGD:n9 P T S pl (St.set i .dead++[o']) w St.length o'):
 kD pl St pl (St.set i .dead++[o'])∧Inv P T Γ S pl (St.set i .dead++[o']) F a w:=by
 have hlt:i<St.length:=(List.getElem?_eq_some_iff.1 hi).1
 have hk:kD pl St pl (St.set i .dead++[o']):=by
  intro id o1 h hf
  have hid:id<St.length:=(List.getElem?_eq_some_iff.1 h).1
  by_cases hne:id=i
  ·subst hne
   exact ⟨.dead,by rw[List.getElem?_append_left (by simpa using hid)];exact List.getElem?_set_self hlt,by simp,fun l row e=>(by cases e),fun c vs e=>(by cases e),fun v l' c e=>(by cases e),fun _ _ _ _ e=>(by cases e),fun _ _ _ e=>(by cases e),fun _ _ _ _ e=>(by cases e)⟩
  ·exact ⟨o1,by rw[List.getElem?_append_left (by simpa using hid),List.getElem?_set_ne (Ne.symm hne)];exact h,hf,kD.same rfl rfl⟩
 have get:∀(id:Nat) (o1:Obj),(St.set i .dead++[o'])[id]? =some o1→o1.has=true→St[id]? =some o1:=by
  intro id o1 h hh
  by_cases hid:id<St.length
  ·rw[List.getElem?_append_left (by simpa using hid)]at h
   by_cases hne:id=i
   ·subst hne
    rw[List.getElem?_set_self hlt]at h
    obtain rfl:=Option.some.inj h
    simp[Obj.has]at hh
   ·rw[List.getElem?_set_ne (Ne.symm hne)]at h;exact h
  ·rw[List.getElem?_append_right (by simp;omega)]at h
   have h2:=List.mem_of_getElem? h
   simp at h2
   subst h2
   rw[ho']at hh;cases hh
 refine ⟨hk,⟨hI.cO.yM,fun id o1 h=> ?_,fun id o1 h hh=>hI.cO.apart id o1 (get id o1 h hh) hh,fun i1 j1 o1 o2 h1 h2 h3 h4 h5=>hI.cO.inj i1 j1 o1 o2 (get _ _ h1 h3) (get _ _ h2 h4) h3 h4 h5,hI.cO.fR,fun g t l' row e'=>⟨(hI.cO.glo g t l' row e').1,fun id o1 h hh=>(hI.cO.glo g t l' row e').2 id o1 (get id o1 h hh) hh⟩⟩,fun t=>(hI.frame t).keep hk S.le_refl,hI.size,hI.defers,hI.grow,fun b hb=> ?_,fun av v hr=>(hI.kept av v hr).keep hk S.le_refl⟩
 ·by_cases hid:id<St.length
  ·rw[List.getElem?_append_left (by simpa using hid)]at h
   by_cases hne:id=i
   ·subst hne
    rw[List.getElem?_set_self hlt]at h
    obtain rfl:=Option.some.inj h
    trivial
   ·rw[List.getElem?_set_ne (Ne.symm hne)]at h
    exact (hI.cO.objs id o1 h).keep hk S.le_refl rfl rfl (fun _=>rfl)
  ·rw[List.getElem?_append_right (by simp;omega)]at h
   have h1:=(List.getElem?_eq_some_iff.1 h).1
   have h2:=List.mem_of_getElem? h
   simp at h1 h2
   obtain rfl:id=St.length:=by omega
   subst h2
   exact bGD
 ·obtain ⟨id,o1,h1,h2,h3⟩:=hb
  exact hI.rZ b ⟨id,o1,get id o1 h1 h2,h2,h3⟩
theorem Inv.a7f {i:Nat} {o o':Obj} (hI:Inv P T Γ S pl St F a w) (hi:St[i]? =some o) (ho:o.has=true) (hz:o.sn=0)
 (aOu:kD pl St (pl.at St.length (pl.blk i) (pl.cap i)) (St.set i .dead++[o'])→n9 P T S (pl.at St.length (pl.blk i) (pl.cap i)) (St.set i .dead++[o']) w St.length o') (hnc:o.cst=false:=by rfl):
 kD pl St (pl.at St.length (pl.blk i) (pl.cap i)) (St.set i .dead++[o'])∧Inv P T Γ S (pl.at St.length (pl.blk i) (pl.cap i)) (St.set i .dead++[o']) F a w:=by
 have hlt:i<St.length:=(List.getElem?_eq_some_iff.1 hi).1
 have hk:kD pl St (pl.at St.length (pl.blk i) (pl.cap i)) (St.set i .dead++[o']):=by
  intro id o1 h hf
  have hid:id<St.length:=(List.getElem?_eq_some_iff.1 h).1
  obtain ⟨b1,b2⟩:=pl.qZ St.length (pl.blk i) (pl.cap i) id (by omega)
  by_cases hne:id=i
  ·subst hne
   exact ⟨.dead,by rw[List.getElem?_append_left (by simpa using hid)];exact List.getElem?_set_self hlt,by simp,fun l row e=>(by cases e),fun c vs e=>(by cases e),fun v l' c e=>(by cases e),fun _ _ _ _ e=>(by cases e),fun _ _ _ e=>(by cases e),fun _ _ _ _ e=>(by cases e)⟩
  ·exact ⟨o1,by rw[List.getElem?_append_left (by simpa using hid),List.getElem?_set_ne (Ne.symm hne)];exact h,hf,kD.same b1 b2⟩
 have get:∀(id:Nat) (o1:Obj),(St.set i .dead++[o'])[id]? =some o1→o1.has=true→(id=St.length∧o1=o')∨(id≠i∧id<St.length∧St[id]? =some o1):=by
  intro id o1 h hh
  by_cases hid:id<St.length
  ·rw[List.getElem?_append_left (by simpa using hid)]at h
   by_cases hne:id=i
   ·subst hne
    rw[List.getElem?_set_self hlt]at h
    obtain rfl:=Option.some.inj h
    simp[Obj.has]at hh
   ·rw[List.getElem?_set_ne (Ne.symm hne)]at h;exact .inr ⟨hne,hid,h⟩
  ·rw[List.getElem?_append_right (by simp;omega)]at h
   have h1:=(List.getElem?_eq_some_iff.1 h).1
   have h2:=List.mem_of_getElem? h
   simp at h1 h2
   exact .inl ⟨by omega,h2⟩
 refine ⟨hk,⟨hI.cO.yM,fun id o1 h=> ?_,fun id o1 h hh off hoff=> ?_,fun i1 j1 o1 o2 h1 h2 h3 h4 h5=> ?_,hI.cO.fR,fun g t l' row e'=>⟨(hI.cO.glo g t l' row e').1,fun id o1 h hh=> ?_⟩⟩,fun t=>(hI.frame t).keep hk S.le_refl,hI.size,hI.defers,hI.grow,fun b hb=> ?_,fun av v hr=>(hI.kept av v hr).keep hk S.le_refl⟩
 ·by_cases hid:id<St.length
  ·rw[List.getElem?_append_left (by simpa using hid)]at h
   obtain ⟨b1,b2⟩:=pl.qZ St.length (pl.blk i) (pl.cap i) id (by omega)
   by_cases hne:id=i
   ·subst hne
    rw[List.getElem?_set_self hlt]at h
    obtain rfl:=Option.some.inj h
    trivial
   ·rw[List.getElem?_set_ne (Ne.symm hne)]at h
    exact (hI.cO.objs id o1 h).keep hk S.le_refl b1 b2 (fun _=>rfl)
  ·rw[List.getElem?_append_right (by simp;omega)]at h
   have h1:=(List.getElem?_eq_some_iff.1 h).1
   have h2:=List.mem_of_getElem? h
   simp at h1 h2
   obtain rfl:id=St.length:=by omega
   subst h2
   exact aOu hk
 ·rcases get id o1 h hh with ⟨rfl,rfl⟩|⟨hne,hid,h⟩
  ·rw[Pl.lD];exact hI.cO.apart i o hi ho off (by omega)
  ·rw[(pl.qZ St.length (pl.blk i) (pl.cap i) id (by omega)).1];exact hI.cO.apart id o1 h hh off hoff
 ·rcases get i1 o1 h1 h3 with ⟨rfl,rfl⟩|⟨hn1,hl1,k1⟩<;>rcases get j1 o2 h2 h4 with ⟨rfl,rfl⟩|⟨hn2,hl2,k2⟩
  ·rfl
  ·rw[Pl.lD,(pl.qZ St.length (pl.blk i) (pl.cap i) j1 (by omega)).1]at h5
   exact absurd (hI.cO.inj i j1 o o2 hi k2 ho h4 h5).symm hn2
  ·rw[Pl.lD,(pl.qZ St.length (pl.blk i) (pl.cap i) i1 (by omega)).1]at h5
   exact absurd (hI.cO.inj i1 i o1 o k1 hi h3 ho h5) hn1
  ·rw[(pl.qZ St.length (pl.blk i) (pl.cap i) i1 (by omega)).1,(pl.qZ St.length (pl.blk i) (pl.cap i) j1 (by omega)).1]at h5
   exact hI.cO.inj i1 j1 o1 o2 k1 k2 h3 h4 h5
 ·rcases get id o1 h hh with ⟨rfl,rfl⟩|⟨hne,hid,h⟩
  ·rw[Pl.lD];exact (hI.cO.glo g t l' row e').2 i o hi ho
  ·rw[(pl.qZ St.length (pl.blk i) (pl.cap i) id (by omega)).1];exact (hI.cO.glo g t l' row e').2 id o1 h hh
 ·obtain ⟨id,o1,h1,h2,h3⟩:=hb
  rcases get id o1 h1 h2 with ⟨rfl,rfl⟩|⟨hne,hid,h⟩
  ·rw[Pl.lD]at h3;exact hI.rZ b ⟨i,o,hi,ho,hnc,h3.2⟩
  ·rw[(pl.qZ St.length (pl.blk i) (pl.cap i) id (by omega)).1]at h3;exact hI.rZ b ⟨id,o1,h,h2,h3⟩
def aLp (P:Program):aSD→Bool
 | .lft _ _ _ _=>true
 | .a9q _ _ _ _=>true
 | .frz _ _ e l=>aF5 P e l&&Nat.blt 0 l.n
 | .a9r _ e l=>aF5 P e l&&Nat.blt 0 l.n
 | .a9s _ _=>true
 | .a9t _ e l=>aF5 P e l&&Nat.blt 0 l.n
 | .a9u _=>true
theorem aU2 {e:TypeId} {v:Value} (h:iB P T S pl St (.d (.one (.sl e)) [.bA]) v):v= .slice none 0 0:=by
 obtain ⟨c,hc,hr⟩:=h.aBR
 simp only[List.cons.injEq,and_true]at hc
 subst hc
 cases hr;rfl
theorem aSZ {A:Type} {g:aSD} {k:Fr→Ev.St→Option A} {r:A} (hb:aLp P g=true) (hI:Inv P T Γ S pl St F a w) (h:wM g F St k=some r):
 ∃F' dD S' wD,Inv P T Γ S' wD dD F' a w∧k F' dD=some r:=by
 cases g with
 |lft n off e l=>
  simp only[wM]at h
  have hnew:(St++[Obj.zA 0 e l .bA])[St.length]? =some (Obj.zA 0 e l .bA):=by simp
  have a3T:iB P T S pl (St++[Obj.zA 0 e l .bA]) (.sw St.length 0) (.slice none 0 0):= .a2q hnew
  cases off with
  |none=>
   simp only at h
   split at h
   ·rename_i e' hg
    obtain ⟨_,hk⟩:=lA h
    have hv:=hI.frame n
    rw[hg]at hv
    refine ⟨_,_,S,pl,(hI.more e l).slot ?_,hk⟩
    rw[aU2 hv];exact a3T
   ·simp at h
  |some off=>
   simp only at h
   split at h
   ·rename_i id p hg
    obtain ⟨o,ho,hA⟩:=dQ h
    split at hA
    ·rename_i c vs
     split at hA
     ·rename_i e' hc
      obtain ⟨_,hk⟩:=lA hA
      have hlt:id<St.length:=(List.getElem?_eq_some_iff.1 ho).1
      have hI2:=hI.more e l
      have ho2:(St++[Obj.zA 0 e l .bA])[id]? =some (.cells c vs):=by rw[List.getElem?_append_left hlt];exact ho
      have hI3:=hI2.a2B (p:=p+off) (av:= .sw St.length 0) ho2 (fun cur e q1 _=>by
       obtain ⟨bGF,e0,z1,z2,z3,z4⟩:=hI.cO.objs _ _ ho
       rw[q1]at z1
       simp only[Option.some.injEq,Go.Obj.cells.injEq]at z1
       have:=aU2 (z3 _ _ hc)
       rw[←z1.1]at this
       rw[this];exact a3T)
      refine ⟨F,_,S,pl,hI3, ?_⟩
      rw[List.set_append_left _ _ hlt];exact hk
     ·simp at hA
    ·simp at hA
   ·simp at h
 |a9q n off e l=>
  simp only[wM]at h
  have hnew:(St++[Obj.arr 0 l .bA])[St.length]? =some (Obj.arr 0 l .bA):=by simp
  have a3T:iB P T S pl (St++[Obj.arr 0 l .bA]) (.whole St.length 0) (.slice none 0 0):= .aOf hnew
  split at h
  ·rename_i id p hg
   obtain ⟨o,ho,hA⟩:=dQ h
   split at hA
   ·rename_i c vs
    split at hA
    ·rename_i e' hc
     obtain ⟨_,hk⟩:=lA hA
     have hlt:id<St.length:=(List.getElem?_eq_some_iff.1 ho).1
     have hI2:=hI.bGC l
     have ho2:(St++[Obj.arr 0 l .bA])[id]? =some (.cells c vs):=by rw[List.getElem?_append_left hlt];exact ho
     have hI3:=hI2.a2B (p:=p+off) (av:= .whole St.length 0) ho2 (fun cur e q1 _=>by
      obtain ⟨bGF,e0,z1,z2,z3,z4⟩:=hI.cO.objs _ _ ho
      rw[q1]at z1
      simp only[Option.some.injEq,Go.Obj.cells.injEq]at z1
      have:=aU2 (z3 _ _ hc)
      rw[←z1.1]at this
      rw[this];exact a3T)
     refine ⟨F,_,S,pl,hI3, ?_⟩
     rw[List.set_append_left _ _ hlt];exact hk
    ·simp at hA
   ·simp at hA
  ·simp at h
 |a9r n e l=>
  simp only[wM]at h
  obtain ⟨F',dD,S',h1,h2,_⟩:=aOS (ol:=some l) hb hI h
  exact ⟨F',dD,S',pl,h1,h2⟩
 |a9s n l=>
  simp only[wM]at h
  split at h
  ·rename_i id v hg
   obtain ⟨o,ho,hA⟩:=dQ h
   obtain ⟨l',c,rfl,hB⟩:=eE hA
   obtain ⟨hlb,hC⟩:=lA hB
   obtain rfl:=L.beq_eq hlb
   have hv:=hI.frame n
   rw[hg]at hv
   rcases hI.cO.objs _ _ ho with rfl |⟨rows,cur,e2,i2,rfl,hh,q1,q2,q3,q4,q5,q6,q7⟩
   ·obtain ⟨hk,hI2⟩:=hI.a7e (o':= .vE l .bA 0 (.agg [])) ho (by simp) rfl (.inl rfl)
    refine ⟨_,_,S,_,hI2.slot ?_,hC⟩
    rw[(hv.bQ ho).1 rfl]
    exact .vE rfl (by rw[List.getElem?_append_right (by simp)];simp;rfl) (by simp) (fun l' i' av' e=>rfl) (fun l' qP i' av' e=>by simp at e)
   ·obtain ⟨hk,hI2⟩:=hI.a7f (o':= .vE l (.sl rows) rows.length (.agg [])) ho rfl rfl (fun _=> .inr ⟨rows,cur,e2,i2,rfl,by rw[Pl.lD];exact hh,q1,q2,q3,by rw[Pl.bG];exact q4,by rw[Pl.bG];exact q5,by rw[Pl.bG,q6],fun j r _ hr=>q7 j r hr,fun hi=>absurd hi (Nat.lt_irrefl _)⟩)
    refine ⟨_,_,S,_,hI2.slot ?_,hC⟩
    rw[(hv.bQ ho).2 rows rfl]
    exact .vE rfl (by rw[List.getElem?_append_right (by simp)];simp;rfl) (by simp) (fun l' i' av' e=>by simp at e) (fun l' qP i' av' e=>by simp only[Obj.vE.injEq,C.sl.injEq]at e;obtain ⟨_,rfl,_,_⟩:=e;rw[Pl.lD,Pl.bG])
  ·simp at h
 |a9u n=>
  simp only[wM]at h
  split at h
  ·rename_i id hg
   obtain ⟨o,ho,hA⟩:=dQ h
   obtain ⟨l,c,i,av,rfl,hB⟩:=aLa hA
   obtain ⟨hle,hC⟩:=jD hB
   have hv:=hI.frame n
   rw[hg]at hv
   rcases hI.cO.objs _ _ ho with rfl |⟨rows,cur,e2,inf,rfl,hh,q1,q2,q3,q4,q5,q6,q7,q8⟩
   ·obtain ⟨hk,hI2⟩:=hI.a7e (o':= .arr 0 l .bA) ho (by simp) rfl (.inl rfl)
    refine ⟨_,_,S,_,hI2.slot ?_,hC⟩
    rw[(hv.aNm ho).1 rfl]
    exact .aOf (by rw[List.getElem?_append_right (by simp)];simp;rfl)
   ·simp only[C.rows]at hle
    obtain ⟨hk,hI2⟩:=hI.a7f (o':= .arr 0 l (.sl rows)) ho rfl rfl (fun _=> .inr ⟨rows,cur,e2,inf,rfl,by rw[Pl.lD];exact hh,q1,q2,q3,by rw[Pl.bG];exact q4,by rw[Pl.bG];exact q5,by rw[Pl.bG,q6],fun j r hr=>q7 j r (fun e=>by subst e;have:=(List.getElem?_eq_some_iff.1 hr).1;omega) hr⟩)
    refine ⟨_,_,S,_,hI2.slot ?_,hC⟩
    rw[(hv.aNm ho).2 rows rfl]
    refine .whole (o:= .arr 0 l (.sl rows)) rfl (by rw[List.getElem?_append_right (by simp)];simp) (by simp) (fun v l c e=>Nat.zero_le _) (fun l e=>by simp at e) (fun l qP e=> ?_)
    simp only[Obj.arr.injEq,true_and,C.sl.injEq]at e
    obtain ⟨_,rfl⟩:=e
    rw[Pl.lD,Pl.bG]
  ·simp at h
 |a9t n e l=>
  simp only[aLp,Bool.and_eq_true]at hb
  have hL:=aC hb.1
  simp only[wM]at h
  split at h
  ·rename_i id hg
   obtain ⟨o,ho,hA⟩:=dQ h
   obtain ⟨l',c0,i,av,rfl,hB⟩:=aLa hA
   split at hB
   ·rename_i e' id' v
    obtain ⟨o',ho',hC⟩:=dQ hB
    obtain ⟨l2,c,rfl,hD⟩:=eE hC
    obtain ⟨hlb,hE⟩:=lA hD
    simp only[Bool.and_eq_true]at hlb
    obtain rfl:=Nat.eq_of_beq_eq_true hlb.1.1
    obtain rfl:=L.beq_eq hlb.1.2
    have hne:id'≠id:=by
     intro q;subst q
     have:=hlb.2
     simp at this
    have hv:=hI.frame n
    rw[hg]at hv
    rcases hI.cO.objs _ _ ho with rfl |⟨rows,cur,e2,inf,rfl,hh,q1,q2,q3,q4,q5,q6,q7,q8⟩
    ·simp[aM7]at hE
    simp only[aM7]at hE
    have hv:=(hv.aNm ho).2 rows rfl
    obtain ⟨S',hI2,hle,hr⟩:=hI.aPi (e:=e) hL ho'
    have ho2:(St.set id' Obj.dead)[id]? =some (.vE (.one (.sl e)) (.sl rows) i (.whole id' v)):=by rw[List.getElem?_set_ne hne];exact ho
    have hn:(L.one (.sl e)).n=1:=rfl
    rw[hn,Nat.mul_one]at q6
    obtain ⟨hk,hI3⟩:=hI2.a7f (o':= .arr 0 (.one (.sl e)) (.sl (rows.set i [c]))) ho2 rfl rfl (fun _=> .inr ⟨_,cur,e2,inf,rfl,by rw[Pl.lD];exact hh,q1,q2,by show 0<1;omega,by rw[Pl.bG];simpa using q4,by rw[Pl.bG];exact q5,by rw[Pl.bG,q6];simp[L.n,L.ks],fun j r hj=>by
     rw[hn,Nat.mul_one]
     have hjl:j<rows.length:=by have:=(List.getElem?_eq_some_iff.1 hj).1;simpa using this
     by_cases hji:j=i
     ·subst hji
      rw[List.getElem?_set_self hjl]at hj
      obtain rfl:=Option.some.inj hj
      have hrel:=(hr _ (q8 hjl).2.1).aBR
      obtain ⟨c2,hc2,aF7⟩:=hrel
      simp only[List.cons.injEq,and_true]at hc2
      subst hc2
      have hjc:j<cur.size:=by omega
      refine ⟨by simp[L.ks];omega,rfl,fun m k hm=> ?_⟩
      cases m with
      |zero=>
       simp only[L.ks,List.getElem?_cons_zero,Option.some.injEq]at hm
       subst hm
       have e1:((cur.toList.drop j).take 1).getD 0 undef=cur.getD j undef:=by
        simp[List.getD_eq_getElem?_getD,hjc]
       rw[e1];exact aF7
      |succ m=>simp[L.ks]at hm
     ·rw[List.getElem?_set_ne (Ne.symm hji)]at hj
      have:=(q7 j r hji hj).mono hle
      rw[hn,Nat.mul_one]at this
      exact this⟩)
    have hE':k ((n,.whole (St.set id' Obj.dead).length 0)::F) ((St.set id' Obj.dead).set id Obj.dead++[.arr 0 (.one (.sl e)) (.sl (rows.set i [c]))])=some r:=by simpa using hE
    refine ⟨_,_,S',_,hI3.slot ?_,hE'⟩
    ·rw[hv]
     refine .whole (o:= .arr 0 (.one (.sl e)) (.sl (rows.set i [c]))) rfl (by rw[List.getElem?_append_right (by simp)];simp) (by simp) (fun v l c e=>Nat.zero_le _) (fun l e=>by simp at e) (fun l qP e=> ?_)
     simp only[Obj.arr.injEq,true_and,C.sl.injEq]at e
     obtain ⟨_,rfl⟩:=e
     rw[Pl.lD,Pl.bG];simp
   ·simp at hB
  ·simp at h
 |frz n off e l=>
  simp only[aLp,Bool.and_eq_true]at hb
  have hL:=aC hb.1
  simp only[wM]at h
  split at h
  ·rename_i id p hg
   obtain ⟨o,ho,hA⟩:=dQ h
   split at hA
   ·rename_i c vs
    split at hA
    ·rename_i i v hc
     obtain ⟨o',ho',hB⟩:=dQ hA
     obtain ⟨l',d,rfl,hC⟩:=eE hB
     obtain ⟨hlb,hk⟩:=lA hC
     simp only[Bool.and_eq_true]at hlb
     obtain rfl:=L.beq_eq hlb.1
     have hne:i≠id:=by
      intro q;subst q
      have:=hlb.2
      simp at this
     obtain ⟨bGF,e0,z1,z2,z3,z4⟩:=hI.cO.objs _ _ ho
     have hcell:=z3 _ _ hc
     have ho2:(St.set i Obj.dead)[id]? =some (.cells c vs):=by rw[List.getElem?_set_ne hne];exact ho
     obtain ⟨S',hI2,hle,hr⟩:=hI.aPi (e:=e) hL ho'
     refine ⟨F,_,S',pl,hI2.a2B (p:=p+off) (av:= .d (.one (.sl e)) [d]) ho2 (fun cur e q1 _=> ?_),hk⟩
     rw[q1]at z1
     simp only[Option.some.injEq,Go.Obj.cells.injEq]at z1
     rw[z1.1];exact hr _ hcell
    ·simp at hA
   ·simp at hA
  ·simp at h
def aU3 (P:Program) (T:Nat→yF) (n:Nat) (ops:Array Oper) (draw:Bool) (fz:List (Nat×TypeId×Option L)) (aos:List lK) (aQv:Bool):Bool:=
 aUg P fz&&aHi P T n ops ops.toList aos&&(match draw with |true=>aQv&&aXG aos ops.toList aos [] 0 |false=> !aQv)
theorem aYX {A:Type} {id m:Nat} {ops:Array Oper} {draw aQv:Bool} {fz:List (Nat×TypeId×Option L)} {aos:List lK} {Q:Exit→Act→World→Prop} {k:Fr→Ev.St→Option A} {r:A} (hm:P.follows .mixedOrders=true) (hpc:aQn P T E)
 (hok:aU3 P T Γ.n ops draw fz aos aQv=true) (hI:Inv P T Γ S pl St F a w) (h:(aBm fz F St fun F S=>aIN E aQv S.length aos [] F (S++List.replicate m .fresh) k)=some r)
 (hQ:∀F St S pl a w,Inv P T Γ S pl St F a w→k F St=some r→Q .normal a w):(Code.region id ops draw).wp P Q a w:=by
 simp only[aU3,Bool.and_eq_true]at hok
 obtain ⟨⟨h1,h2⟩,h3⟩:=hok
 obtain ⟨F',dD,S',hI',h'⟩:=aMH fz h1 hI h
 have bGH:=hI'.room m
 cases draw with
 |false=>
  have:aQv=false:=by simpa using h3
  subst this
  have:=aRG (ops:=ops) (Q:=Q) hpc hQ ops.toList aos 0 _ _ _ _ _ _ (by simp) h2 bGH h'
  refine wp_region ?_
  rw[List.range_eq_range']
  simpa using this
 |true=>
  simp only[Bool.and_eq_true]at h3
  obtain ⟨rfl,h4⟩:=h3
  exact a2A hm hpc h2 h4 hQ bGH h'
end Go.Ev
namespace Go.Ev
variable {E:Env} {P:Program} {T:Nat→yF} {S S':yA} {pl wD:Pl} {St dD:Ev.St} {F F':Fr} {a:Act} {w w' w0:World}
variable {Γ:Ctx} {n:Nat}
theorem aXJ:∀{m:Nat} {ids:List Nat} {i j:Nat},aP5.aXd m ids i=true→j<m→j<ids.length∧ids.getD j 0=i+j
 |0,_,_,_,_,h=>by omega
 |m+1,[],_,_,h,_=>by simp[aP5.aXd]at h
 |m+1,x::r,i,0,h,_=>by
  simp only[aP5.aXd,Bool.and_eq_true]at h
  exact ⟨by simp,by simpa using Nat.eq_of_beq_eq_true h.1⟩
 |m+1,x::r,i,j+1,h,hj=>by
  simp only[aP5.aXd,Bool.and_eq_true]at h
  obtain ⟨h1,h2⟩:=aXJ h.2 (show j<m by omega)
  exact ⟨by simpa using h1,by rw[List.getD_cons_succ,h2];omega⟩
theorem aS1 {sh:Shape} {vs:List AV} {ps:List PV} {vals:Nat→Value} (hs:mW P T S pl St w) (hv:∀i av,vs[i]? =some av→iB P T S pl St av (vals i)) (h:aP5 sh vs St=some ps):
 ∃(ids:List Nat) (yL:List AV) (r:List PV) (dD:Ev.St),aMY (sh.slots.map (·.2)) ps=(yL,r)∧dD=aJ1 sh.objs r∧yL.length=vs.length∧dD.length=ids.length∧Ren ids pl St (pl.sub ids) dD∧mW P T S (pl.sub ids) dD w∧
  (∀i av,yL[i]? =some av→iB P T S (pl.sub ids) dD av (vals i))∧(∀b,nW (pl.sub ids) dD b→nW pl St b)∧(∀j,j<sh.m→j<ids.length∧ids.getD j 0=j)∧
  ∀(j:Nat) (o':Obj),dD[j]? =some o'→∃o:Obj,St[ids.getD j 0]? =some o∧aOO o o':=by
 unfold aP5 at h
 simp only at h
 split at h
 ·rename_i hc
  simp only[Bool.and_eq_true]at hc
  obtain ⟨⟨c1,c2⟩,c3⟩:=hc
  obtain ⟨yL,r,dD,g1,g2,g3,g4,g5,g6,g7,g8,g9,g10⟩:=a0v hs (aLk c1) c2 hv h
  refine ⟨_,yL,r,dD,g1,g2,g3,g4,g6,g7,g8,fun b hb=> ?_,fun j hj=> ?_,fun j o' ho'=> ?_⟩
  ·obtain ⟨i,_,o,h1,h2,h3⟩:=g9 b hb
   exact ⟨i,o,h1,h2,h3⟩
  ·have:=aXJ c3 hj
   rw[Nat.zero_add]at this;exact this
  ·obtain ⟨o,h1,h2,_⟩:=g10 j o' ho'
   exact ⟨o,h1,h2⟩
 ·simp at h
theorem aS2:∀(ss:List (Nat×Sh)) (ps:List PV),∃yL r,aMY (ss.map (·.2)) ps=(yL,r)∧(mK ss ps).2=r∧yL.length=ss.length∧
 ∀t,(mK ss ps).1.get t= .undef∨∃(i:Nat) (p:Nat×Sh) (av:AV),ss[i]? =some p∧p.1=t∧yL[i]? =some av∧(mK ss ps).1.get t=av
 |[],ps=>⟨[],ps,rfl,rfl,rfl,fun t=> .inl rfl⟩
 |(n,s)::ss,ps=>by
  obtain ⟨yL,r,h1,h2,h3,h4⟩:=aS2 ss (unV s ps).2
  refine ⟨(unV s ps).1::yL,r, ?_, ?_,by simp[h3],fun t=> ?_⟩
  ·simp only[List.map_cons,aMY,h1]
  ·simp only[mK,h2]
  ·simp only[mK,Fr.aER]
   by_cases e:n=t
   ·rw[if_pos e]
    exact .inr ⟨0,(n,s),_,rfl,e,rfl,rfl⟩
   ·rw[if_neg e]
    rcases h4 t with h |⟨i,p,av,q1,q2,q3,q4⟩
    ·exact .inl h
    ·exact .inr ⟨i+1,p,av,by simpa using q1,q2,by simpa using q3,q4⟩
theorem aPj {sh:Shape} {ps:List PV} (hsh:Γ.m≤sh.m) (hI:Inv P T Γ S pl St F a w) (h:pack sh F St=some ps):
 ∃F' dD wD,(∀{A:Type} (k:Fr→Ev.St→Option A),unpack sh ps k=k F' dD)∧Inv P T Γ S wD dD F' a w:=by
 unfold pack at h
 obtain ⟨ids,yL,r,dD,g1,g2,g3,g4,g5,g6,g7,g8,g9,g10⟩:=aS1 (vals:=fun i=>a.tmps.getD (sh.slots.getD i (0,.d (.one .bool))).1 undef) hI.cO (fun i av hi=>by
  rw[List.getElem?_map]at hi
  obtain ⟨p,hp,rfl⟩:=Option.map_eq_some_iff.1 hi
  have:=hI.frame p.1
  simpa[List.getD_eq_getElem?_getD,hp]using this) h
 obtain ⟨bJk,r',u1,u2,u3,u4⟩:=aS2 sh.slots ps
 rw[g1]at u1
 simp only[Prod.mk.injEq]at u1
 obtain ⟨rfl,rfl⟩:=u1
 refine ⟨(mK sh.slots ps).1,dD,pl.sub ids,fun k=> ?_,⟨g6,fun t=> ?_,hI.size,hI.defers,hI.grow,fun b hb=>hI.rZ b (g8 b hb),fun av v hr=> ?_⟩⟩
 ·unfold unpack
  have hsplit:mK sh.slots ps=((mK sh.slots ps).1,(mK sh.slots ps).2):=rfl
  rw[hsplit]
  simp only[u2,←g2]
 ·rcases u4 t with h |⟨i,p,av,q1,q2,q3,q4⟩
  ·rw[h];exact .undef
  ·rw[q4]
   have:=g7 i av q3
   simp only[List.getD_eq_getElem?_getD,q1,Option.getD_some,q2]at this
   exact this
 ·obtain ⟨id,hid,hav⟩:=Γ.hR0 av v hr
  obtain ⟨hj,hjj⟩:=g9 id (by omega)
  have hv:=hI.kept av v hr
  rcases hav with rfl |rfl |⟨off,rfl⟩
  ·cases hv with
   |map h0 h1 h2 h3=>
    obtain ⟨o',g1,⟨g2,g3,g4,g5,g6,g7⟩,b1,b2⟩:=g5.get hj (by rw[hjj];exact h1)
    rw[hjj]at b1
    refine .map h0 g1 g2 (fun kl vl es e=> ?_)
    obtain ⟨a,b,c,q⟩:=g6 _ _ _ e;rw[b1];exact h3 _ _ _ q
  ·cases hv with
   |vE h0 h1 h2 h3 h4=>
    obtain ⟨o',g1,⟨g2,g3,g4,g5,g6,g7⟩,b1,b2⟩:=g5.get hj (by rw[hjj];exact h1)
    rw[hjj]at b1 b2
    refine .vE h0 g1 g2 (fun l i av e=> ?_) (fun l rows i av e=> ?_)
    ·obtain ⟨av0,q⟩:=g7.2.1 _ _ _ _ e;exact h3 _ _ _ q
    ·obtain ⟨av0,q⟩:=g7.2.1 _ _ _ _ e;rw[b1,b2];exact h4 _ _ _ _ q
  ·cases hv with
   |ptr h0 h1 h2 h3 h4=>
    obtain ⟨o',g1,⟨g2,g3,g4,g5,g6,g7⟩,b1,b2⟩:=g5.get hj (by rw[hjj];exact h1)
    rw[hjj]at b1
    refine .ptr h0 g1 g2 (fun l row e=> ?_) (fun c vs e=> ?_)
    ·obtain ⟨l0,r0,q⟩:=g3 l row e;rw[b1];exact h3 _ _ q
    ·obtain ⟨l0,r0,q⟩:=g4 c vs e;rw[b1];exact h4 _ _ q
end Go.Ev
namespace Go.Ev
variable {E:Env} {P:Program} {T:Nat→yF} {S S':yA} {pl wD:Pl} {St dD:Ev.St} {F F':Fr} {a:Act} {w w':World}
variable {Γ:Ctx} {n:Nat}
def a7g:eB→Exit | .normal=> .normal | .exit id=> .exit id | .ret=> .ret
def a9Z (m:Nat) (sh:Shape):Bool:=Nat.ble m sh.m
def aPk (m:Nat):List (eB×Shape)→Bool
 |[]=>true
 |(_,sh)::r=>a9Z m sh&&aPk m r
def cG (P:Program) (T:Nat→yF) (n m:Nat):rB→Code→Bool
 | .join outs ac,c=>aPk m outs&&cG P T n m ac c
 | .ghost g ac,c=>aLp P g&&cG P T n m ac c
 | .post g ac,c=>aLp P g&&cG P T n m ac c
 | .bad,_=>true
 | .skip,.skip=>true
 | .skip,.label _=>true
 | .region fz aos aQv _,.region _ ops draw=>aU3 P T n ops draw fz aos aQv
 | .seq a b,.seq x y=>cG P T n m a x&&cG P T n m b y
 | .cond ac a b,.cond c x y=>oA P T c ac&&cG P T n m a x&&cG P T n m b y
 | .block id a,.block id' x=>Nat.beq id id'&&cG P T n m a x
 | .loop sh outs a,.loop x=>a9Z m sh&&aPk m outs&&cG P T n m a x
 | .exit id,.exit id'=>Nat.beq id id'
 | .ret,.ret=>true
 |_,_=>false
theorem eB.beq_eq {a b:eB} (h:eB.beq a b=true):a=b:=by
 cases a<;>cases b<;>simp[eB.beq]at h<;>first |rfl |(subst h;rfl)
theorem a0H {c:Code} {Q:Exit→Act→World→Prop} (G:Nat→Act→World→Prop) {m:Nat} {a:Act} {w:World} (h₀:G m a w)
 (round:∀m a w,G m a w→c.wp P (Exit.then (fun a' w'=>∃m',m'<m∧G m' a' w') Q) a w):(Code.loop c).wp P Q a w:=by
 intro b k cs
 have key:∀m a w,G m a w→
  ∃e a' w',Q e a' w'∧Arrives P (lone (b.at a (.code c:: .inLoop c::k)) cs w) b k cs e a' w':=by
  intro m
  induction m using Nat.strongRecOn with
  |_ m ih=>
   intro a w hI
   obtain ⟨e,a₁,w₁,hq,a0I⟩:=round m a w hI b (.inLoop c::k) cs
   cases e with
   |normal=>
    obtain ⟨m',hlt,hI₁⟩:=hq
    obtain ⟨e₂,a₂,w₂,hq₂,bGI⟩:=ih m' hlt a₁ w₁ hI₁
    exact ⟨e₂,a₂,w₂,hq₂,.of_steps (Steps.trans a0I (.one step_inLoop)) bGI⟩
   |exit id=>exact ⟨_,a₁,w₁,hq,.pass (x:= .inLoop c) rfl (fun _ _=> .inl (by simp)) a0I⟩
   |goto l=>exact ⟨_,a₁,w₁,hq,.pass (x:= .inLoop c) rfl (fun _ _=> .inl (by simp)) a0I⟩
   |ret=>exact ⟨_,a₁,w₁,hq,.pass (x:= .inLoop c) rfl (fun _ _=> .inl (by simp)) a0I⟩
   |panic ch=>exact ⟨_,a₁,w₁,hq,.pass (x:= .inLoop c) rfl (fun _ _=> .inl (by simp)) a0I⟩
   |outgrown=>exact ⟨_,a₁,w₁,hq,.pass (x:= .inLoop c) rfl (fun _ _=> .inl (by simp)) a0I⟩
 obtain ⟨e,a',w',hq,a0I⟩:=key m a w h₀
 exact ⟨e,a',w',hq,.of_steps (.one step_loop) a0I⟩
theorem aRN {A:Type} {K:eB→Fr→Ev.St→Option A} {res:A} {e:eB} (hI:Inv P T Γ S pl St F a w):∀(outs:List (eB×Shape)) (i0 i:Nat) (ps:List PV),aPk Γ.m outs=true→aD2 e F St outs i0=some (i,ps)→
 ∃j,i=i0+j∧(aZU K outs j ps=some res→∃F' dD wD,Inv P T Γ S wD dD F' a w∧K e F' dD=some res)
 |[],_,_,_,_,h=>by simp[aD2]at h
 |(e',sh)::r,i0,i,ps,hok,h=>by
  simp only[aPk,Bool.and_eq_true]at hok
  simp only[aD2]at h
  split at h
  ·rename_i hb
   obtain rfl:=eB.beq_eq hb
   split at h
   ·rename_i ps' hp
    simp only[Option.some.injEq,Prod.mk.injEq]at h
    obtain ⟨rfl,rfl⟩:=h
    obtain ⟨F',dD,wD,hu,hI'⟩:=aPj (by simpa[a9Z]using hok.1) hI hp
    refine ⟨0,rfl,fun hg=>⟨F',dD,wD,hI', ?_⟩⟩
    rw[←hu (K e)]
    cases r with
    |nil=>exact hg
    |cons x xs=>exact hg
   ·simp at h
  ·obtain ⟨j,rfl,hj⟩:=aRN hI r (i0+1) i ps hok.2 h
   refine ⟨j+1,by omega,fun hg=>hj ?_⟩
   cases r with
   |nil=>simp[aD2]at h
   |cons x xs=>exact hg
def a3U (fix:((List PV→Option (Nat×List PV))→List PV→Option (Nat×List PV))→List PV→Option (Nat×List PV)):Prop:=∀step ps x,fix step ps=some x→∃n,aDi step n ps=some x
theorem aU4 (hm:P.follows .mixedOrders=true) (hpc:aQn P T E) (a7h:a3U E.fix):∀(ac:rB) (c:Code),cG P T Γ.n Γ.m ac c=true→∀{A:Type} {F:Fr} {St:Ev.St} {S:yA} {pl:Pl} {a:Act} {w:World} {K:eB→Fr→Ev.St→Option A} {res:A} {Q:Exit→Act→World→Prop},
 Inv P T Γ S pl St F a w→oM E ac F St K=some res→(∀e F St S pl a w,Inv P T Γ S pl St F a w→K e F St=some res→Q (a7g e) a w)→c.wp P Q a w:=by
 intro ac
 induction ac with
 |skip=>
  intro c hok A F St S pl a w K res Q hI h hQ
  cases c with
  |skip=>exact wp_skip (hQ .normal _ _ _ _ _ _ hI h)
  |label l=>exact wp_label (hQ .normal _ _ _ _ _ _ hI h)
  |_=>simp[cG]at hok
 |region fz aos aQv m=>
  intro c hok A F St S pl a w K res Q hI h hQ
  cases c with
  |region id ops draw=>exact aYX hm hpc hok hI h (fun F St S pl a w hI h=>hQ .normal _ _ _ _ _ _ hI h)
  |_=>simp[cG]at hok
 |seq x y ihx ihy=>
  intro c hok A F St S pl a w K res Q hI h hQ
  cases c with
  |seq cx cy=>
   simp only[cG,Bool.and_eq_true]at hok
   refine wp_seq (ihx cx hok.1 hI h (fun e F St S pl a w hI h=> ?_))
   cases e with
   |normal=>exact ihy cy hok.2 hI h hQ
   |exit id=>exact hQ (.exit id) _ _ _ _ _ _ hI h
   |ret=>exact hQ .ret _ _ _ _ _ _ hI h
  |_=>simp[cG]at hok
 |cond oc x y ihx ihy=>
  intro c hok A F St S pl a w K res Q hI h hQ
  cases c with
  |cond cc cx cy=>
   simp only[cG,Bool.and_eq_true]at hok
   have hv:=sC hI.cO hok.1.1 hI.frame
   simp only[oM]at h
   split at h
   ·rename_i r e
    rw[e]at hv
    refine wp_cond hv.of_bool ?_
    split at h
    ·rename_i hb;rw[if_pos hb];exact ihx cx hok.1.2 hI h hQ
    ·rename_i hb;rw[if_neg hb];exact ihy cy hok.2 hI h hQ
   ·simp at h
  |_=>simp[cG]at hok
 |block id x ih=>
  intro c hok A F St S pl a w K res Q hI h hQ
  cases c with
  |block id' cx=>
   simp only[cG,Bool.and_eq_true]at hok
   obtain rfl:=Nat.eq_of_beq_eq_true hok.1
   refine wp_block (ih cx hok.2 hI h (fun e F St S pl a w hI h=> ?_))
   cases e with
   |normal=>exact hQ .normal _ _ _ _ _ _ hI h
   |exit i=>
    simp only at h
    show (if i=id then Q .normal a w else Q (.exit i) a w)
    split at h
    ·rename_i hb;rw[if_pos (Nat.eq_of_beq_eq_true hb)];exact hQ .normal _ _ _ _ _ _ hI h
    ·rename_i hb
     rw[if_neg (fun e=>by subst e;simp at hb)];exact hQ (.exit i) _ _ _ _ _ _ hI h
   |ret=>exact hQ .ret _ _ _ _ _ _ hI h
  |_=>simp[cG]at hok
 |loop sh outs x ih=>
  intro c hok A F St S pl a w K res Q hI h hQ
  cases c with
  |loop cx=>
   simp only[cG,Bool.and_eq_true]at hok
   obtain ⟨⟨hsh,bGJ⟩,hok⟩:=hok
   have hsh:Γ.m≤sh.m:=by simpa[a9Z]using hsh
   simp only[oM]at h
   split at h
   ·rename_i ps hp
    obtain ⟨⟨i,qs⟩,h1,h2⟩:=Option.bind_eq_some_iff.1 h
    obtain ⟨F1,St1,pl1,hu,hI1⟩:=aPj hsh hI hp
    obtain ⟨m0,h1⟩:=a7h _ _ _ h1
    let G:Nat→Act→World→Prop:=fun m a w=>∃ps F St S pl,Inv P T Γ S pl St F a w∧(∀{B:Type} (k:Fr→Ev.St→Option B),unpack sh ps k=k F St)∧aDi (aHb (fun F S k=>oM E x F S k) sh outs) m ps=some (i,qs)
    refine a0H G (m:=m0) ⟨ps,F1,St1,S,pl1,hI1,hu,h1⟩ (fun m a w hG=> ?_)
    obtain ⟨ps,F,St,S,pl,hI,hu,hit⟩:=hG
    cases m with
    |zero=>simp[aDi]at hit
    |succ m=>
     simp only[aDi,aHb]at hit
     rw[hu]at hit
     refine ih cx hok hI hit (fun e F St S pl a w hI h=> ?_)
     have out:aD2 e F St outs 0=some (i,qs)→Q (a7g e) a w:=by
      intro ho
      obtain ⟨j,hj,hg⟩:=aRN (K:=K) (res:=res) hI outs 0 i qs bGJ ho
      rw[Nat.zero_add]at hj;subst hj
      obtain ⟨F',dD,wD,hI',h'⟩:=hg h2
      exact hQ e _ _ _ _ _ _ hI' h'
     cases e with
     |normal=>
      simp only at h
      split at h
      ·rename_i ps' hp'
       obtain ⟨F',dD,wD,hu',hI'⟩:=aPj hsh hI hp'
       exact ⟨m,Nat.lt_succ_self m,ps',F',dD,S,wD,hI',hu',h⟩
      ·simp at h
     |exit id=>exact out h
     |ret=>exact out h
   ·simp at h
  |_=>simp[cG]at hok
 |ghost g x ih=>
  intro c hok A F St S pl a w K res Q hI h hQ
  have hok:aLp P g=true∧cG P T Γ.n Γ.m x c=true:=by
   have:(aLp P g&&cG P T Γ.n Γ.m x c)=true:=by cases c<;>exact hok
   simpa using this
  simp only[oM]at h
  obtain ⟨F',dD,S',wD,hI',h'⟩:=aSZ hok.1 hI h
  exact ih c hok.2 hI' h' hQ
 |post g x ih=>
  intro c hok A F St S pl a w K res Q hI h hQ
  have hok:aLp P g=true∧cG P T Γ.n Γ.m x c=true:=by
   have:(aLp P g&&cG P T Γ.n Γ.m x c)=true:=by cases c<;>exact hok
   simpa using this
  simp only[oM]at h
  refine ih c hok.2 hI h (fun e F St S pl a w hI h=> ?_)
  cases e with
  |normal=>
   obtain ⟨F',dD,S',wD,hI',h'⟩:=aSZ hok.1 hI h
   exact hQ .normal _ _ _ _ _ _ hI' h'
  |exit id=>exact hQ (.exit id) _ _ _ _ _ _ hI h
  |ret=>exact hQ .ret _ _ _ _ _ _ hI h
 |join outs x ih=>
  intro c hok A F St S pl a w K res Q hI h hQ
  have hok:aPk Γ.m outs=true∧cG P T Γ.n Γ.m x c=true:=by
   have:(aPk Γ.m outs&&cG P T Γ.n Γ.m x c)=true:=by cases c<;>exact hok
   simpa using this
  simp only[oM]at h
  obtain ⟨⟨i,qs⟩,h1,h2⟩:=Option.bind_eq_some_iff.1 h
  refine ih c hok.2 hI h1 (fun e F St S pl a w hI h=> ?_)
  obtain ⟨j,hj,hg⟩:=aRN (K:=K) (res:=res) hI outs 0 i qs hok.1 h
  rw[Nat.zero_add]at hj;subst hj
  obtain ⟨F',dD,wD,hI',h'⟩:=hg h2
  exact hQ e _ _ _ _ _ _ hI' h'
 |exit id=>
  intro c hok A F St S pl a w K res Q hI h hQ
  cases c with
  |exit id'=>
   simp only[cG]at hok
   obtain rfl:=Nat.eq_of_beq_eq_true hok
   exact wp_exit (hQ (.exit id) _ _ _ _ _ _ hI h)
  |_=>simp[cG]at hok
 |bad=>
  intro c hok A F St S pl a w K res Q hI h hQ
  simp[oM]at h
 |ret=>
  intro c hok A F St S pl a w K res Q hI h hQ
  cases c with
  |ret=>exact wp_ret (hQ .ret _ _ _ _ _ _ hI h)
  |_=>simp[cG]at hok
end Go.Ev
