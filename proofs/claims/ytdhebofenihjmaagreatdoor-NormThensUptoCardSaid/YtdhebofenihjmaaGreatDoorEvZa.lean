/-
  What the arguments of a law read as, as rows of data.
-/
import Derived.Test.YtdhebofenihjmaaGreatDoorEvZ
import Derived.ReadAgain
import Derived.Lib.LaidTab
import Derived.OpenShut
import Derived.WalkKit
import Derived.ProofKit
import Derived.ChangeSame
set_option linter.all false
set_option maxRecDepth 100000
namespace Go.Ev
variable {H:Type} {P:Program} {T:Nat→yF} {S:yA} {w:World}
mutual
def w9:DataW H→Row
 | .lit (.int _ n)=>[.int n]
 | .lit (.bool b)=>[.bool b]
 | .lit (.string s)=>[.str s]
 | .slice es _=>[.sl (a0K es)]
 | .agg ps=>aOv ps
 |_=>[.bA]
def a0K:List (DataW H)→List Row
 |[]=>[]
 |d::r=>w9 d::a0K r
def aOv:List (DataW H)→Row
 |[]=>[]
 |d::r=>w9 d++aOv r
end
theorem aRy:∀(l:List (DataW H)),a0K l=l.map w9
 |[]=>by simp only[a0K,List.map_nil]
 |d::r=>by simp only[a0K,List.map_cons,aRy r]
theorem aS6:∀(a b:List (DataW H)),aOv (a++b)=aOv a++aOv b
 |[],b=>by simp only[aOv,List.nil_append]
 |d::r,b=>by simp only[List.cons_append,aOv,aS6 r b,List.append_assoc]
def yA.full (w:World):yA:=fun b o=>w.cell? ⟨b,o,none⟩
theorem yA.a94 (w:World):tD (yA.full w) w:=fun _ _ _ h=>h
def aK3 (P:Program) (ts:List TypeId):Bool:=ts.all fun t=>Nat.blt t P.types.size&&match P.underlying t with
 |some .bool |some (.int _)|some .string=>true
 |some (.slice e)=>ts.contains e&&match aIf P e,P.info? e with |some l,some i=>Nat.beq i.size l.n&&Nat.blt 0 l.n |_,_=>false
 |some (.struct fs)=>fs.toList.all fun f=>ts.contains f.type
 |some (.array n e)=>ts.contains e
 |_=>false
theorem yC.app {ks ks':List K} {cs cs':List Value} {row row':Row} (r:yC P T S ks cs row) (r':yC P T S ks' cs' row'):yC P T S (ks++ks') (cs++cs') (row++row'):=by
 have h1:=r.1
 have h2:=r.2
 refine ⟨by simp[r.1,r'.1],by simp[r.2,r'.2],fun j k hk=> ?_⟩
 rcases Nat.lt_or_ge j ks.length with h |h
 ·rw[List.getElem?_append_left h]at hk
  have:=r.3 j k hk
  rw[show (cs++cs').getD j undef=cs.getD j undef by simp only[List.getD_eq_getElem?_getD];rw[List.getElem?_append_left (by omega)]]
  rw[show at_ (row++row') j=at_ row j by simp only[at_,List.getD_eq_getElem?_getD];rw[List.getElem?_append_left (by omega)]]
  exact this
 ·rw[List.getElem?_append_right h]at hk
  have:=r'.3 _ k hk
  rw[show (cs++cs').getD j undef=cs'.getD (j - ks.length) undef by simp only[List.getD_eq_getElem?_getD];rw[List.getElem?_append_right (by omega),h1]]
  rw[show at_ (row++row') j=at_ row' (j - ks.length) by simp only[at_,List.getD_eq_getElem?_getD];rw[List.getElem?_append_right (by omega),h2]]
  exact this
theorem yC.nil:yC P T S [] [] []:=⟨rfl,rfl,fun j k h=>by simp at h⟩
theorem aNw {k:K} {v:Value} {c:C} (h:gO P T S k v c):yC P T S [k] [v] [c]:=by
 refine ⟨rfl,rfl,fun j k' hk=> ?_⟩
 cases j with
 |zero=>simp at hk;subst hk;exact h
 |succ j=>simp at hk
theorem aIo {t:TypeId} {l:L} (h:aIf P t=some l):wU P 30 t=some l.ks:=by
 unfold aIf at h
 split at h
 ·simp only[Option.map_eq_some_iff]at h
  obtain ⟨ks,hk,rfl⟩:=h
  exact hk
 ·simp only[Option.map_eq_some_iff]at h
  obtain ⟨ks,hk,rfl⟩:=h
  exact hk
 ·split at h
  ·rename_i k hk
   simp only[Option.some.injEq]at h
   subst h
   exact hk
  ·simp at h
theorem aS7 {base:Nat} {a:Addr} {n:Nat} {cs:List Value} (h:w.cells? base a n=some cs):cs.length=n∧(n≠0→a.spot=none)∧∀j,j<n→yA.full w a.block (a.off+j)=some (cs.getD j undef):=by
 unfold World.cells? at h
 split at h
 ·have hl:=mapM_some_length h
  rw[List.length_range]at hl
  have hat:∀j,j<n→w.cell? (a.add j)=cs[j]? :=fun j hj=>mapM_some_get h j j (by simp[hj])
  have hsp:n≠0→a.spot=none:=by
   intro hn
   have h0:=hat 0 (by omega)
   simp only[Addr.add,if_true]at h0
   cases hs:a.spot with
   |none=>rfl
   |some s=>
    rw[List.getElem?_eq_getElem (by omega)]at h0
    unfold World.cell? at h0
    split at h0
    ·simp[hs]at h0
    ·simp at h0
  refine ⟨hl,hsp,fun j hj=> ?_⟩
  have h1:=hat j hj
  have e:a.add j=⟨a.block,a.off+j,none⟩:=by
   unfold Addr.add
   split
   ·rename_i e0
    subst e0
    have:=hsp (by omega)
    cases a
    simp_all
   ·rfl
  rw[e]at h1
  unfold yA.full
  rw[h1,List.getD_eq_getElem?_getD,List.getElem?_eq_getElem (by omega)]
  rfl
 ·simp at h
theorem a0L {r:TypeId→List Value→Option (DataW H×List MemPlace)} {g:TypeId→Option (List K)} {c:TypeId→Nat}:
 ∀(fl:List Field) (off:Nat) (cs:List Value) (xs:List (DataW H×List MemPlace)) (ks:List K),
 (∀f∈fl,∀cs x ks,r f.type cs=some x→g f.type=some ks→yC P T S ks cs (w9 x.1))→
 (∀(j:Nat) f,fl[j]? =some f→f.offset=off+((fl.take j).map fun f=>c f.type).sum)→cs.length=off+(fl.map fun f=>c f.type).sum→
 fl.mapM (fun f=>r f.type ((cs.drop f.offset).take (c f.type)))=some xs→aG1 g fl=some ks→yC P T S ks (cs.drop off) (aOv (xs.map (·.1)))
 |[],off,cs,xs,ks,_,_,hl,hm,hk=>by
  simp at hm
  subst hm
  simp only[aG1,Option.some.injEq]at hk
  subst hk
  simp only[List.map_nil,List.sum_nil]at hl
  rw[List.drop_eq_nil_of_le (by omega)]
  exact .nil
 |f::fl,off,cs,xs,ks,hr,ho,hl,hm,hk=>by
  rw[List.mapM_cons]at hm
  have h0:=ho 0 f rfl
  simp only[List.take_zero,List.map_nil,List.sum_nil,Nat.add_zero]at h0
  cases h1:r f.type ((cs.drop f.offset).take (c f.type))with
  |none=>simp[h1]at hm
  |some x=>
   cases h2:fl.mapM (fun f=>r f.type ((cs.drop f.offset).take (c f.type)))with
   |none=>simp[h1,h2]at hm
   |some ys=>
    simp only[h1,h2]at hm
    have hm:x::ys=xs:=by simpa using hm
    subst hm
    simp only[aG1]at hk
    cases h3:g f.type with
    |none=>simp[h3]at hk
    |some a=>
     cases h4:aG1 g fl with
     |none=>simp[h3,h4]at hk
     |some b=>
      simp only[h3,h4,Option.some.injEq]at hk
      subst hk
      have A:=hr f (by simp) _ _ _ h1 h3
      have B:=a0L fl (off+c f.type) cs ys b (fun f' hf'=>hr f' (by simp[hf'])) (fun j f' hj=>by
       have:=ho (j+1) f' (by simpa using hj)
       simp only[List.take_succ_cons,List.map_cons,List.sum_cons]at this
       omega) (by simp only[List.map_cons,List.sum_cons]at hl;omega) h2 h4
      rw[h0]at A
      simp only[List.map_cons,aOv]
      have e:cs.drop off=(cs.drop off).take (c f.type)++cs.drop (off+c f.type):=by
       rw[←List.drop_drop,List.take_append_drop]
      rw[e]
      exact A.app B
theorem a34 {r:List Value→Option (DataW H×List MemPlace)} {c:Nat} {ke:List K} {cs:List Value} (hr:∀cs x,r cs=some x→yC P T S ke cs (w9 x.1)):
 ∀(n:Nat) (xs:List (DataW H×List MemPlace)),(List.range n).mapM (fun i=>r ((cs.drop (i*c)).take c))=some xs→yC P T S (List.replicate n ke).flatten (cs.take (n*c)) (aOv (xs.map (·.1)))
 |0,xs,h=>by
  simp at h
  subst h
  simp only[List.replicate_zero,List.flatten_nil,Nat.zero_mul,List.take_zero,List.map_nil,aOv]
  exact .nil
 |n+1,xs,h=>by
  rw[List.range_succ,List.mapM_append]at h
  cases h1:(List.range n).mapM (fun i=>r ((cs.drop (i*c)).take c))with
  |none=>simp[h1]at h
  |some ys=>
   cases h2:r ((cs.drop (n*c)).take c)with
   |none=>simp[h1,h2]at h
   |some y=>
    simp only[h1,h2,List.mapM_cons,List.mapM_nil]at h
    have h:ys++[y]=xs:=by simpa using h
    subst h
    have A:=a34 hr n ys h1
    have B:=hr _ _ h2
    rw[List.replicate_succ',List.flatten_append,List.map_append,aS6,Nat.succ_mul,List.take_add]
    refine A.app ?_
    simpa[aOv]using B
theorem aVc {enc:TypeId×Value→H} {base:Nat} {sp:Nat→Bool} {held:Bool} {ts:List TypeId} (K:Kids P (·<P.types.size)) (hp:aK3 P ts=true):
 ∀(fuel n:Nat) (t:TypeId) (cs:List Value) (x:DataW H×List MemPlace) (ks:List Ev.K),t∈ts→DataW.trod enc P w base sp held fuel t cs=some x→wU P n t=some ks→
  yC P T (yA.full w) ks cs (w9 x.1):=by
 intro fuel
 induction fuel with
 |zero=>intro n t cs x ks _ h;simp[DataW.trod]at h
 |succ fuel ih=>
  intro n t cs x ks ht h hk
  have hpt:=List.all_eq_true.1 hp t ht
  simp only[Bool.and_eq_true]at hpt
  have hlt:t<P.types.size:=by simpa using hpt.1
  have hpt:=hpt.2
  cases n with
  |zero=>simp[wU]at hk
  |succ n=>
   simp only[wU]at hk
   unfold DataW.trod at h
   cases hu:P.underlying t with
   |none=>simp[hu]at hpt
   |some d=>
    cases d<;>simp only[hu]at hpt hk h<;>try (simp at hpt;done)
    case bool=>
     split at h<;>simp_all
     obtain ⟨rfl⟩:=h
     subst hk
     exact aNw .bool
    case int k=>
     split at h<;>simp_all
     obtain ⟨⟨rfl,_⟩,rfl⟩:=h
     subst hk
     exact aNw .int
    case string=>
     split at h<;>simp_all
     obtain ⟨_,rfl⟩:=h
     subst hk
     exact aNw .str
    case slice e=>
     simp only[Option.some.injEq]at hk
     subst hk
     simp only[Bool.and_eq_true,List.contains_iff_mem]at hpt
     obtain ⟨hte,hle⟩:=hpt
     cases hl:aIf P e with
     |none=>simp[hl]at hle
     |some l=>
      cases hi:P.info? e with
      |none=>simp[hl,hi]at hle
      |some inf=>
       simp only[hl,hi,Bool.and_eq_true]at hle
       have hsz:inf.size=l.n:=Nat.eq_of_beq_eq_true hle.1
       have hpos:0<l.n:=by simpa using hle.2
       have hc:P.cellsOf e=l.n:=by simp[Program.cellsOf,hi,hsz]
       split at h
       case h_7=>
        simp only[Option.some.injEq]at h
        subst h
        exact aNw .bA
       case h_8=>
        rename_i e' a len cap heq
        cases heq
        split at h
        ·rename_i aXP
         simp only[Option.map_eq_some_iff,Option.bind_eq_some_iff]at h
         obtain ⟨elems,he,rest,_,rfl⟩:=h
         have hlen:elems.length=len:=by simpa using mapM_some_length he
         have hel:∀i,i<len→∃cs' y,elems[i]? =some y∧w.cells? base (a.add (i*l.n)) l.n=some cs'∧yC P T (yA.full w) l.ks cs' (w9 y.1):=by
          intro i hi'
          have:=mapM_some_get he i i (by simp[hi'])
          rw[List.getElem?_eq_getElem (by omega),Option.bind_eq_some_iff,hc]at this
          obtain ⟨cs',h1,h2⟩:=this
          exact ⟨cs',elems[i],by rw[List.getElem?_eq_getElem (by omega)],h1,ih 30 _ _ _ _ hte h2 (aIo hl)⟩
         have hcell:∀i,i<len→∃cs' y,elems[i]? =some y∧(len≠0→a.spot=none)∧(∀j,j<l.n→yA.full w a.block (a.off+i*l.n+j)=some (cs'.getD j undef))∧yC P T (yA.full w) l.ks cs' (w9 y.1):=by
          intro i hi'
          obtain ⟨cs',y,h1,h2,h3⟩:=hel i hi'
          obtain ⟨h4,h5,h6⟩:=aS7 h2
          have hsp:a.spot=none:=by
           obtain ⟨cs0,y0,_,g2,_⟩:=hel 0 (by omega)
           have:=(aS7 g2).2.1 (by omega)
           simpa[Addr.add]using this
          refine ⟨cs',y,h1,fun _=>hsp,fun j hj=> ?_,h3⟩
          rw[←h6 j hj]
          congr 1
          ·unfold Addr.add;split<;>rfl
          ·unfold Addr.add
           split
           ·rename_i e0;rw[e0];rfl
           ·rfl
         refine aNw ?_
         simp only[w9,aRy]
         refine gO.sl (l:=l) (fun i j=>(yA.full w a.block (a.off+i*l.n+j)).getD undef) ⟨hl,inf,hi,hsz⟩ (by simp[hlen]) aXP.2.1 ?_ ?_ ?_ ?_
         ·intro r hr
          simp only[List.map_map,List.mem_map]at hr
          obtain ⟨y,hy,rfl⟩:=hr
          obtain ⟨i,hi',hy'⟩:=List.mem_iff_getElem.1 hy
          obtain ⟨cs',y',h1,_,_,h4⟩:=hcell i (by omega)
          rw[List.getElem?_eq_getElem hi',hy',Option.some.injEq]at h1
          subst h1
          exact h4.2
         ·intro hne
          obtain ⟨_,_,_,h2,_⟩:=hcell 0 (by omega)
          exact h2 hne
         ·intro i j hi' hj
          obtain ⟨cs',y,_,_,h3,_⟩:=hcell i hi'
          simp only[h3 j hj,Option.getD_some]
         ·intro i j k hi' hk'
          obtain ⟨cs',y,h1,_,h3,h4⟩:=hcell i hi'
          have hj:j<l.n:=by
           have:=(List.getElem?_eq_some_iff.1 hk').1
           exact this
          simp only[h3 j hj,Option.getD_some]
          have:=h4.3 j k hk'
          rw[show aA ((elems.map (·.1)).map w9) i=w9 y.1 by simp[aA,List.getD_eq_getElem?_getD,h1]]
          exact this
        ·simp at h
       all_goals first |(rename_i heq _;cases heq;done)|(rename_i heq;cases heq;done)|(simp at h;done)
    case struct fs=>
     have h':(if cs.length=P.cellsOf t then (fs.toList.mapM fun f=>DataW.trod enc P w base sp held fuel f.type ((cs.drop f.offset).take (P.cellsOf f.type))).map fun xs=>(DataW.agg (xs.map (·.1)),xs.flatMap (·.2))else none)=some x:=by
      rw[←h]
     split at h'
     ·rename_i hcl
      simp only[Option.map_eq_some_iff]at h'
      obtain ⟨xs,hm,rfl⟩:=h'
      obtain ⟨_,h2,h3⟩:=K.struct hlt hu
      have:=a0L (T:=T) (r:=fun t cs=>DataW.trod enc P w base sp held fuel t cs) (g:=wU P n) (c:=P.cellsOf) fs.toList 0 cs xs ks (fun f hf cs x ks hx hk=>ih n _ _ _ _ (by
       have:=List.all_eq_true.1 hpt f hf
       simpa using this) hx hk) (fun j f hj=>by rw[h3 j f hj];omega) (by rw[hcl,h2];omega) hm hk
      simpa[w9]using this
     ·simp at h'
    case array m e=>
     have h':(if cs.length=P.cellsOf t then ((List.range m).mapM fun i=>DataW.trod enc P w base sp held fuel e ((cs.drop (i*P.cellsOf e)).take (P.cellsOf e))).map fun xs=>(DataW.agg (xs.map (·.1)),xs.flatMap (·.2))else none)=some x:=by
      rw[←h]
     split at h'
     ·rename_i hcl
      simp only[Option.map_eq_some_iff]at h' hk
      obtain ⟨xs,hm,rfl⟩:=h'
      obtain ⟨ke,hke,rfl⟩:=hk
      obtain ⟨_,h2⟩:=K.array hlt hu
      have:=a34 (T:=T) (r:=fun cs=>DataW.trod enc P w base sp held fuel e cs) (c:=P.cellsOf e) (cs:=cs) (ke:=ke) (fun cs x hx=>ih n _ _ _ _ (by simpa using hpt) hx hke) m xs hm
      rw[←h2,←hcl,List.take_length]at this
      simpa[w9]using this
     ·simp at h'
end Go.Ev
namespace Go.Ev
open Go.ChangeShapes Go.WideShapes Go.ChangeAt Go.RowKit
variable {H:Type} {enc:TypeId×Value→H} {P:Program} {T:Nat→yF} {S:yA} {w:World}
theorem a7n {base b0:Nat} {sp:Nat→Bool} {held:Bool} {ts:List TypeId} (K:Kids P (·<P.types.size)) (hp:aK3 P ts=true) {t:TypeId} {v:Value} {d:DataW H} {p:List MemPlace} {l:L}
 (ht:t∈ts) (hv:Value.okWide P w .any b0 t v) (h:DataW.Trod enc P w base sp held t v d p) (hl:aIf P t=some l):cF P T (yA.full w) l v (w9 d):=by
 obtain ⟨fuel,h⟩:=h
 have R:=aVc (T:=T) K hp fuel 30 t _ _ l.ks ht h (aIo hl)
 have hpt:=List.all_eq_true.1 hp t ht
 simp only[Bool.and_eq_true]at hpt
 have hpt:=hpt.2
 have one:∀k,l= .one k→v.cells=#[v]→cF P T (yA.full w) l v (w9 d):=by
  intro k hk hc
  subst hk
  rw[hc]at R
  have h2:=R.2
  simp only[L.ks,List.length_singleton]at h2
  obtain ⟨c,hc'⟩:=List.length_eq_one_iff.1 h2
  refine ⟨c,hc', ?_⟩
  have:=R.3 0 k rfl
  rw[hc']at this
  simpa[at_]using this
 have agg:∀ks,l= .agg ks→(∃cs,v= .agg cs)→cF P T (yA.full w) l v (w9 d):=by
  rintro ks rfl ⟨cs,rfl⟩
  exact ⟨cs,rfl,R⟩
 unfold aIf at hl
 unfold Value.okWide at hv
 cases hu:P.underlying t with
 |none=>simp[hu]at hpt
 |some dd=>
  cases dd<;>simp only[hu]at hpt hl hv<;>try (simp at hpt;done)
  case struct fs=>
   simp only[Option.map_eq_some_iff]at hl
   obtain ⟨ks,_,rfl⟩:=hl
   obtain ⟨cs,rfl,_⟩:=hv
   exact agg ks rfl ⟨cs,rfl⟩
  case array m e=>
   simp only[Option.map_eq_some_iff]at hl
   obtain ⟨ks,_,rfl⟩:=hl
   obtain ⟨cs,rfl,_⟩:=hv
   exact agg ks rfl ⟨cs,rfl⟩
  all_goals
   have hlk:∃k,l= .one k:=by
    split at hl
    ·rename_i k _;exact ⟨k,by simpa using hl.symm⟩
    ·simp at hl
   obtain ⟨k,hk⟩:=hlk
   refine one k hk ?_
   cases v<;>first
    |rfl
    |(simp[Cell.okWide,Cell.ok,hu]at hv;done)
theorem aQx {base b0:Nat} {sp:Nat→Bool} {held:Bool} {ts:List TypeId} (K:Kids P (·<P.types.size)) (hp:aK3 P ts=true):
 ∀{us:List TypeId} {vs:List Value} {ds:List (DataW H)} {p:List MemPlace} {ls:List L},(∀t∈us,t∈ts)→(∀(j:Nat) t v,us[j]? =some t→vs[j]? =some v→Value.okWide P w .any b0 t v)→
  DataW.TrodAll enc P w base sp held us vs ds p→aDq P us=some ls→fE P T (yA.full w) ls vs (ds.map w9)
 |[],[],[],p,ls,_,_,_,hl=>by
  simp only[aDq,Option.some.injEq]at hl
  subst hl
  exact .nil
 |t::us,v::vs,d::ds,p,ls,ht,hv,⟨p1,q1,h1,h2,_⟩,hl=>by
  simp only[aDq]at hl
  cases e1:aIf P t with
  |none=>simp[e1]at hl
  |some l=>
   cases e2:aDq P us with
   |none=>simp[e1,e2]at hl
   |some ls'=>
    simp only[e1,e2,Option.some.injEq]at hl
    subst hl
    exact .cons (a7n K hp (ht t (by simp)) (hv 0 t v rfl rfl) h1 e1) (aQx K hp (fun t' h=>ht t' (by simp[h])) (fun j t' v' a b=>hv (j+1) t' v' (by simpa using a) (by simpa using b)) h2 e2)
 |[],_::_,_,_,_,_,_,h,_=>by simp[DataW.TrodAll]at h
 |[],[],_::_,_,_,_,_,h,_=>by simp[DataW.TrodAll]at h
 |_::_,[],_,_,_,_,_,h,_=>by simp[DataW.TrodAll]at h
 |_::_,_::_,[],_,_,_,_,h,_=>by simp[DataW.TrodAll]at h
theorem aOU {w':World} {base:Nat} {sp:Nat→Bool} {held:Bool}:∀{us:List TypeId} {vs:List Value} {ds:List (DataW H)} {p:List MemPlace},
 DataW.TrodAll enc P w base sp held us vs ds p→(∀x∈p,w.sameAt w' x)→DataW.TrodAll enc P w' base sp held us vs ds p
 |[],[],[],p,h,_=>h
 |t::us,v::vs,d::ds,p,⟨p1,q1,⟨n,h1⟩,h2,e⟩,hs=>
  ⟨p1,q1,⟨n,DataW.trod_carry n t _ _ h1 (fun x hx=>hs x (by rw[e];exact List.mem_append_left _ hx))⟩,aOU h2 (fun x hx=>hs x (by rw[e];exact List.mem_append_right _ hx)),e⟩
 |[],_::_,_,_,h,_=>by simp[DataW.TrodAll]at h
 |[],[],_::_,_,h,_=>by simp[DataW.TrodAll]at h
 |_::_,[],_,_,h,_=>by simp[DataW.TrodAll]at h
 |_::_,_::_,[],_,h,_=>by simp[DataW.TrodAll]at h
theorem a5k {f:Func} {s:ChangeSpec} {apart fresh handsOn again:Bool} {W W':World} {args:Array Value} {v:Value} {ds gs:List (DataW H)} {before pa pv:List MemPlace}
 (hW:DataW.Whole enc P f.params.toList s.vars apart W args.toList ds gs before)
 (hres:∀(b:Nat) (sp:Nat→Bool) (hd:Bool),DataW.TrodAll enc P W' b sp hd f.resultTypes.toList (v.resultList f.resultTypes.size) (s.fn H (ds++gs)).results [])
 (hargs:∀sp:Nat→Bool,(∀p∈before,sp p.block=true)→DataW.TrodAll enc P W' 0 sp true f.params.toList args.toList (s.fn H (ds++gs)).args pa)
 (hvars:∀sp:Nat→Bool,(∀p∈before,sp p.block=true)→DataW.TrodVars enc P W' sp s.vars (s.fn H (ds++gs)).vars pv)
 (hps:before=pa++pv) (hk:W.keptBut W' (·∈before)) (hfz:∀a:Addr,a.block<W.heap.size→W'.frozen? a=W.frozen? a)
 (hok:∀(j:Nat) (t:TypeId) (r:Value),f.resultTypes[j]? =some t→(v.resultList f.resultTypes.size)[j]? =some r→Value.okWide P W' .any 0 t r):
 s.post enc P f apart fresh handsOn again W args v W':=by
 have hlt:∀p∈before,p.block<W.heap.size:=fun p hp=>hW.lt p hp
 have hold:∀p∈before,(fun b=>decide (b<W.heap.size)) p.block=true:=fun p hp=>by simpa using hW.lt p hp
 refine ⟨ds,gs,before,[],pa,pv,hW,hres _ _ _,hargs _ hold,hvars _ hold,World.keptBut_mono (fun p hp=>⟨hp, ?_⟩) hk,fun _=> ?_⟩
 ·rw[hps,List.mem_append]at hp
  exact Or.inr hp
 ·obtain ⟨_,_,_,_,_,hz,hn⟩:=hW
  refine ⟨hok,_,_,([]++pa)++pv,⟨[]++pa,pv,trodAll_append (hargs _ (fun _ _=>rfl)) (hres _ _ _),hvars _ (fun _ _=>rfl),rfl, ?_, ?_⟩, ?_⟩
  ·intro b off hp
   have hp':MemPlace.cell b off∈before:=by rw[hps];simpa using hp
   rw[hfz _ (hlt _ hp')]
   exact hz b off hp'
  ·intro ha
   have:=hn ha
   rw[hps]at this
   simpa using this
  ·intro p hp _
   rw[hps]
   simpa using hp
theorem a5l {W W':World} {S S':yA} (h:Grow (fun _=>False) S W S' W') (ps:List MemPlace):W.keptBut W' (·∈ps):=by
 refine ⟨h.os,h.output,fun i hi=> ?_⟩
 rw[h.block i hi (fun x=>x)]
 cases W.heap[i]? with
 |none=>trivial
 |some o=>cases o<;>first |rfl |exact ⟨rfl,rfl,rfl,fun _ _=>rfl⟩|exact .inr ⟨rfl,rfl⟩
theorem a5m {W W':World} {S S':yA} (h:Grow (fun _=>False) S W S' W') {p:MemPlace} (hp:p.block<W.heap.size):W.sameAt W' p:=by
 cases p with
 |cell b off=>simp only[World.sameAt,World.cell?];rw[h.block b hp (fun x=>x)]
 |map b=>simp only[World.sameAt];rw[h.block b hp (fun x=>x)]
theorem aY0 {f:Nat} {fn:Func} {s:ChangeSpec} {ls:List L} {tb:TypeId} {ts:List TypeId} {apart fresh handsOn again:Bool}
 (hm:P.follows .mixedOrders=true) (hT:a0J P T) (K:Kids P (·<P.types.size))
 (hz:∀t e,t<P.types.size→P.underlying t=some (.slice e)→0<P.cellsOf e) (hp:aK3 P ts=true) (hts:∀t∈fn.params.toList,t∈ts)
 (hls:aDq P fn.params.toList=some ls) (aHW:(T f).sig=some (ls,[.one .bool])) (hrt:fn.resultTypes=#[tb]) (htb:P.underlying tb=some .bool) (hvars:s.vars=[])
 {W:World} {base:Nat} {args:Array Value} {ds gs:List (DataW H)} {before:List MemPlace} (hgl:hO P T (yA.full W)) (hgz:xM T W)
 (hval:∀(j:Nat) t v,fn.params[j]? =some t→args[j]? =some v→Value.okWide P W .any base t v)
 (hW:DataW.Whole enc P fn.params.toList s.vars apart W args.toList ds gs before)
 (hs:ds.length=fn.params.size→s.fn H ds={results:=[.lit (.bool true)],args:=ds,vars:=[]})
 (hrun:(eA T).pc f (ds.map w9)=some [[.bool true]]):
 Calls P f args W fun e W'=>∃v,e= .returned v∧s.post enc P fn apart fresh handsOn again W args v W':=by
 have hW':=hW
 obtain ⟨p,q,hA,hV,hb,hfz,hnd⟩:=hW
 rw[hvars]at hV
 obtain ⟨rfl,rfl⟩:=trodVars_none hV
 have hlen:∀{us:List TypeId} {vs:List Value} {ds:List (DataW H)} {p:List MemPlace},DataW.TrodAll enc P W 0 (fun _=>true) true us vs ds p→ds.length=us.length:=by
  intro us
  induction us with
  |nil=>intro vs ds p h;cases vs<;>cases ds<;>simp[DataW.TrodAll]at h⊢
  |cons t us ih=>
   intro vs ds p h
   cases vs with
   |nil=>simp[DataW.TrodAll]at h
   |cons v vs=>
    cases ds with
    |nil=>simp[DataW.TrodAll]at h
    |cons d ds=>
     obtain ⟨_,_,_,h2,_⟩:=h
     simp[ih h2]
 have hdl:=hlen hA
 have hs':=hs (by simpa using hdl)
 have hargs:=aQx (T:=T) K hp hts (b0:=base) (fun j t v h1 h2=>hval j t v (by simpa using h1) (by simpa using h2)) hA hls
 obtain ⟨n,hn⟩:=(gQ T).1 hrun
 have hE:=(aOj hm hT n).1
 obtain ⟨_,hc⟩:=hE.2 f _ _ _ _ hn aHW (yA.full W) W args.toList (yA.a94 W) hgl hgz hargs
 rw[Array.toArray_toList]at hc
 refine hc.mono fun e W' ⟨out',S',he,hgr,_,hout⟩=> ?_
 have hv:out'=[.bool true]:=by
  have h1:=hout.aNo
  obtain ⟨v,rfl⟩:=List.length_eq_one_iff.1 h1
  have:=hout.arg 0 _ rfl
  obtain ⟨c,hc1,hc2⟩:=this
  simp only[aA,List.getD_cons_zero,List.cons.injEq,and_true]at hc1
  subst hc1
  simp only[List.getD_cons_zero]at hc2
  cases hc2
  rfl
 subst hv
 refine ⟨.bool true,he, ?_⟩
 have hlt:∀p∈before,p.block<W.heap.size:=fun p hp=>hW'.lt p hp
 refine a5k (pa:=p) (pv:=[]) hW' ?_ ?_ ?_ hb (a5l hgr _) ?_ ?_
 ·intro b sp hd
  rw[List.append_nil,hs',hrt]
  exact trodAll_cons_mk (shut_bool htb _) trodAll_mk0
 ·intro sp hsp
  rw[List.append_nil,hs']
  refine aOU (w:=W) (DataW.TrodAll.respare K hz (fun t ht=> ?_) hA (fun x hx=>hsp x (by rw[hb];exact List.mem_append_left _ hx))) (fun x hx=>a5m hgr (hlt x (by rw[hb];exact List.mem_append_left _ hx)))
  have:=List.all_eq_true.1 hp t (hts t ht)
  simp only[Bool.and_eq_true]at this
  simpa using this.1
 ·intro sp hsp
  rw[List.append_nil,hs',hvars]
  rfl
 ·intro a ha
  simp only[World.frozen?]
  rw[hgr.block a.block ha (fun x=>x)]
 ·rw[hrt]
  intro j t r h1 h2
  cases j with
  |zero=>
   simp at h1
   subst h1
   simp[Value.resultList]at h2
   subst h2
   exact okWide_bool_mk htb _
  |succ j=>simp at h1
end Go.Ev
namespace Go.Ev
variable {P:Program} {T:Nat→yF} {w:World}
theorem aLs:∀{laid:List (String×DataW Unit)} {ps:List MemPlace},DataW.LaidVars P w laid ps→∀{name:String} {d:DataW Unit},(name,d)∈laid→
 ∃(enc:TypeId×Value→Unit) (sp:Nat→Bool) (held:Bool) (g:Nat) (t:TypeId) (cs:Array Value) (fuel:Nat) (p:List MemPlace),P.globalNamed name=some g∧(P.globals[g]?).map (·.type)=some t∧w.var? P name=some cs∧
  DataW.trod enc P w 0 sp held fuel t cs.toList=some (d,p)
 |[],_,_,_,_,hm=>by simp at hm
 |(n,x)::r,ps,⟨g,t,cs,fuel,p,q,h1,h2,h3,h4,h5,_⟩,name,d,hm=>by
  rcases List.mem_cons.1 hm with e |hm
  ·cases e
   exact ⟨_,_,_,g,t,cs,fuel,p,h1,h2,h3,h4⟩
  ·exact aLs h5 hm
theorem aQy {ts:List TypeId} (K:Kids P (·<P.types.size)) (hp:aK3 P ts=true) {laid:List (String×DataW Unit)} (h:laidMet P laid w) {name:String} {d:DataW Unit} (hm:(name,d)∈laid) {g:Nat} {t:TypeId} {l:L}
 (hg:P.globalNamed name=some g) (ht:(P.globals[g]?).map (·.type)=some t) (hts:t∈ts) (hL:Lay P t l):gO P T (yA.full w) (.ref t) (.pointer (some ⟨g,0,none⟩)) (.dp (w9 d)):=by
 obtain ⟨ps,hv,_⟩:=h
 obtain ⟨enc,sp,held,g',t',cs,fuel,p,h1,h2,h3,h4⟩:=aLs hv hm
 obtain rfl:=Option.some.inj (hg.symm.trans h1)
 obtain rfl:=Option.some.inj (ht.symm.trans h2)
 have R:=aVc (T:=T) K hp fuel 30 t _ _ l.ks hts h4 (aIo hL.1)
 refine .ref (l:=l) (fun j=>cs.toList.getD j undef) hL R.2 rfl (fun j hj=> ?_) (fun j k hk=>R.3 j k hk)
 have:=World.var?_cell hg h3 j
 simp only[yA.full,Nat.zero_add]
 rw[this]
 have hlen:cs.toList.length=l.ks.length:=R.1
 have hj':j<cs.size:=by
  have:l.n=l.ks.length:=rfl
  simp at hlen
  omega
 simp[List.getD_eq_getElem?_getD,hj']
theorem aUi {ts:List TypeId} (T:Nat→yF) (K:Kids P (·<P.types.size)) (hp:aK3 P ts=true) {laid:List (String×DataW Unit)} (h:laidMet P laid w) {name:String} {d:DataW Unit} (hm:(name,d)∈laid) {g:Nat} {t:TypeId} {l:L}
 (hg:P.globalNamed name=some g) (ht:(P.globals[g]?).map (·.type)=some t) (hts:t∈ts) (hL:Lay P t l):∃cs e z,w.heap[g]? =some (.cells cs e z)∧cs.size=l.n:=by
 obtain ⟨ps,hv,_⟩:=h
 obtain ⟨enc,sp,held,g',t',cs,fuel,p,h1,h2,h3,h4⟩:=aLs hv hm
 obtain rfl:=Option.some.inj (hg.symm.trans h1)
 obtain rfl:=Option.some.inj (ht.symm.trans h2)
 have R:=aVc (T:=T) K hp fuel 30 t _ _ l.ks hts h4 (aIo hL.1)
 have hlen:cs.toList.length=l.ks.length:=R.1
 unfold World.var? at h3
 rw[hg]at h3
 simp only[Option.bind_some]at h3
 split at h3
 ·rename_i cs' e z hh
  simp only[Option.some.injEq]at h3
  subst h3
  exact ⟨_,e,z,hh,by simpa[L.n]using hlen⟩
 ·simp at h3
end Go.Ev
