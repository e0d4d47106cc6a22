/-
  A part of the proof: what the functions of the program compute.
-/
import Derived.Test.YtmcbcmgfkbjpcaaGreatDoorZEq
import Derived.Test.YtmcbcmgfkbjpcaaGreatDoorEvDa
set_option linter.all false
set_option maxRecDepth 100000
namespace Go.Ev.Zzj
def L (K:Nat→Int) (x y:Nat):Prop:=K x<K y∨(K x=K y∧x<y)
theorem L.trans {K:Nat→Int} {x y z:Nat} (h:L K x y) (k:L K y z):L K x z:=by
 unfold L at*;omega
def Srt (K:Nat→Int) (g:Nat→Nat) (a b:Nat):Prop:=∀i j,a≤i→i<j→j<b→L K (g i) (g j)
def Crs (g:Nat→Nat) (a m b:Nat):Prop:=∀i j,a≤i→i<m→m≤j→j<b→g i<g j
structure Sub (g' g:Nat→Nat) (a b:Nat):Prop where
 out:∀i,(i<a∨b≤i)→g' i=g i
 fwd:∀i,a≤i→i<b→∃j,a≤j∧j<b∧g' i=g j
 bwd:∀j,a≤j→j<b→∃i,a≤i∧i<b∧g' i=g j
theorem Sub.refl (g:Nat→Nat) (a b:Nat):Sub g g a b:=⟨fun _ _=>rfl,fun i h k=>⟨i,h,k,rfl⟩,fun i h k=>⟨i,h,k,rfl⟩⟩
theorem Sub.trans {g1 g2 g3:Nat→Nat} {a b:Nat} (h:Sub g1 g2 a b) (k:Sub g2 g3 a b):Sub g1 g3 a b:=by
 refine ⟨fun i hi=>(h.out i hi).trans (k.out i hi),fun i h1 h2=> ?_,fun j h1 h2=> ?_⟩
 ·obtain ⟨j,a1,a2,a3⟩:=h.fwd i h1 h2
  obtain ⟨q,b1,b2,b3⟩:=k.fwd j a1 a2
  exact ⟨q,b1,b2,a3.trans b3⟩
 ·obtain ⟨i,a1,a2,a3⟩:=k.bwd j h1 h2
  obtain ⟨q,b1,b2,b3⟩:=h.bwd i a1 a2
  exact ⟨q,b1,b2,b3.trans a3⟩
theorem Sub.mono {g' g:Nat→Nat} {a b a' b':Nat} (h:Sub g' g a b) (ha:a'≤a) (hb:b≤b'):Sub g' g a' b':=by
 refine ⟨fun i hi=>h.out i (by omega),fun i h1 h2=> ?_,fun j h1 h2=> ?_⟩
 ·by_cases hi:a≤i∧i<b
  ·obtain ⟨j,a1,a2,a3⟩:=h.fwd i hi.1 hi.2
   exact ⟨j,by omega,by omega,a3⟩
  ·exact ⟨i,h1,h2,h.out i (by omega)⟩
 ·by_cases hi:a≤j∧j<b
  ·obtain ⟨i,a1,a2,a3⟩:=h.bwd j hi.1 hi.2
   exact ⟨i,by omega,by omega,a3⟩
  ·exact ⟨j,h1,h2,h.out j (by omega)⟩
def swp (g:Nat→Nat) (i j:Nat):Nat→Nat:=fun q=>if q=j then g i else if q=i then g j else g q
theorem swp_sub (g:Nat→Nat) {i j a b:Nat} (hi:a≤i) (hi2:i<b) (hj:a≤j) (hj2:j<b):Sub (swp g i j) g a b:=by
 refine ⟨fun q hq=> ?_,fun q h1 h2=> ?_,fun q h1 h2=> ?_⟩
 ·simp only[swp];rw[if_neg (by omega),if_neg (by omega)]
 ·simp only[swp]
  by_cases h:q=j
  ·exact ⟨i,hi,hi2,by rw[if_pos h]⟩
  ·by_cases h':q=i
   ·exact ⟨j,hj,hj2,by rw[if_neg h,if_pos h']⟩
   ·exact ⟨q,h1,h2,by rw[if_neg h,if_neg h']⟩
 ·simp only[swp]
  by_cases h:q=i
  ·exact ⟨j,hj,hj2,by rw[if_pos rfl,h]⟩
  ·by_cases h':q=j
   ·by_cases e:i=j
    ·exact absurd (h'.trans e.symm) h
    ·exact ⟨i,hi,hi2,by rw[if_neg e,if_pos rfl,h']⟩
   ·exact ⟨q,h1,h2,by rw[if_neg h',if_neg h]⟩
def swr (g:Nat→Nat) (a b c:Nat):Nat→Nat:=fun q=>if a≤q∧q<a+c then g (q+b - a)else if b≤q∧q<b+c then g (q+a - b)else g q
def rot (g:Nat→Nat) (m i j:Nat):Nat→Nat:=fun q=>if m - i≤q∧q<m - i+j then g (q+i)else if m - i+j≤q∧q<m+j then g (q - j)else g q
inductive Blocks (K:Nat→Int) (g:Nat→Nat) (s n:Nat):Nat→Prop
 |last {a:Nat}:n≤a+s→Srt K g a n→Blocks K g s n a
 |cons {a:Nat}:a+s<n→Srt K g a (a+s)→Crs g a (a+s) n→Blocks K g s n (a+s)→Blocks K g s n a
theorem Srt.congr {K:Nat→Int} {g g':Nat→Nat} {a b:Nat} (h:Srt K g a b) (e:∀i,a≤i→i<b→g' i=g i):Srt K g' a b:=fun i j h1 h2 h3=>by
 rw[e i h1 (by omega),e j (by omega) h3];exact h i j h1 h2 h3
theorem Crs.congr {g g':Nat→Nat} {a m b:Nat} (h:Crs g a m b) (e:∀i,a≤i→i<b→g' i=g i):Crs g' a m b:=fun i j h1 h2 h3 h4=>by
 rw[e i h1 (by omega),e j (by omega) h4];exact h i j h1 h2 h3 h4
theorem Blocks.congr {K:Nat→Int} {g g':Nat→Nat} {s n a:Nat} (h:Blocks K g s n a) (e:∀i,a≤i→i<n→g' i=g i):Blocks K g' s n a:=by
 induction h with
 |last h1 h2=>exact .last h1 (h2.congr e)
 |cons h1 h2 h3 h4 ih=>exact .cons h1 (h2.congr fun i hi hj=>e i hi (by omega)) (h3.congr e) (ih fun i hi hj=>e i (by omega) hj)
theorem Crs.sub {g g':Nat→Nat} {a m b:Nat} (h:Crs g a m b) (k1:∀i,a≤i→i<m→∃j,a≤j∧j<m∧g' i=g j) (k2:∀i,m≤i→i<b→∃j,m≤j∧j<b∧g' i=g j):Crs g' a m b:=fun i j h1 h2 h3 h4=>by
 obtain ⟨i',a1,a2,a3⟩:=k1 i h1 h2
 obtain ⟨j',b1,b2,b3⟩:=k2 j h3 h4
 rw[a3,b3];exact h i' j' a1 a2 b1 b2
def arr (R:Nat→Row) (g:Nat→Nat) (n:Nat):List Row:=(List.range n).map fun q=>R (g q)
theorem arr_len (R:Nat→Row) (g:Nat→Nat) (n:Nat):(arr R g n).length=n:=by simp[arr]
theorem arr_at (R:Nat→Row) (g:Nat→Nat) (n i:Nat) (h:i<n):rowsAt (arr R g n) i=R (g i):=by
 unfold arr;rw[rowsAt_map _ _ _ (by simpa using h)];simp
theorem arr_set (R:Nat→Row) (g:Nat→Nat) (n i j:Nat):((arr R g n).set i (R (g j))).set j (R (g i))=arr R (swp g i j) n:=by
 apply List.ext_getElem
 ·simp[arr]
 ·intro q h1 h2
  have hq:q<n:=by simpa[arr]using h2
  rw[List.getElem_set]
  simp only[arr,List.getElem_map,List.getElem_range,swp]
  by_cases e:j=q
  ·subst e;simp
  ·rw[if_neg e,List.getElem_set]
   by_cases e2:i=q
   ·subst e2;rw[if_pos rfl,if_neg (fun h=>e h.symm),if_pos rfl]
   ·rw[if_neg e2,if_neg (fun h=>e h.symm),if_neg (fun h=>e2 h.symm)];simp
abbrev big:Nat:=4294967296
theorem wrapZ {n:Int} (h0: -1000000000000≤n) (h1:n≤1000000000000):Go.IntKind.wrap .i64 n=n:=wrap_i64 ⟨by omega,by omega⟩
theorem wr_succ {i:Nat} (h:i≤big):IntKind.wrap .i64 ((i:Int)+1)=((i+1:Nat):Int):=by unfold big at h;rw[wrapZ (by omega) (by omega)];omega
theorem wr_pred {i:Nat} (h:i≤big):IntKind.wrap .i64 (((i+1:Nat):Int) - 1)=(i:Int):=by unfold big at h;rw[wrapZ (by omega) (by omega)];omega
theorem wr_add {i j:Nat} (h:i≤big) (k:j≤big):IntKind.wrap .i64 ((i:Int)+(j:Int))=((i+j:Nat):Int):=by unfold big at h k;rw[wrapZ (by omega) (by omega)];omega
theorem wr_sub {i j:Nat} (h:i≤10000000000) (k:j≤i):IntKind.wrap .i64 ((i:Int) - (j:Int))=((i - j:Nat):Int):=by rw[wrapZ (by omega) (by omega)];omega
structure Cm (R:Nat→Row) (K:Nat→Int) (fc:C) (cm:Nat→Nat→Int):Prop where
 call:∀x y,callC (lim T) fc [R x,R y]=some [[.int (cm x y)]]
 lt:∀x y,cm x y<0↔K x<K y
end Go.Ev.Zzj
namespace Go.Ev.Zzj
variable {n:Nat} {R:Nat→Row} {K:Nat→Int} {fc:C} {cm:Nat→Nat→Int}
def st (R:Nat→Row) (g:Nat→Nat) (n:Nat):Row:=[.sl (arr R g n), .int (n:Int)]
theorem st0 (R:Nat→Row) (g:Nat→Nat) (n:Nat):at_ (st R g n) 0= .sl (arr R g n):=rfl
theorem st1 (R:Nat→Row) (g:Nat→Nat) (n:Nat):at_ (st R g n) 1= .int (n:Int):=rfl
theorem st_mk (R:Nat→Row) (g:Nat→Nat) (n:Nat):([C.sl (arr R g n), .int (n:Int)]:Row)=st R g n:=rfl
theorem gC_st (R:Nat→Row) (g:Nat→Nat) (n:Nat) (x:List PV):gC 0 (.r (st R g n)::x)= .sl (arr R g n):=rfl
theorem evs:(∀R g n,at_ (st R g n) 0= .sl (arr R g n))∧(∀R g n,at_ (st R g n) 1= .int (n:Int))∧(∀l:List Row,(C.sl l).rows=l)∧(∀n:Int,(C.int n).toI=n)∧(∀b:Bool,(C.bool b).toB=b)∧(∀n:Nat,((n:Nat):Int).toNat=n)∧(∀R g n,(arr R g n).length=n)∧(∀n:Nat,(0:Int)≤(n:Int))∧(∀a b:Nat,((a:Int)<(b:Int))=(a<b))∧(∀a b:Nat,((a:Int)≤(b:Int))=(a≤b))∧(∀n:Nat,n≤n)∧(∀(r:Row) (l:List Row),rowsAt (r::l) 0=r)∧(∀(c:C) (r:Row),at_ (c::r) 0=c)∧(∀(a b:C) (r:Row),at_ (a::b::r) 1=b)∧(∀R g n,([C.sl (arr R g n), .int ((n:Nat):Int)]:Row)=st R g n)∧(∀R g n x,gC 0 (.r (st R g n)::x)= .sl (arr R g n))∧(∀i r x,gI 0 (.r (.int i::r)::x)=i)∧(∀b r x,gB 0 (.r (.bool b::r)::x)=b)∧(∀c r x,gC 0 (.r (c::r)::x)=c)∧(∀r x,gR 0 (.r r::x)=r)∧(∀n p x,gI (n+1) (p::x)=gI n x)∧(∀n p x,gB (n+1) (p::x)=gB n x)∧(∀n p x,gC (n+1) (p::x)=gC n x)∧(∀n p x,gR (n+1) (p::x)=gR n x):=
 ⟨st0,st1,fun _=>rfl,fun _=>rfl,fun _=>rfl,Int.toNat_natCast,arr_len,Int.natCast_nonneg,fun _ _=>propext Int.ofNat_lt,fun _ _=>propext Int.ofNat_le,Nat.le_refl,fun _ _=>rfl,fun _ _=>rfl,fun _ _ _=>rfl,st_mk,gC_st,fun _ _ _=>rfl,fun _ _ _=>rfl,fun _ _ _=>rfl,fun _ _=>rfl,gI_s,gB_s,gC_s,gR_s⟩
end Go.Ev.Zzj
namespace Go.Ev.Zzj
def Tot {β:Type} (Q:β→Prop) (x:Option β):Prop:=∃r,x=some r∧Q r
theorem Tot.some {β:Type} {Q:β→Prop} {r:β} (h:Q r):Tot Q (some r):=⟨r,rfl,h⟩
theorem Tot.bind {α β:Type} {R:α→Prop} {Q:β→Prop} {x:Option α} {f:α→Option β} (h:Tot R x) (k:∀r,R r→Tot Q (f r)):Tot Q (x.bind f):=by
 obtain ⟨r,rfl,hr⟩:=h
 exact k r hr
variable {n:Nat} {R:Nat→Row} {K:Nat→Int} {fc:C} {cm:Nat→Nat→Int}
def Wsr (K:Nat→Int) (g:Nat→Nat) (a b:Nat):Prop:=∀i j,a≤i→i<j→j<b→K (g i)≤K (g j)
theorem Wsr.of_step {g:Nat→Nat} {a b:Nat} (h:∀q,a≤q→q+1<b→K (g q)≤K (g (q+1))):Wsr K g a b:=fun i j h1 h2 h3=>by
 obtain ⟨d,rfl⟩:∃d,j=i+1+d:=⟨j - (i+1),by omega⟩
 induction d with
 |zero=>exact h i h1 h3
 |succ d ih=>have:=ih (by omega) (by omega);have:=h (i+1+d) (by omega) (by omega);rw[show i+1+(d+1)=i+1+d+1 by omega];omega
theorem Wsr.congr {g g':Nat→Nat} {a b:Nat} (h:Wsr K g a b) (e:∀i,a≤i→i<b→g' i=g i):Wsr K g' a b:=fun i j h1 h2 h3=>by
 rw[e i h1 (by omega),e j (by omega) h3];exact h i j h1 h2 h3
theorem wi_l1 (hn:n≤big) (hc:Cm R K fc cm) (a b i:Nat) (hi:i<n):∀(j:Nat) (g:Nat→Nat),a≤j→j≤i→Wsr K g a j→Wsr K g j (i+1)→
 (∀q r,a≤q→q<j→j<r→r≤i→K (g q)≤K (g r))→
 ∃g':Nat→Nat,slices_insertionSortCmpFunc_2_api_Value_i5_l1 (lim T) (a:Int) (b:Int) fc (i:Int) (j:Int) (st R g n)=some (0,[.r [.int (a:Int)], .r [.int (b:Int)], .r [fc], .r [.int (i:Int)], .r (st R g' n)])∧Sub g' g a (i+1)∧Wsr K g' a (i+1)
 |j,g,haj,hji,s1,s2,s3=>by
  rw[slices_insertionSortCmpFunc_2_api_Value_i5_l1_eq];unfold slices_insertionSortCmpFunc_2_api_Value_i5_b1
  by_cases e:j=a
  ·subst e
   refine ⟨g, ?_,Sub.refl _ _ _,s2⟩
   simp[st0,st1,st_mk,gC_st,gR_z]
  ·obtain ⟨k,rfl⟩:∃k,j=k+1:=⟨j - 1,by omega⟩
   have c1:a<k+1:=by omega
   have w1:=wr_pred (i:=k) (by omega)
   have r1:k+1<n:=by omega
   have r2:k<n:=by omega
   have n1:¬k+1=n:=by omega
   have n2:¬k=n:=by omega
   by_cases hlt:K (g (k+1))<K (g k)
   ·have hd:cm (g (k+1)) (g k)<0:=(hc.lt _ _).2 hlt
    obtain ⟨g',e1,e2,e3⟩:=wi_l1 hn hc a b i hi k (swp g (k+1) k) (by omega) (by omega)
     (fun x y h1 h2 h3=>by
       simp only[swp];rw[if_neg (by omega),if_neg (by omega),if_neg (by omega),if_neg (by omega)];exact s1 x y h1 h2 (by omega))
     (fun x y h1 h2 h3=>by
       simp only[swp]
       rw[if_neg (show ¬y=k by omega)]
       by_cases hx:x=k
       ·rw[if_pos hx]
        by_cases hy:y=k+1
        ·rw[if_pos hy];omega
        ·rw[if_neg hy];exact s2 (k+1) y (Nat.le_refl _) (by omega) h3
       ·rw[if_neg hx]
        by_cases hx2:x=k+1
        ·rw[if_pos hx2,if_neg (by omega)];exact s3 k y (by omega) (by omega) (by omega) (by omega)
        ·rw[if_neg hx2,if_neg (by omega)];exact s2 x y (by omega) h2 h3)
     (fun x y h1 h2 h3 h4=>by
       simp only[swp]
       rw[if_neg (show ¬x=k by omega),if_neg (show ¬x=k+1 by omega),if_neg (show ¬y=k by omega)]
       by_cases hy:y=k+1
       ·rw[if_pos hy];exact s1 x k h1 h2 (by omega)
       ·rw[if_neg hy];exact s3 x y h1 (by omega) (by omega) h4)
    refine ⟨g', ?_,e2.trans (swp_sub g (by omega) (by omega) (by omega) (by omega)),e3⟩
    simp only[evs,List.length_set,and_self,and_true,true_and,ne_eq,not_false_eq_true,Option.bind_some,decide_eq_true_eq,Bool.not_eq_true',decide_eq_false_iff_not,not_true_eq_false,Bool.not_true,Bool.not_false,Bool.false_eq_true,decide_true,decide_false,if_true,if_false,ge_iff_le,gt_iff_lt,c1,w1,r1,r2,n1,n2,arr_at R _ n _ r1,arr_at R _ n _ r2,hc.call,hd,arr_set]
    exact e1
   ·have hd:¬cm (g (k+1)) (g k)<0:=fun h=>hlt ((hc.lt _ _).1 h)
    refine ⟨g, ?_,Sub.refl _ _ _, ?_⟩
    ·simp only[evs,List.length_set,and_self,and_true,true_and,ne_eq,not_false_eq_true,Option.bind_some,decide_eq_true_eq,Bool.not_eq_true',decide_eq_false_iff_not,not_true_eq_false,Bool.not_true,Bool.not_false,Bool.false_eq_true,decide_true,decide_false,if_true,if_false,ge_iff_le,gt_iff_lt,c1,w1,r1,r2,n1,n2,arr_at R _ n _ r1,arr_at R _ n _ r2,hc.call,hd,arr_set]
    ·have hl:K (g k)≤K (g (k+1)):=by omega
     intro x y h1 h2 h3
     by_cases hy:y≤k
     ·exact s1 x y h1 h2 (by omega)
     ·by_cases hx:k+1≤x
      ·exact s2 x y hx h2 h3
      ·have hx1:K (g x)≤K (g (k+1)):=by
        by_cases hx2:x=k
        ·rw[hx2];exact hl
        ·have:=s1 x k h1 (by omega) (by omega);omega
       by_cases hy2:y=k+1
       ·rw[hy2];exact hx1
       ·exact s3 x y h1 (by omega) (by omega) (by omega)
theorem wi_l0 (hn:n≤big) (hc:Cm R K fc cm) (a b:Nat) (hb:b≤n):∀(k i:Nat) (g:Nat→Nat),b≤i+k→i≤n+1→a<i→Wsr K g a i→
 ∃g':Nat→Nat,slices_insertionSortCmpFunc_2_api_Value_i5_l0 (lim T) (a:Int) (b:Int) fc (i:Int) (st R g n)=some (0,[.r (st R g' n)])∧Sub g' g a b∧Wsr K g' a b
 |k,i,g,hk,hin,hai,s1=>by
  rw[slices_insertionSortCmpFunc_2_api_Value_i5_l0_eq];unfold slices_insertionSortCmpFunc_2_api_Value_i5_b0
  by_cases e:i<b
  ·obtain ⟨k,rfl⟩:∃k',k=k'+1:=⟨k - 1,by omega⟩
   have w1:=wr_succ (i:=i) (by omega)
   obtain ⟨g1,e1,e2,e3⟩:=wi_l1 hn hc a b i (by omega) i g (by omega) (Nat.le_refl _) s1 (fun x y h1 h2 h3=>by omega) (fun q r h1 h2 h3 h4=>by omega)
   obtain ⟨g2,f1,f2,f3⟩:=wi_l0 hn hc a b hb k (i+1) g1 (by omega) (by omega) (by omega) e3
   refine ⟨g2, ?_,f2.trans (e2.mono (Nat.le_refl _) (by omega)),f3⟩
   simp only[evs,List.length_set,and_self,and_true,true_and,ne_eq,not_false_eq_true,Option.bind_some,decide_eq_true_eq,Bool.not_eq_true',decide_eq_false_iff_not,not_true_eq_false,Bool.not_true,Bool.not_false,Bool.false_eq_true,decide_true,decide_false,if_true,if_false,ge_iff_le,gt_iff_lt,e,e1,w1]
   exact f1
  ·refine ⟨g, ?_,Sub.refl _ _ _,fun x y h1 h2 h3=>s1 x y h1 h2 (by omega)⟩
   simp only[evs,List.length_set,and_self,and_true,true_and,ne_eq,not_false_eq_true,Option.bind_some,decide_eq_true_eq,Bool.not_eq_true',decide_eq_false_iff_not,not_true_eq_false,Bool.not_true,Bool.not_false,Bool.false_eq_true,decide_true,decide_false,if_true,if_false,ge_iff_le,gt_iff_lt,e]
theorem wi_ic (hn:n≤big) (hc:Cm R K fc cm) (a b:Nat) (hab:a≤b) (hb:b≤n) (g:Nat→Nat):
 ∃g':Nat→Nat,(lim T).ic slices_insertionSortCmpFunc_2_api_Value_i5_n [.r [.int (a:Int)], .r [.int (b:Int)], .r [fc], .r (st R g n)]=some [.r (st R g' n)]∧Sub g' g a b∧Wsr K g' a b:=by
 rw[slices_insertionSortCmpFunc_2_api_Value_i5_ic];unfold slices_insertionSortCmpFunc_2_api_Value_i5
 have w1:=wr_succ (i:=a) (by omega)
 obtain ⟨g',e1,e2,e3⟩:=wi_l0 hn hc a b hb b (a+1) g (by omega) (by omega) (by omega) (fun x y h1 h2 h3=>by omega)
 refine ⟨g', ?_,e2,e3⟩
 simp only[evs,List.length_set,and_self,and_true,true_and,ne_eq,not_false_eq_true,Option.bind_some,decide_eq_true_eq,Bool.not_eq_true',decide_eq_false_iff_not,not_true_eq_false,Bool.not_true,Bool.not_false,Bool.false_eq_true,decide_true,decide_false,if_true,if_false,ge_iff_le,gt_iff_lt,w1,e1]
theorem or_ic (hn:n≤big) (hc:Cm R K fc cm) (a b:Nat) (ha:a<n) (hb:b<n) (g:Nat→Nat) (w:Int):
 ∃(x y:Nat) (w':Int),(lim T).ic slices_order2CmpFunc_2_api_Value_i12_n [.r [.int (a:Int)], .r [.int (b:Int)], .r [fc], .r (st R g n), .r [.int w]]=some [.r [.int (x:Int)], .r [.int (y:Int)], .r (st R g n), .r [.int w']]∧(x=a∧y=b∨x=b∧y=a):=by
 rw[slices_order2CmpFunc_2_api_Value_i12_ic];unfold slices_order2CmpFunc_2_api_Value_i12
 have n1:¬a=n:=by omega
 have n2:¬b=n:=by omega
 by_cases h:cm (g b) (g a)<0
 ·exact ⟨b,a,_,by simp only[evs,List.length_set,and_self,and_true,true_and,ne_eq,not_false_eq_true,Option.bind_some,decide_eq_true_eq,Bool.not_eq_true',decide_eq_false_iff_not,not_true_eq_false,Bool.not_true,Bool.not_false,Bool.false_eq_true,decide_true,decide_false,if_true,if_false,ge_iff_le,gt_iff_lt,ha,hb,n1,n2,arr_at R _ n _ ha,arr_at R _ n _ hb,hc.call,h];rfl, .inr ⟨rfl,rfl⟩⟩
 ·exact ⟨a,b,_,by simp only[evs,List.length_set,and_self,and_true,true_and,ne_eq,not_false_eq_true,Option.bind_some,decide_eq_true_eq,Bool.not_eq_true',decide_eq_false_iff_not,not_true_eq_false,Bool.not_true,Bool.not_false,Bool.false_eq_true,decide_true,decide_false,if_true,if_false,ge_iff_le,gt_iff_lt,ha,hb,n1,n2,arr_at R _ n _ ha,arr_at R _ n _ hb,hc.call,h];rfl, .inl ⟨rfl,rfl⟩⟩
theorem me_ic (hn:n≤big) (hc:Cm R K fc cm) (a b c:Nat) (ha:a<n) (hb:b<n) (hc':c<n) (g:Nat→Nat) (w:Int):
 ∃(z:Nat) (w':Int),(lim T).ic slices_medianCmpFunc_2_api_Value_i11_n [.r [.int (a:Int)], .r [.int (b:Int)], .r [.int (c:Int)], .r [fc], .r (st R g n), .r [.int w]]=some [.r [.int (z:Int)], .r (st R g n), .r [.int w']]∧(z=a∨z=b∨z=c):=by
 rw[slices_medianCmpFunc_2_api_Value_i11_ic];unfold slices_medianCmpFunc_2_api_Value_i11
 obtain ⟨x1,y1,w1,e1,f1⟩:=or_ic hn hc a b ha hb g w
 obtain ⟨x2,y2,w2,e2,f2⟩:=or_ic hn hc y1 c (by omega) hc' g w1
 obtain ⟨x3,y3,w3,e3,f3⟩:=or_ic hn hc x1 x2 (by omega) (by omega) g w2
 refine ⟨y3,w3, ?_,by omega⟩
 simp only[evs,List.length_set,and_self,and_true,true_and,ne_eq,not_false_eq_true,Option.bind_some,decide_eq_true_eq,Bool.not_eq_true',decide_eq_false_iff_not,not_true_eq_false,Bool.not_true,Bool.not_false,Bool.false_eq_true,decide_true,decide_false,if_true,if_false,ge_iff_le,gt_iff_lt,e1,e2,e3]
theorem quart {x:Nat} (h:x≤big):IntKind.wrap .i64 ((x:Int).tdiv 4)=((x/4:Nat):Int):=by
 unfold big at h
 rw[Int.tdiv_eq_ediv_of_nonneg (by omega),wrapZ (by omega) (by omega)];omega
theorem wr_mul (k:Int) (h0:0≤k) (h1:k≤8) {x:Nat} (h:x≤big):IntKind.wrap .i64 ((x:Int)*k)=((x*k.toNat:Nat):Int):=by
 unfold big at h
 obtain ⟨k,rfl⟩:∃m:Nat,k=(m:Int):=⟨k.toNat,by omega⟩
 have:x*k≤4294967296*8:=Nat.mul_le_mul h (by omega)
 rw[←Int.natCast_mul,Int.toNat_natCast,wrapZ (by omega) (by omega)]
theorem ch_ic (hn:n≤big) (hc:Cm R K fc cm) (a b:Nat) (hab:a<b) (hb:b≤n) (h50:b - a<50) (g:Nat→Nat):
 ∃(p:Nat) (hint:Int),(lim T).ic slices_choosePivotCmpFunc_2_api_Value_i10_n [.r [.int (a:Int)], .r [.int (b:Int)], .r [fc], .r (st R g n)]=some [.r [.int (p:Int)], .r [.int hint], .r (st R g n)]∧a≤p∧p<b:=by
 rw[slices_choosePivotCmpFunc_2_api_Value_i10_ic];unfold slices_choosePivotCmpFunc_2_api_Value_i10
 have w1:=wr_sub (i:=b) (j:=a) (by unfold big at hn;omega) (by omega)
 have w2:=quart (x:=b - a) (by omega)
 have q1:=wr_mul 1 (by omega) (by omega) (x:=(b - a)/4) (by omega)
 have q2:=wr_mul 2 (by omega) (by omega) (x:=(b - a)/4) (by omega)
 have q3:=wr_mul 3 (by omega) (by omega) (x:=(b - a)/4) (by omega)
 rw[show (1:Int).toNat=1 from rfl]at q1
 rw[show (2:Int).toNat=2 from rfl]at q2
 rw[show (3:Int).toNat=3 from rfl]at q3
 have u1:=wr_add (i:=a) (j:=(b - a)/4*1) (by omega) (by omega)
 have u2:=wr_add (i:=a) (j:=(b - a)/4*2) (by omega) (by omega)
 have u3:=wr_add (i:=a) (j:=(b - a)/4*3) (by omega) (by omega)
 have c50:¬((b - a:Nat):Int)≥50:=by omega
 have fin:∀(p:Nat) (w:Int),a≤p→p<b→∃(p':Nat) (hint:Int),(if (w==0)=true then some [PV.r [C.int (p:Int)],PV.r [C.int 1],PV.r (st R g n)]else if (w==12)=true then some [PV.r [C.int (p:Int)],PV.r [C.int 2],PV.r (st R g n)]else some [PV.r [C.int (p:Int)],PV.r [C.int 0],PV.r (st R g n)])=some [.r [.int (p':Int)], .r [.int hint], .r (st R g n)]∧a≤p'∧p'<b:=fun p w h1 h2=>by
  split
  ·exact ⟨p,1,rfl,h1,h2⟩
  ·split
   ·exact ⟨p,2,rfl,h1,h2⟩
   ·exact ⟨p,0,rfl,h1,h2⟩
 by_cases c8:((b - a:Nat):Int)≥8
 ·obtain ⟨z,w',e1,e2⟩:=me_ic hn hc (a+(b - a)/4*1) (a+(b - a)/4*2) (a+(b - a)/4*3) (by omega) (by omega) (by omega) g 0
  rw[w1,w2,q1,q2,q3,u1,u2,u3,if_pos (decide_eq_true c8),if_neg (by simpa using c50)]
  simp only[evs,List.length_set,and_self,and_true,true_and,ne_eq,not_false_eq_true,Option.bind_some,decide_eq_true_eq,Bool.not_eq_true',decide_eq_false_iff_not,not_true_eq_false,Bool.not_true,Bool.not_false,Bool.false_eq_true,decide_true,decide_false,if_true,if_false,ge_iff_le,gt_iff_lt,e1]
  exact fin z w' (by omega) (by omega)
 ·rw[w1,w2,q1,q2,q3,u1,u2,u3,if_neg (by simpa using c8)]
  simp only[evs,List.length_set,and_self,and_true,true_and,ne_eq,not_false_eq_true,Option.bind_some,decide_eq_true_eq,Bool.not_eq_true',decide_eq_false_iff_not,not_true_eq_false,Bool.not_true,Bool.not_false,Bool.false_eq_true,decide_true,decide_false,if_true,if_false,ge_iff_le,gt_iff_lt]
  exact fin _ 0 (by omega) (by omega)
theorem rv_l (hn:n≤big) (a b:Nat) (hb:b≤n):∀(d i j:Nat) (g:Nat→Nat),j - i≤d→a≤i→i≤j+1→j<b→
 ∃g':Nat→Nat,slices_reverseRangeCmpFunc_2_api_Value_i13_l0 (lim T) (i:Int) (j:Int) (st R g n)=some (0,[.r (st R g' n)])∧Sub g' g a b
 |d,i,j,g,hd,hi,hij,hj=>by
  rw[slices_reverseRangeCmpFunc_2_api_Value_i13_l0_eq];unfold slices_reverseRangeCmpFunc_2_api_Value_i13_b0
  by_cases e:i<j
  ·obtain ⟨d,rfl⟩:∃d',d=d'+1:=⟨d - 1,by omega⟩
   obtain ⟨k,rfl⟩:∃k,j=k+1:=⟨j - 1,by omega⟩
   have w1:=wr_succ (i:=i) (by omega)
   have w2:=wr_pred (i:=k) (by omega)
   have r1:i<n:=by omega
   have r2:k+1<n:=by omega
   have n1:¬i=n:=by omega
   have n2:¬k+1=n:=by omega
   obtain ⟨g',e1,e2⟩:=rv_l hn a b hb d (i+1) k (swp g i (k+1)) (by omega) (by omega) (by omega) (by omega)
   refine ⟨g', ?_,e2.trans (swp_sub g (by omega) (by omega) (by omega) (by omega))⟩
   simp only[evs,List.length_set,and_self,and_true,true_and,ne_eq,not_false_eq_true,Option.bind_some,decide_eq_true_eq,Bool.not_eq_true',decide_eq_false_iff_not,not_true_eq_false,Bool.not_true,Bool.not_false,Bool.false_eq_true,decide_true,decide_false,if_true,if_false,ge_iff_le,gt_iff_lt,e,w1,w2,r1,r2,n1,n2,arr_at R _ n _ r1,arr_at R _ n _ r2,arr_set]
   exact e1
  ·exact ⟨g,by simp only[evs,List.length_set,and_self,and_true,true_and,ne_eq,not_false_eq_true,Option.bind_some,decide_eq_true_eq,Bool.not_eq_true',decide_eq_false_iff_not,not_true_eq_false,Bool.not_true,Bool.not_false,Bool.false_eq_true,decide_true,decide_false,if_true,if_false,ge_iff_le,gt_iff_lt,e],Sub.refl _ _ _⟩
theorem rv_ic (hn:n≤big) (a b:Nat) (hab:a<b) (hb:b≤n) (g:Nat→Nat):
 ∃g':Nat→Nat,(lim T).ic slices_reverseRangeCmpFunc_2_api_Value_i13_n [.r [.int (a:Int)], .r [.int (b:Int)], .r [fc], .r (st R g n)]=some [.r (st R g' n)]∧Sub g' g a b:=by
 rw[slices_reverseRangeCmpFunc_2_api_Value_i13_ic];unfold slices_reverseRangeCmpFunc_2_api_Value_i13
 obtain ⟨k,rfl⟩:∃k,b=k+1:=⟨b - 1,by omega⟩
 have w2:=wr_pred (i:=k) (by omega)
 obtain ⟨g',e1,e2⟩:=rv_l (R:=R) hn a (k+1) hb _ a k g (Nat.le_refl _) (Nat.le_refl _) (by omega) (by omega)
 exact ⟨g',by simp only[evs,List.length_set,and_self,and_true,true_and,ne_eq,not_false_eq_true,Option.bind_some,decide_eq_true_eq,Bool.not_eq_true',decide_eq_false_iff_not,not_true_eq_false,Bool.not_true,Bool.not_false,Bool.false_eq_true,decide_true,decide_false,if_true,if_false,ge_iff_le,gt_iff_lt,w2,e1],e2⟩
theorem pi_l1 (hn:n≤big) (hc:Cm R K fc cm) (a b:Nat) (hb:b≤n) (v:Int) (g:Nat→Nat):∀(d i:Nat),i+d=b→a<i→(∀q,a≤q→q+1<i→K (g q)≤K (g (q+1)))→
 ∃i':Nat,slices_partialInsertionSortCmpFunc_2_api_Value_i14_l1 (lim T) (a:Int) (b:Int) fc (i:Int) v (st R g n)=some (0,[.r [.int (a:Int)], .r [.int (b:Int)], .r [fc], .r [.int (i':Int)], .r [.int v], .r (st R g n)])∧i'≤b∧(∀q,a≤q→q+1<i'→K (g q)≤K (g (q+1)))
 |0,i,hd,hi,hs=>by
  rw[slices_partialInsertionSortCmpFunc_2_api_Value_i14_l1_eq];unfold slices_partialInsertionSortCmpFunc_2_api_Value_i14_b1
  obtain rfl:i=b:=by omega
  have e:¬i<i:=by omega
  exact ⟨i,by simp only[evs,List.length_set,and_self,and_true,true_and,ne_eq,not_false_eq_true,Option.bind_some,decide_eq_true_eq,Bool.not_eq_true',decide_eq_false_iff_not,not_true_eq_false,Bool.not_true,Bool.not_false,Bool.false_eq_true,decide_true,decide_false,if_true,if_false,ge_iff_le,gt_iff_lt,e],Nat.le_refl _,hs⟩
 |d+1,i,hd,hi,hs=>by
  rw[slices_partialInsertionSortCmpFunc_2_api_Value_i14_l1_eq];unfold slices_partialInsertionSortCmpFunc_2_api_Value_i14_b1
  have e:i<b:=by omega
  obtain ⟨k,rfl⟩:∃k,i=k+1:=⟨i - 1,by omega⟩
  have w1:=wr_succ (i:=k+1) (by omega)
  have w2:=wr_pred (i:=k) (by omega)
  have r1:k+1<n:=by omega
  have r2:k<n:=by omega
  have n1:¬k+1=n:=by omega
  have n2:¬k=n:=by omega
  by_cases hlt:cm (g (k+1)) (g k)<0
  ·refine ⟨k+1, ?_,by omega,hs⟩
   simp only[evs,List.length_set,and_self,and_true,true_and,ne_eq,not_false_eq_true,Option.bind_some,decide_eq_true_eq,Bool.not_eq_true',decide_eq_false_iff_not,not_true_eq_false,Bool.not_true,Bool.not_false,Bool.false_eq_true,decide_true,decide_false,if_true,if_false,ge_iff_le,gt_iff_lt,e,w1,w2,r1,r2,n1,n2,arr_at R _ n _ r1,arr_at R _ n _ r2,hc.call,hlt]
  ·have hk:¬K (g (k+1))<K (g k):=fun h=>hlt ((hc.lt _ _).2 h)
   obtain ⟨i',e1,e2⟩:=pi_l1 hn hc a b hb v g d (k+1+1) (by omega) (by omega) (fun q h1 h2=>by
    by_cases c:q=k
    ·subst c;omega
    ·exact hs q h1 (by omega))
   refine ⟨i', ?_,e2⟩
   simp only[evs,List.length_set,and_self,and_true,true_and,ne_eq,not_false_eq_true,Option.bind_some,decide_eq_true_eq,Bool.not_eq_true',decide_eq_false_iff_not,not_true_eq_false,Bool.not_true,Bool.not_false,Bool.false_eq_true,decide_true,decide_false,if_true,if_false,ge_iff_le,gt_iff_lt,e,w1,w2,r1,r2,n1,n2,arr_at R _ n _ r1,arr_at R _ n _ r2,hc.call,hlt]
   exact e1
theorem pi_ic (hn:n≤big) (hc:Cm R K fc cm) (a b:Nat) (hab:a<b) (hb:b≤n) (h50:b - a<50) (g:Nat→Nat):
 ∃r:Bool,(lim T).ic slices_partialInsertionSortCmpFunc_2_api_Value_i14_n [.r [.int (a:Int)], .r [.int (b:Int)], .r [fc], .r (st R g n)]=some [.r [.bool r], .r (st R g n)]∧(r=true→Wsr K g a b):=by
 rw[slices_partialInsertionSortCmpFunc_2_api_Value_i14_ic];unfold slices_partialInsertionSortCmpFunc_2_api_Value_i14
 have w1:=wr_succ (i:=a) (by omega)
 have w2:=wr_sub (i:=b) (j:=a) (by unfold big at hn;omega) (by omega)
 obtain ⟨i',e1,e2,e3⟩:=pi_l1 hn hc a b hb 0 g (b - (a+1)) (a+1) (by omega) (by omega) (fun q h1 h2=>by omega)
 have l0:slices_partialInsertionSortCmpFunc_2_api_Value_i14_l0 (lim T) (a:Int) (b:Int) fc ((a+1:Nat):Int) 0 (st R g n)=some (1,[.r [.bool (decide (i'=b))], .r (st R g n)]):=by
  rw[slices_partialInsertionSortCmpFunc_2_api_Value_i14_l0_eq];unfold slices_partialInsertionSortCmpFunc_2_api_Value_i14_b0
  have c5:(0:Int)<5:=by decide
  have c50:((b - a:Nat):Int)<50:=by omega
  by_cases c:i'=b
  ·have hq:((i':Int)==(b:Int))=true:=by simp[c]
   simp only[evs,List.length_set,and_self,and_true,true_and,ne_eq,not_false_eq_true,Option.bind_some,decide_eq_true_eq,Bool.not_eq_true',decide_eq_false_iff_not,not_true_eq_false,Bool.not_true,Bool.not_false,Bool.false_eq_true,decide_true,decide_false,if_true,if_false,ge_iff_le,gt_iff_lt,c5,e1,hq,c,beq_self_eq_true]
  ·have hq:¬((i':Int)==(b:Int))=true:=by simp;omega
   simp only[evs,List.length_set,and_self,and_true,true_and,ne_eq,not_false_eq_true,Option.bind_some,decide_eq_true_eq,Bool.not_eq_true',decide_eq_false_iff_not,not_true_eq_false,Bool.not_true,Bool.not_false,Bool.false_eq_true,decide_true,decide_false,if_true,if_false,ge_iff_le,gt_iff_lt,c5,e1,hq,c,w2,c50]
 refine ⟨decide (i'=b), ?_,fun h=> ?_⟩
 ·simp only[evs,List.length_set,and_self,and_true,true_and,ne_eq,not_false_eq_true,Option.bind_some,decide_eq_true_eq,Bool.not_eq_true',decide_eq_false_iff_not,not_true_eq_false,Bool.not_true,Bool.not_false,Bool.false_eq_true,decide_true,decide_false,if_true,if_false,ge_iff_le,gt_iff_lt,w1,l0]
 ·have:=of_decide_eq_true h
  subst this
  exact Wsr.of_step e3
end Go.Ev.Zzj
namespace Go.Ev.Zzj
variable {n:Nat} {R:Nat→Row} {K:Nat→Int} {fc:C} {cm:Nat→Nat→Int}
theorem pa_l0 (hn:n≤big) (hc:Cm R K fc cm) (a j:Nat) (hj:j<n) (g:Nat→Nat):∀(d i:Nat),j+1 - i≤d→a<i→i≤j+1→
 ∃i':Nat,slices_partitionCmpFunc_2_api_Value_i16_l0 (lim T) (a:Int) fc (i:Int) (j:Int) (st R g n)=some (0,[.r [.int (a:Int)], .r [fc], .r [.int (i':Int)], .r [.int (j:Int)], .r (st R g n)])∧i≤i'∧i'≤j+1∧(∀q,i≤q→q<i'→K (g q)<K (g a))∧(i'≤j→¬K (g i')<K (g a))
 |d,i,hd,hi,hij=>by
  rw[slices_partitionCmpFunc_2_api_Value_i16_l0_eq];unfold slices_partitionCmpFunc_2_api_Value_i16_b0
  by_cases e:i≤j
  ·obtain ⟨d,rfl⟩:∃d',d=d'+1:=⟨d - 1,by omega⟩
   have w1:=wr_succ (i:=i) (by omega)
   have r1:i<n:=by omega
   have r2:a<n:=by omega
   have n1:¬i=n:=by omega
   have n2:¬a=n:=by omega
   by_cases h:cm (g i) (g a)<0
   ·obtain ⟨i',e1,e2,e3,e4,e5⟩:=pa_l0 hn hc a j hj g d (i+1) (by omega) (by omega) (by omega)
    refine ⟨i', ?_,by omega,e3,fun q h1 h2=> ?_,e5⟩
    ·simp only[evs,List.length_set,and_self,and_true,true_and,ne_eq,not_false_eq_true,Option.bind_some,decide_eq_true_eq,Bool.not_eq_true',decide_eq_false_iff_not,not_true_eq_false,Bool.not_true,Bool.not_false,Bool.false_eq_true,decide_true,decide_false,if_true,if_false,ge_iff_le,gt_iff_lt,e,w1,r1,r2,n1,n2,arr_at R _ n _ r1,arr_at R _ n _ r2,hc.call,h]
     exact e1
    ·by_cases c:q=i
     ·subst c;exact (hc.lt _ _).1 h
     ·exact e4 q (by omega) h2
   ·refine ⟨i, ?_,Nat.le_refl _,hij,fun q h1 h2=>by omega,fun _ h'=>h ((hc.lt _ _).2 h')⟩
    simp only[evs,List.length_set,and_self,and_true,true_and,ne_eq,not_false_eq_true,Option.bind_some,decide_eq_true_eq,Bool.not_eq_true',decide_eq_false_iff_not,not_true_eq_false,Bool.not_true,Bool.not_false,Bool.false_eq_true,decide_true,decide_false,if_true,if_false,ge_iff_le,gt_iff_lt,e,w1,r1,r2,n1,n2,arr_at R _ n _ r1,arr_at R _ n _ r2,hc.call,h]
  ·refine ⟨i, ?_,Nat.le_refl _,hij,fun q h1 h2=>by omega,fun h=>absurd h e⟩
   simp only[evs,List.length_set,and_self,and_true,true_and,ne_eq,not_false_eq_true,Option.bind_some,decide_eq_true_eq,Bool.not_eq_true',decide_eq_false_iff_not,not_true_eq_false,Bool.not_true,Bool.not_false,Bool.false_eq_true,decide_true,decide_false,if_true,if_false,ge_iff_le,gt_iff_lt,e]
theorem pa_l3 (hn:n≤big) (hc:Cm R K fc cm) (a j:Nat) (hj:j<n) (g:Nat→Nat):∀(d i:Nat),j+1 - i≤d→a<i→i≤j+1→
 ∃i':Nat,slices_partitionCmpFunc_2_api_Value_i16_l3 (lim T) (a:Int) fc (i:Int) (j:Int) (st R g n)=some (0,[.r [.int (a:Int)], .r [fc], .r [.int (i':Int)], .r [.int (j:Int)], .r (st R g n)])∧i≤i'∧i'≤j+1∧(∀q,i≤q→q<i'→K (g q)<K (g a))∧(i'≤j→¬K (g i')<K (g a))
 |d,i,hd,hi,hij=>by
  rw[slices_partitionCmpFunc_2_api_Value_i16_l3_eq];unfold slices_partitionCmpFunc_2_api_Value_i16_b3
  by_cases e:i≤j
  ·obtain ⟨d,rfl⟩:∃d',d=d'+1:=⟨d - 1,by omega⟩
   have w1:=wr_succ (i:=i) (by omega)
   have r1:i<n:=by omega
   have r2:a<n:=by omega
   have n1:¬i=n:=by omega
   have n2:¬a=n:=by omega
   by_cases h:cm (g i) (g a)<0
   ·obtain ⟨i',e1,e2,e3,e4,e5⟩:=pa_l3 hn hc a j hj g d (i+1) (by omega) (by omega) (by omega)
    refine ⟨i', ?_,by omega,e3,fun q h1 h2=> ?_,e5⟩
    ·simp only[evs,List.length_set,and_self,and_true,true_and,ne_eq,not_false_eq_true,Option.bind_some,decide_eq_true_eq,Bool.not_eq_true',decide_eq_false_iff_not,not_true_eq_false,Bool.not_true,Bool.not_false,Bool.false_eq_true,decide_true,decide_false,if_true,if_false,ge_iff_le,gt_iff_lt,e,w1,r1,r2,n1,n2,arr_at R _ n _ r1,arr_at R _ n _ r2,hc.call,h]
     exact e1
    ·by_cases c:q=i
     ·subst c;exact (hc.lt _ _).1 h
     ·exact e4 q (by omega) h2
   ·refine ⟨i, ?_,Nat.le_refl _,hij,fun q h1 h2=>by omega,fun _ h'=>h ((hc.lt _ _).2 h')⟩
    simp only[evs,List.length_set,and_self,and_true,true_and,ne_eq,not_false_eq_true,Option.bind_some,decide_eq_true_eq,Bool.not_eq_true',decide_eq_false_iff_not,not_true_eq_false,Bool.not_true,Bool.not_false,Bool.false_eq_true,decide_true,decide_false,if_true,if_false,ge_iff_le,gt_iff_lt,e,w1,r1,r2,n1,n2,arr_at R _ n _ r1,arr_at R _ n _ r2,hc.call,h]
  ·refine ⟨i, ?_,Nat.le_refl _,hij,fun q h1 h2=>by omega,fun h=>absurd h e⟩
   simp only[evs,List.length_set,and_self,and_true,true_and,ne_eq,not_false_eq_true,Option.bind_some,decide_eq_true_eq,Bool.not_eq_true',decide_eq_false_iff_not,not_true_eq_false,Bool.not_true,Bool.not_false,Bool.false_eq_true,decide_true,decide_false,if_true,if_false,ge_iff_le,gt_iff_lt,e]
theorem pa_l1 (hn:n≤big) (hc:Cm R K fc cm) (a i:Nat) (hi:a<i) (g:Nat→Nat):∀(j:Nat),i≤j+1→j<n→
 ∃j':Nat,slices_partitionCmpFunc_2_api_Value_i16_l1 (lim T) (a:Int) fc (i:Int) (j:Int) (st R g n)=some (0,[.r [.int (a:Int)], .r [fc], .r [.int (i:Int)], .r [.int (j':Int)], .r (st R g n)])∧j'≤j∧i≤j'+1∧(∀q,j'<q→q≤j→¬K (g q)<K (g a))∧(i≤j'→K (g j')<K (g a))
 |j,hij,hj=>by
  rw[slices_partitionCmpFunc_2_api_Value_i16_l1_eq];unfold slices_partitionCmpFunc_2_api_Value_i16_b1
  by_cases e:i≤j
  ·obtain ⟨k,rfl⟩:∃k,j=k+1:=⟨j - 1,by omega⟩
   have w1:=wr_pred (i:=k) (by omega)
   have r1:k+1<n:=by omega
   have r2:a<n:=by omega
   have n1:¬k+1=n:=by omega
   have n2:¬a=n:=by omega
   by_cases h:cm (g (k+1)) (g a)<0
   ·refine ⟨k+1, ?_,Nat.le_refl _,hij,fun q h1 h2=>by omega,fun _=>(hc.lt _ _).1 h⟩
    simp only[evs,List.length_set,and_self,and_true,true_and,ne_eq,not_false_eq_true,Option.bind_some,decide_eq_true_eq,Bool.not_eq_true',decide_eq_false_iff_not,not_true_eq_false,Bool.not_true,Bool.not_false,Bool.false_eq_true,decide_true,decide_false,if_true,if_false,ge_iff_le,gt_iff_lt,e,w1,r1,r2,n1,n2,arr_at R _ n _ r1,arr_at R _ n _ r2,hc.call,h]
   ·obtain ⟨j',e1,e2,e3,e4,e5⟩:=pa_l1 hn hc a i hi g k (by omega) (by omega)
    refine ⟨j', ?_,by omega,e3,fun q h1 h2=> ?_,e5⟩
    ·simp only[evs,List.length_set,and_self,and_true,true_and,ne_eq,not_false_eq_true,Option.bind_some,decide_eq_true_eq,Bool.not_eq_true',decide_eq_false_iff_not,not_true_eq_false,Bool.not_true,Bool.not_false,Bool.false_eq_true,decide_true,decide_false,if_true,if_false,ge_iff_le,gt_iff_lt,e,w1,r1,r2,n1,n2,arr_at R _ n _ r1,arr_at R _ n _ r2,hc.call,h]
     exact e1
    ·by_cases c:q=k+1
     ·subst c;exact fun h'=>h ((hc.lt _ _).2 h')
     ·exact e4 q h1 (by omega)
  ·refine ⟨j, ?_,Nat.le_refl _,hij,fun q h1 h2=>by omega,fun h=>absurd h e⟩
   simp only[evs,List.length_set,and_self,and_true,true_and,ne_eq,not_false_eq_true,Option.bind_some,decide_eq_true_eq,Bool.not_eq_true',decide_eq_false_iff_not,not_true_eq_false,Bool.not_true,Bool.not_false,Bool.false_eq_true,decide_true,decide_false,if_true,if_false,ge_iff_le,gt_iff_lt,e]
theorem pa_l4 (hn:n≤big) (hc:Cm R K fc cm) (a i:Nat) (hi:a<i) (g:Nat→Nat):∀(j:Nat),i≤j+1→j<n→
 ∃j':Nat,slices_partitionCmpFunc_2_api_Value_i16_l4 (lim T) (a:Int) fc (i:Int) (j:Int) (st R g n)=some (0,[.r [.int (a:Int)], .r [fc], .r [.int (i:Int)], .r [.int (j':Int)], .r (st R g n)])∧j'≤j∧i≤j'+1∧(∀q,j'<q→q≤j→¬K (g q)<K (g a))∧(i≤j'→K (g j')<K (g a))
 |j,hij,hj=>by
  rw[slices_partitionCmpFunc_2_api_Value_i16_l4_eq];unfold slices_partitionCmpFunc_2_api_Value_i16_b4
  by_cases e:i≤j
  ·obtain ⟨k,rfl⟩:∃k,j=k+1:=⟨j - 1,by omega⟩
   have w1:=wr_pred (i:=k) (by omega)
   have r1:k+1<n:=by omega
   have r2:a<n:=by omega
   have n1:¬k+1=n:=by omega
   have n2:¬a=n:=by omega
   by_cases h:cm (g (k+1)) (g a)<0
   ·refine ⟨k+1, ?_,Nat.le_refl _,hij,fun q h1 h2=>by omega,fun _=>(hc.lt _ _).1 h⟩
    simp only[evs,List.length_set,and_self,and_true,true_and,ne_eq,not_false_eq_true,Option.bind_some,decide_eq_true_eq,Bool.not_eq_true',decide_eq_false_iff_not,not_true_eq_false,Bool.not_true,Bool.not_false,Bool.false_eq_true,decide_true,decide_false,if_true,if_false,ge_iff_le,gt_iff_lt,e,w1,r1,r2,n1,n2,arr_at R _ n _ r1,arr_at R _ n _ r2,hc.call,h]
   ·obtain ⟨j',e1,e2,e3,e4,e5⟩:=pa_l4 hn hc a i hi g k (by omega) (by omega)
    refine ⟨j', ?_,by omega,e3,fun q h1 h2=> ?_,e5⟩
    ·simp only[evs,List.length_set,and_self,and_true,true_and,ne_eq,not_false_eq_true,Option.bind_some,decide_eq_true_eq,Bool.not_eq_true',decide_eq_false_iff_not,not_true_eq_false,Bool.not_true,Bool.not_false,Bool.false_eq_true,decide_true,decide_false,if_true,if_false,ge_iff_le,gt_iff_lt,e,w1,r1,r2,n1,n2,arr_at R _ n _ r1,arr_at R _ n _ r2,hc.call,h]
     exact e1
    ·by_cases c:q=k+1
     ·subst c;exact fun h'=>h ((hc.lt _ _).2 h')
     ·exact e4 q h1 (by omega)
  ·refine ⟨j, ?_,Nat.le_refl _,hij,fun q h1 h2=>by omega,fun h=>absurd h e⟩
   simp only[evs,List.length_set,and_self,and_true,true_and,ne_eq,not_false_eq_true,Option.bind_some,decide_eq_true_eq,Bool.not_eq_true',decide_eq_false_iff_not,not_true_eq_false,Bool.not_true,Bool.not_false,Bool.false_eq_true,decide_true,decide_false,if_true,if_false,ge_iff_le,gt_iff_lt,e]
theorem pa_l2 (hn:n≤big) (hc:Cm R K fc cm) (a b:Nat) (hb:b≤n):∀(d i j:Nat) (g:Nat→Nat),j+1 - i≤d→a<i→i≤j+1→j<b→(∀q,a<q→q<i→K (g q)<K (g a))→(∀q,j<q→q<b→¬K (g q)<K (g a))→
 ∃(j':Nat) (g':Nat→Nat),slices_partitionCmpFunc_2_api_Value_i16_l2 (lim T) (a:Int) fc (i:Int) (j:Int) (st R g n)=some (0,[.r [.int (a:Int)], .r [.int (j':Int)], .r (st R g' n)])∧a≤j'∧j'<b∧Sub g' g (a+1) b∧(∀q,a<q→q≤j'→K (g' q)<K (g' a))∧(∀q,j'<q→q<b→¬K (g' q)<K (g' a))
 |d,i,j,g,hd,hi,hij,hj,s1,s2=>by
  rw[slices_partitionCmpFunc_2_api_Value_i16_l2_eq];unfold slices_partitionCmpFunc_2_api_Value_i16_b2
  obtain ⟨i',e1,e2,e3,e4,e5⟩:=pa_l3 hn hc a j (by omega) g _ i (Nat.le_refl _) hi hij
  obtain ⟨j',f1,f2,f3,f4,f5⟩:=pa_l4 hn hc a i' (by omega) g j e3 (by omega)
  have t1:∀q,a<q→q<i'→K (g q)<K (g a):=fun q h1 h2=>by
   by_cases c:q<i
   ·exact s1 q h1 c
   ·exact e4 q (by omega) h2
  have t2:∀q,j'<q→q<b→¬K (g q)<K (g a):=fun q h1 h2=>by
   by_cases c:q≤j
   ·exact f4 q h1 c
   ·exact s2 q (by omega) h2
  by_cases e:j'<i'
  ·refine ⟨j',g, ?_,by omega,by omega,Sub.refl _ _ _,fun q h1 h2=>t1 q h1 (by omega),t2⟩
   simp only[evs,List.length_set,and_self,and_true,true_and,ne_eq,not_false_eq_true,Option.bind_some,decide_eq_true_eq,Bool.not_eq_true',decide_eq_false_iff_not,not_true_eq_false,Bool.not_true,Bool.not_false,Bool.false_eq_true,decide_true,decide_false,if_true,if_false,ge_iff_le,gt_iff_lt,e1,f1,e]
  ·have hne:i'≠j':=fun h=>by
    have a1:=e5 (by omega)
    have a2:=f5 (by omega)
    rw[h]at a1;exact a1 a2
   obtain ⟨d,rfl⟩:∃d',d=d'+1:=⟨d - 1,by omega⟩
   obtain ⟨k,rfl⟩:∃k,j'=k+1:=⟨j' - 1,by omega⟩
   have k1:=e5 (by omega)
   have k2:=f5 (by omega)
   have w1:=wr_succ (i:=i') (by omega)
   have w2:=wr_pred (i:=k) (by omega)
   have r1:i'<n:=by omega
   have r2:k+1<n:=by omega
   have n1:¬i'=n:=by omega
   have n2:¬k+1=n:=by omega
   have va:swp g i' (k+1) a=g a:=by simp only[swp];rw[if_neg (by omega),if_neg (by omega)]
   obtain ⟨m,g',x1,x2,x3,x4,x5,x6⟩:=pa_l2 hn hc a b hb d (i'+1) k (swp g i' (k+1)) (by omega) (by omega) (by omega) (by omega)
    (fun q h1 h2=>by
      rw[va];simp only[swp]
      by_cases c:q=i'
      ·rw[if_neg (by omega),if_pos c];exact k2
      ·rw[if_neg (by omega),if_neg c];exact t1 q h1 (by omega))
    (fun q h1 h2=>by
      rw[va];simp only[swp]
      by_cases c:q=k+1
      ·rw[if_pos c];exact k1
      ·rw[if_neg c,if_neg (by omega)];exact t2 q (by omega) h2)
   refine ⟨m,g', ?_,x2,x3,x4.trans (swp_sub g (by omega) (by omega) (by omega) (by omega)),x5,x6⟩
   simp only[evs,List.length_set,and_self,and_true,true_and,ne_eq,not_false_eq_true,Option.bind_some,decide_eq_true_eq,Bool.not_eq_true',decide_eq_false_iff_not,not_true_eq_false,Bool.not_true,Bool.not_false,Bool.false_eq_true,decide_true,decide_false,if_true,if_false,ge_iff_le,gt_iff_lt,e1,f1,e,w1,w2,r1,r2,n1,n2,arr_at R _ n _ r1,arr_at R _ n _ r2,arr_set]
   exact x1
theorem pa_fin {g2:Nat→Nat} {a m b:Nat} (h1:a≤m) (h2:m<b) (x5:∀q,a<q→q≤m→K (g2 q)<K (g2 a)) (x6:∀q,m<q→q<b→¬K (g2 q)<K (g2 a)):
 (∀q,a≤q→q<m→K (swp g2 m a q)<K (swp g2 m a m))∧(∀q,m<q→q<b→¬K (swp g2 m a q)<K (swp g2 m a m)):=by
 have vm:swp g2 m a m=g2 a:=by
  simp only[swp]
  by_cases c:m=a
  ·rw[if_pos c,c]
  ·rw[if_neg c,if_pos trivial]
 rw[vm]
 refine ⟨fun q k1 k2=> ?_,fun q k1 k2=> ?_⟩
 ·simp only[swp]
  by_cases c:q=a
  ·rw[if_pos c];exact x5 m (by omega) (Nat.le_refl _)
  ·rw[if_neg c,if_neg (by omega)];exact x5 q (by omega) (by omega)
 ·simp only[swp]
  rw[if_neg (by omega),if_neg (by omega)];exact x6 q k1 k2
theorem pa_ic (hn:n≤big) (hc:Cm R K fc cm) (a b p:Nat) (hap:a≤p) (hpb:p<b) (hb:b≤n) (g:Nat→Nat):
 ∃(m:Nat) (r:Bool) (g':Nat→Nat),(lim T).ic slices_partitionCmpFunc_2_api_Value_i16_n [.r [.int (a:Int)], .r [.int (b:Int)], .r [.int (p:Int)], .r [fc], .r (st R g n)]=some [.r [.int (m:Int)], .r [.bool r], .r (st R g' n)]∧a≤m∧m<b∧Sub g' g a b∧(∀q,a≤q→q<m→K (g' q)<K (g' m))∧(∀q,m<q→q<b→¬K (g' q)<K (g' m)):=by
 rw[slices_partitionCmpFunc_2_api_Value_i16_ic];unfold slices_partitionCmpFunc_2_api_Value_i16
 obtain ⟨k,rfl⟩:∃k,b=k+1:=⟨b - 1,by omega⟩
 have w1:=wr_succ (i:=a) (by omega)
 have w2:=wr_pred (i:=k) (by omega)
 have r1:a<n:=by omega
 have r2:p<n:=by omega
 have n1:¬a=n:=by omega
 have n2:¬p=n:=by omega
 have s0:=swp_sub g (i:=a) (j:=p) (a:=a) (b:=k+1) (by omega) (by omega) hap hpb
 obtain ⟨i,e1,e2,e3,e4,e5⟩:=pa_l0 (R:=R) hn hc a k (by omega) (swp g a p) _ (a+1) (Nat.le_refl _) (by omega) (by omega)
 obtain ⟨j,f1,f2,f3,f4,f5⟩:=pa_l1 (R:=R) hn hc a i (by omega) (swp g a p) k e3 (by omega)
 have rj:j<n:=by omega
 have nj:¬j=n:=by omega
 by_cases c:j<i
 ·obtain ⟨z1,z2⟩:=pa_fin (K:=K) (g2:=swp g a p) (a:=a) (m:=j) (b:=k+1) (by omega) (by omega) (fun q h1 h2=>e4 q (by omega) (by omega)) (fun q h1 h2=>f4 q h1 (by omega))
  refine ⟨j,true,swp (swp g a p) j a, ?_,by omega,by omega,(swp_sub _ (by omega) (by omega) (by omega) (by omega)).trans s0,z1,z2⟩
  simp only[evs,List.length_set,and_self,and_true,true_and,ne_eq,not_false_eq_true,Option.bind_some,decide_eq_true_eq,Bool.not_eq_true',decide_eq_false_iff_not,not_true_eq_false,Bool.not_true,Bool.not_false,Bool.false_eq_true,decide_true,decide_false,if_true,if_false,ge_iff_le,gt_iff_lt,w1,w2,r1,r2,n1,n2,arr_at R _ n _ r1,arr_at R _ n _ r2,arr_set,e1,f1,c,rj,nj,arr_at R _ n _ rj]
 ·have hne:i≠j:=fun h=>by
   have a1:=e5 (by omega)
   have a2:=f5 (by omega)
   rw[h]at a1;exact a1 a2
  obtain ⟨j,rfl⟩:∃j',j=j'+1:=⟨j - 1,by omega⟩
  have k1:=e5 (by omega)
  have k2:=f5 (by omega)
  have ri:i<n:=by omega
  have ni:¬i=n:=by omega
  have w3:=wr_succ (i:=i) (by omega)
  have w4:=wr_pred (i:=j) (by omega)
  have va:swp (swp g a p) i (j+1) a=swp g a p a:=by rw[swp,if_neg (by omega),if_neg (by omega)]
  obtain ⟨m,g',x1,x2,x3,x4,x5,x6⟩:=pa_l2 (R:=R) hn hc a (k+1) hb _ (i+1) j (swp (swp g a p) i (j+1)) (Nat.le_refl _) (by omega) (by omega) (by omega)
   (fun q h1 h2=>by
     rw[va]
     by_cases c:q=i
     ·rw[c,swp,if_neg (by omega),if_pos rfl];exact k2
     ·rw[swp,if_neg (by omega),if_neg c];exact e4 q (by omega) (by omega))
   (fun q h1 h2=>by
     rw[va]
     by_cases c:q=j+1
     ·rw[c,swp,if_pos rfl];exact k1
     ·rw[swp,if_neg c,if_neg (by omega)];exact f4 q (by omega) (by omega))
  have rm:m<n:=by omega
  have nm:¬m=n:=by omega
  obtain ⟨z1,z2⟩:=pa_fin (K:=K) x2 x3 x5 x6
  refine ⟨m,false,swp g' m a, ?_,x2,x3,(swp_sub _ (by omega) (by omega) (by omega) (by omega)).trans ((x4.mono (by omega) (Nat.le_refl _)).trans ((swp_sub _ (by omega) (by omega) (by omega) (by omega)).trans s0)),z1,z2⟩
  simp only[evs,List.length_set,and_self,and_true,true_and,ne_eq,not_false_eq_true,Option.bind_some,decide_eq_true_eq,Bool.not_eq_true',decide_eq_false_iff_not,not_true_eq_false,Bool.not_true,Bool.not_false,Bool.false_eq_true,decide_true,decide_false,if_true,if_false,ge_iff_le,gt_iff_lt,w1,w2,w3,w4,r1,r2,n1,n2,arr_at R _ n _ r1,arr_at R _ n _ r2,arr_set,e1,f1,c,rj,nj,arr_at R _ n _ rj,ri,ni,arr_at R _ n _ ri,x1,rm,nm,arr_at R _ n _ rm]
theorem pe_l1 (hn:n≤big) (hc:Cm R K fc cm) (a j:Nat) (hj:j<n) (g:Nat→Nat):∀(d i:Nat),j+1 - i≤d→a<i→i≤j+1→
 ∃i':Nat,slices_partitionEqualCmpFunc_2_api_Value_i15_l1 (lim T) (a:Int) fc (i:Int) (j:Int) (st R g n)=some (0,[.r [.int (a:Int)], .r [fc], .r [.int (i':Int)], .r [.int (j:Int)], .r (st R g n)])∧i≤i'∧i'≤j+1∧(∀q,i≤q→q<i'→¬K (g a)<K (g q))∧(i'≤j→K (g a)<K (g i'))
 |d,i,hd,hi,hij=>by
  rw[slices_partitionEqualCmpFunc_2_api_Value_i15_l1_eq];unfold slices_partitionEqualCmpFunc_2_api_Value_i15_b1
  by_cases e:i≤j
  ·obtain ⟨d,rfl⟩:∃d',d=d'+1:=⟨d - 1,by omega⟩
   have w1:=wr_succ (i:=i) (by omega)
   have r1:i<n:=by omega
   have r2:a<n:=by omega
   have n1:¬i=n:=by omega
   have n2:¬a=n:=by omega
   by_cases h:cm (g a) (g i)<0
   ·refine ⟨i, ?_,Nat.le_refl _,hij,fun q h1 h2=>by omega,fun _=>(hc.lt _ _).1 h⟩
    simp only[evs,List.length_set,and_self,and_true,true_and,ne_eq,not_false_eq_true,Option.bind_some,decide_eq_true_eq,Bool.not_eq_true',decide_eq_false_iff_not,not_true_eq_false,Bool.not_true,Bool.not_false,Bool.false_eq_true,decide_true,decide_false,if_true,if_false,ge_iff_le,gt_iff_lt,e,w1,r1,r2,n1,n2,arr_at R _ n _ r1,arr_at R _ n _ r2,hc.call,h]
   ·obtain ⟨i',e1,e2,e3,e4,e5⟩:=pe_l1 hn hc a j hj g d (i+1) (by omega) (by omega) (by omega)
    refine ⟨i', ?_,by omega,e3,fun q h1 h2=> ?_,e5⟩
    ·simp only[evs,List.length_set,and_self,and_true,true_and,ne_eq,not_false_eq_true,Option.bind_some,decide_eq_true_eq,Bool.not_eq_true',decide_eq_false_iff_not,not_true_eq_false,Bool.not_true,Bool.not_false,Bool.false_eq_true,decide_true,decide_false,if_true,if_false,ge_iff_le,gt_iff_lt,e,w1,r1,r2,n1,n2,arr_at R _ n _ r1,arr_at R _ n _ r2,hc.call,h]
     exact e1
    ·by_cases c:q=i
     ·subst c;exact fun h'=>h ((hc.lt _ _).2 h')
     ·exact e4 q (by omega) h2
  ·refine ⟨i, ?_,Nat.le_refl _,hij,fun q h1 h2=>by omega,fun h=>absurd h e⟩
   simp only[evs,List.length_set,and_self,and_true,true_and,ne_eq,not_false_eq_true,Option.bind_some,decide_eq_true_eq,Bool.not_eq_true',decide_eq_false_iff_not,not_true_eq_false,Bool.not_true,Bool.not_false,Bool.false_eq_true,decide_true,decide_false,if_true,if_false,ge_iff_le,gt_iff_lt,e]
theorem pe_l2 (hn:n≤big) (hc:Cm R K fc cm) (a i:Nat) (hi:a<i) (g:Nat→Nat):∀(j:Nat),i≤j+1→j<n→
 ∃j':Nat,slices_partitionEqualCmpFunc_2_api_Value_i15_l2 (lim T) (a:Int) fc (i:Int) (j:Int) (st R g n)=some (0,[.r [.int (a:Int)], .r [fc], .r [.int (i:Int)], .r [.int (j':Int)], .r (st R g n)])∧j'≤j∧i≤j'+1∧(∀q,j'<q→q≤j→K (g a)<K (g q))∧(i≤j'→¬K (g a)<K (g j'))
 |j,hij,hj=>by
  rw[slices_partitionEqualCmpFunc_2_api_Value_i15_l2_eq];unfold slices_partitionEqualCmpFunc_2_api_Value_i15_b2
  by_cases e:i≤j
  ·obtain ⟨k,rfl⟩:∃k,j=k+1:=⟨j - 1,by omega⟩
   have w1:=wr_pred (i:=k) (by omega)
   have r1:k+1<n:=by omega
   have r2:a<n:=by omega
   have n1:¬k+1=n:=by omega
   have n2:¬a=n:=by omega
   by_cases h:cm (g a) (g (k+1))<0
   ·obtain ⟨j',e1,e2,e3,e4,e5⟩:=pe_l2 hn hc a i hi g k (by omega) (by omega)
    refine ⟨j', ?_,by omega,e3,fun q h1 h2=> ?_,e5⟩
    ·simp only[evs,List.length_set,and_self,and_true,true_and,ne_eq,not_false_eq_true,Option.bind_some,decide_eq_true_eq,Bool.not_eq_true',decide_eq_false_iff_not,not_true_eq_false,Bool.not_true,Bool.not_false,Bool.false_eq_true,decide_true,decide_false,if_true,if_false,ge_iff_le,gt_iff_lt,e,w1,r1,r2,n1,n2,arr_at R _ n _ r1,arr_at R _ n _ r2,hc.call,h]
     exact e1
    ·by_cases c:q=k+1
     ·subst c;exact (hc.lt _ _).1 h
     ·exact e4 q h1 (by omega)
   ·refine ⟨k+1, ?_,Nat.le_refl _,hij,fun q h1 h2=>by omega,fun _ h'=>h ((hc.lt _ _).2 h')⟩
    simp only[evs,List.length_set,and_self,and_true,true_and,ne_eq,not_false_eq_true,Option.bind_some,decide_eq_true_eq,Bool.not_eq_true',decide_eq_false_iff_not,not_true_eq_false,Bool.not_true,Bool.not_false,Bool.false_eq_true,decide_true,decide_false,if_true,if_false,ge_iff_le,gt_iff_lt,e,w1,r1,r2,n1,n2,arr_at R _ n _ r1,arr_at R _ n _ r2,hc.call,h]
  ·refine ⟨j, ?_,Nat.le_refl _,hij,fun q h1 h2=>by omega,fun h=>absurd h e⟩
   simp only[evs,List.length_set,and_self,and_true,true_and,ne_eq,not_false_eq_true,Option.bind_some,decide_eq_true_eq,Bool.not_eq_true',decide_eq_false_iff_not,not_true_eq_false,Bool.not_true,Bool.not_false,Bool.false_eq_true,decide_true,decide_false,if_true,if_false,ge_iff_le,gt_iff_lt,e]
theorem pe_l0 (hn:n≤big) (hc:Cm R K fc cm) (a b:Nat) (hb:b≤n):∀(d i j:Nat) (g:Nat→Nat),j+1 - i≤d→a<i→i≤j+1→j<b→(∀q,a<q→q<i→¬K (g a)<K (g q))→(∀q,j<q→q<b→K (g a)<K (g q))→
 ∃(i':Nat) (g':Nat→Nat),slices_partitionEqualCmpFunc_2_api_Value_i15_l0 (lim T) (a:Int) fc (i:Int) (j:Int) (st R g n)=some (0,[.r [.int (i':Int)], .r (st R g' n)])∧a<i'∧i'≤b∧Sub g' g (a+1) b∧(∀q,a<q→q<i'→¬K (g' a)<K (g' q))∧(∀q,i'≤q→q<b→K (g' a)<K (g' q))
 |d,i,j,g,hd,hi,hij,hj,s1,s2=>by
  rw[slices_partitionEqualCmpFunc_2_api_Value_i15_l0_eq];unfold slices_partitionEqualCmpFunc_2_api_Value_i15_b0
  obtain ⟨i',e1,e2,e3,e4,e5⟩:=pe_l1 hn hc a j (by omega) g _ i (Nat.le_refl _) hi hij
  obtain ⟨j',f1,f2,f3,f4,f5⟩:=pe_l2 hn hc a i' (by omega) g j e3 (by omega)
  have t1:∀q,a<q→q<i'→¬K (g a)<K (g q):=fun q h1 h2=>by
   by_cases c:q<i
   ·exact s1 q h1 c
   ·exact e4 q (by omega) h2
  have t2:∀q,j'<q→q<b→K (g a)<K (g q):=fun q h1 h2=>by
   by_cases c:q≤j
   ·exact f4 q h1 c
   ·exact s2 q (by omega) h2
  by_cases e:j'<i'
  ·refine ⟨i',g, ?_,by omega,by omega,Sub.refl _ _ _,t1,fun q h1 h2=>t2 q (by omega) h2⟩
   simp only[evs,List.length_set,and_self,and_true,true_and,ne_eq,not_false_eq_true,Option.bind_some,decide_eq_true_eq,Bool.not_eq_true',decide_eq_false_iff_not,not_true_eq_false,Bool.not_true,Bool.not_false,Bool.false_eq_true,decide_true,decide_false,if_true,if_false,ge_iff_le,gt_iff_lt,e1,f1,e]
  ·have hne:i'≠j':=fun h=>by
    have a1:=e5 (by omega)
    have a2:=f5 (by omega)
    rw[h]at a1;exact a2 a1
   obtain ⟨d,rfl⟩:∃d',d=d'+1:=⟨d - 1,by omega⟩
   obtain ⟨k,rfl⟩:∃k,j'=k+1:=⟨j' - 1,by omega⟩
   have k1:=e5 (by omega)
   have k2:=f5 (by omega)
   have w1:=wr_succ (i:=i') (by omega)
   have w2:=wr_pred (i:=k) (by omega)
   have r1:i'<n:=by omega
   have r2:k+1<n:=by omega
   have n1:¬i'=n:=by omega
   have n2:¬k+1=n:=by omega
   have va:swp g i' (k+1) a=g a:=by simp only[swp];rw[if_neg (by omega),if_neg (by omega)]
   obtain ⟨m,g',x1,x2,x3,x4,x5,x6⟩:=pe_l0 hn hc a b hb d (i'+1) k (swp g i' (k+1)) (by omega) (by omega) (by omega) (by omega)
    (fun q h1 h2=>by
      rw[va];simp only[swp]
      by_cases c:q=i'
      ·rw[if_neg (by omega),if_pos c];exact k2
      ·rw[if_neg (by omega),if_neg c];exact t1 q h1 (by omega))
    (fun q h1 h2=>by
      rw[va];simp only[swp]
      by_cases c:q=k+1
      ·rw[if_pos c];exact k1
      ·rw[if_neg c,if_neg (by omega)];exact t2 q (by omega) h2)
   refine ⟨m,g', ?_,x2,x3,x4.trans (swp_sub g (by omega) (by omega) (by omega) (by omega)),x5,x6⟩
   simp only[evs,List.length_set,and_self,and_true,true_and,ne_eq,not_false_eq_true,Option.bind_some,decide_eq_true_eq,Bool.not_eq_true',decide_eq_false_iff_not,not_true_eq_false,Bool.not_true,Bool.not_false,Bool.false_eq_true,decide_true,decide_false,if_true,if_false,ge_iff_le,gt_iff_lt,e1,f1,e,w1,w2,r1,r2,n1,n2,arr_at R _ n _ r1,arr_at R _ n _ r2,arr_set]
   exact x1
theorem pe_ic (hn:n≤big) (hc:Cm R K fc cm) (a b p:Nat) (hap:a≤p) (hpb:p<b) (hb:b≤n) (g:Nat→Nat):
 ∃(m:Nat) (g':Nat→Nat),(lim T).ic slices_partitionEqualCmpFunc_2_api_Value_i15_n [.r [.int (a:Int)], .r [.int (b:Int)], .r [.int (p:Int)], .r [fc], .r (st R g n)]=some [.r [.int (m:Int)], .r (st R g' n)]∧a<m∧m≤b∧Sub g' g a b∧(∀q,a≤q→q<m→K (g' q)≤K (g p))∧(∀q,m≤q→q<b→K (g p)<K (g' q)):=by
 rw[slices_partitionEqualCmpFunc_2_api_Value_i15_ic];unfold slices_partitionEqualCmpFunc_2_api_Value_i15
 obtain ⟨k,rfl⟩:∃k,b=k+1:=⟨b - 1,by omega⟩
 have w1:=wr_succ (i:=a) (by omega)
 have w2:=wr_pred (i:=k) (by omega)
 have r1:a<n:=by omega
 have r2:p<n:=by omega
 have n1:¬a=n:=by omega
 have n2:¬p=n:=by omega
 have s0:=swp_sub g (i:=a) (j:=p) (a:=a) (b:=k+1) (by omega) (by omega) hap hpb
 have va:swp g a p a=g p:=by
  simp only[swp]
  by_cases c:a=p
  ·rw[if_pos c,c]
  ·rw[if_neg c,if_pos trivial]
 obtain ⟨m,g',x1,x2,x3,x4,x5,x6⟩:=pe_l0 (R:=R) hn hc a (k+1) hb _ (a+1) k (swp g a p) (Nat.le_refl _) (by omega) (by omega) (by omega) (fun q h1 h2=>by omega) (fun q h1 h2=>by omega)
 have vg:g' a=g p:=by rw[x4.out a (.inl (by omega)),va]
 rw[vg]at x5 x6
 refine ⟨m,g', ?_,x2,x3,(x4.mono (by omega) (Nat.le_refl _)).trans s0,fun q h1 h2=> ?_,x6⟩
 ·simp only[evs,List.length_set,and_self,and_true,true_and,ne_eq,not_false_eq_true,Option.bind_some,decide_eq_true_eq,Bool.not_eq_true',decide_eq_false_iff_not,not_true_eq_false,Bool.not_true,Bool.not_false,Bool.false_eq_true,decide_true,decide_false,if_true,if_false,ge_iff_le,gt_iff_lt,w1,w2,r1,r2,n1,n2,arr_at R _ n _ r1,arr_at R _ n _ r2,arr_set,x1]
 ·by_cases c:q=a
  ·rw[c,vg];exact Int.le_refl _
  ·have:=x5 q (by omega) h2;omega
end Go.Ev.Zzj
namespace Go.Ev.Zzj
variable {n:Nat} {R:Nat→Row} {K:Nat→Int} {fc:C} {cm:Nat→Nat→Int}
def Heap (K:Nat→Int) (g:Nat→Nat) (f lo hi:Nat):Prop:=∀r,lo≤r→(2*r+1<hi→K (g (f+(2*r+1)))≤K (g (f+r)))∧(2*r+2<hi→K (g (f+(2*r+2)))≤K (g (f+r)))
structure Hole (K:Nat→Int) (g:Nat→Nat) (f lo hi x:Nat):Prop where
 rest:∀r,lo≤r→r≠x→(2*r+1<hi→K (g (f+(2*r+1)))≤K (g (f+r)))∧(2*r+2<hi→K (g (f+(2*r+2)))≤K (g (f+r)))
 up:∀r,lo≤r→(x=2*r+1∨x=2*r+2)→(2*x+1<hi→K (g (f+(2*x+1)))≤K (g (f+r)))∧(2*x+2<hi→K (g (f+(2*x+2)))≤K (g (f+r)))
theorem hole_step {g:Nat→Nat} {f lo hi x c:Nat} (h:Hole K g f lo hi x) (hx:lo≤x) (hc:c=2*x+1∨c=2*x+2) (hch:c<hi) (hmax:(2*x+1<hi→K (g (f+(2*x+1)))≤K (g (f+c)))∧(2*x+2<hi→K (g (f+(2*x+2)))≤K (g (f+c)))) (hlt:K (g (f+x))<K (g (f+c))):
 Hole K (swp g (f+x) (f+c)) f lo hi c:=by
 have vc:swp g (f+x) (f+c) (f+c)=g (f+x):=by simp[swp]
 have vx:swp g (f+x) (f+c) (f+x)=g (f+c):=by rw[swp,if_neg (by omega),if_pos rfl]
 have vo:∀q,q≠x→q≠c→swp g (f+x) (f+c) (f+q)=g (f+q):=fun q h1 h2=>by rw[swp,if_neg (by omega),if_neg (by omega)]
 refine ⟨fun r hr hne=> ?_,fun r hr hcr=> ?_⟩
 ·by_cases e:r=x
  ·subst e
   rw[vx]
   refine ⟨fun k=> ?_,fun k=> ?_⟩
   ·by_cases e2:c=2*r+1
    ·rw[←e2,vc];omega
    ·rw[vo _ (by omega) (by omega)];exact hmax.1 k
   ·by_cases e2:c=2*r+2
    ·rw[←e2,vc];omega
    ·rw[vo _ (by omega) (by omega)];exact hmax.2 k
  ·have hrest:=h.rest r hr e
   rw[vo r e hne]
   refine ⟨fun k=> ?_,fun k=> ?_⟩
   ·by_cases e2:x=2*r+1
    ·have:=(h.up r hr (.inl e2))
     rw[←e2,vx]
     rcases hc with hc |hc
     ·rw[hc];exact this.1 (by omega)
     ·rw[hc];exact this.2 (by omega)
    ·rw[vo _ (by omega) (by omega)];exact hrest.1 k
   ·by_cases e2:x=2*r+2
    ·have:=(h.up r hr (.inr e2))
     rw[←e2,vx]
     rcases hc with hc |hc
     ·rw[hc];exact this.1 (by omega)
     ·rw[hc];exact this.2 (by omega)
    ·rw[vo _ (by omega) (by omega)];exact hrest.2 k
 ·obtain rfl:r=x:=by omega
  have hr2:=h.rest c (by omega) (by omega)
  rw[vx,vo _ (by omega) (by omega),vo _ (by omega) (by omega)]
  exact hr2
theorem sd_l0 (hn:n≤big) (hc:Cm R K fc cm) (f lo hi:Nat) (hf:f+hi≤n):∀(d x:Nat) (g:Nat→Nat),hi - x≤d→lo≤x→x≤n→Hole K g f lo hi x→
 ∃(g':Nat→Nat) (z:Nat),slices_siftDownCmpFunc_2_api_Value_i7_l0 (lim T) (hi:Int) (f:Int) fc (x:Int) (st R g n)=some (z,[.r (st R g' n)])∧Sub g' g (f+lo) (f+hi)∧Heap K g' f lo hi
 |d,x,g,hd,hx,hxn,hh=>by
  rw[slices_siftDownCmpFunc_2_api_Value_i7_l0_eq];unfold slices_siftDownCmpFunc_2_api_Value_i7_b0
  have w1:IntKind.wrap .i64 (2*(x:Int))=((2*x:Nat):Int):=by unfold big at hn;rw[wrapZ (by omega) (by omega)];omega
  have w2:IntKind.wrap .i64 (((2*x:Nat):Int)+1)=((2*x+1:Nat):Int):=by unfold big at hn;rw[wrapZ (by omega) (by omega)];omega
  rw[w1,w2]
  by_cases e:hi≤2*x+1
  ·refine ⟨g,0,by simp only[evs,List.length_set,and_self,and_true,true_and,ne_eq,not_false_eq_true,Option.bind_some,decide_eq_true_eq,Bool.not_eq_true',decide_eq_false_iff_not,not_true_eq_false,Bool.not_true,Bool.not_false,Bool.false_eq_true,decide_true,decide_false,if_true,if_false,ge_iff_le,gt_iff_lt,e],Sub.refl _ _ _,fun r hr=> ?_⟩
   by_cases c:r=x
   ·subst c;exact ⟨fun k=>by omega,fun k=>by omega⟩
   ·exact hh.rest r hr c
  ·have w3:IntKind.wrap .i64 (((2*x+1:Nat):Int)+1)=((2*x+1+1:Nat):Int):=wr_succ (by omega)
   have u1:=wr_add (i:=f) (j:=2*x+1) (by omega) (by omega)
   have u1':IntKind.wrap .i64 (((f+(2*x+1):Nat):Int)+1)=((f+(2*x+1)+1:Nat):Int):=wr_succ (by omega)
   have u0:=wr_add (i:=f) (j:=x) (by omega) (by omega)
   have r0:f+x<n:=by omega
   have n0:¬f+x=n:=by omega
   have r1:f+(2*x+1)<n:=by omega
   have n1:¬f+(2*x+1)=n:=by omega
   have tail:∀c:Nat,(c=2*x+1∨c=2*x+2)→c<hi→((2*x+1<hi→K (g (f+(2*x+1)))≤K (g (f+c)))∧(2*x+2<hi→K (g (f+(2*x+2)))≤K (g (f+c))))→
    (cm (g (f+x)) (g (f+c))<0→∃(g':Nat→Nat) (z:Nat),slices_siftDownCmpFunc_2_api_Value_i7_l0 (lim T) (hi:Int) (f:Int) fc (c:Int) (st R (swp g (f+x) (f+c)) n)=some (z,[.r (st R g' n)])∧Sub g' g (f+lo) (f+hi)∧Heap K g' f lo hi)∧(¬cm (g (f+x)) (g (f+c))<0→Heap K g f lo hi):=fun c k1 k2 k3=>by
    refine ⟨fun h=> ?_,fun h=> ?_⟩
    ·obtain ⟨d,rfl⟩:∃d',d=d'+1:=⟨d - 1,by omega⟩
     obtain ⟨g',z,e1,e2,e3⟩:=sd_l0 hn hc f lo hi hf d c (swp g (f+x) (f+c)) (by omega) (by omega) (by omega) (hole_step hh hx k1 k2 k3 ((hc.lt _ _).1 h))
     exact ⟨g',z,e1,e2.trans (swp_sub g (by omega) (by omega) (by omega) (by omega)),e3⟩
    ·have hk:¬K (g (f+x))<K (g (f+c)):=fun h'=>h ((hc.lt _ _).2 h')
     intro r hr
     by_cases e:r=x
     ·subst e;exact ⟨fun k=>by have:=k3.1 k;omega,fun k=>by have:=k3.2 k;omega⟩
     ·exact hh.rest r hr e
   by_cases e2:2*x+1+1<hi
   ·have r2:f+(2*x+1)+1<n:=by omega
    have n2:¬f+(2*x+1)+1=n:=by omega
    by_cases h:cm (g (f+(2*x+1))) (g (f+(2*x+1)+1))<0
    ·have hk:=(hc.lt _ _).1 h
     obtain ⟨t1,t2⟩:=tail (2*x+1+1) (.inr rfl) e2 ⟨fun _=>by rw[show f+(2*x+1+1)=f+(2*x+1)+1 by omega];omega,fun _=>Int.le_refl _⟩
     have u2:=wr_add (i:=f) (j:=2*x+1+1) (by omega) (by omega)
     have r3:f+(2*x+1+1)<n:=by omega
     have n3:¬f+(2*x+1+1)=n:=by omega
     by_cases h2:cm (g (f+x)) (g (f+(2*x+1+1)))<0
     ·obtain ⟨g',z,e3,e4⟩:=t1 h2
      refine ⟨g',z, ?_,e4⟩
      simp only[evs,List.length_set,and_self,and_true,true_and,ne_eq,not_false_eq_true,Option.bind_some,decide_eq_true_eq,Bool.not_eq_true',decide_eq_false_iff_not,not_true_eq_false,Bool.not_true,Bool.not_false,Bool.false_eq_true,decide_true,decide_false,if_true,if_false,ge_iff_le,gt_iff_lt,e,w1,w2,w3,u0,u1,u1',u2,r0,r1,r2,r3,n0,n1,n2,n3,arr_at R _ n _ r0,arr_at R _ n _ r1,arr_at R _ n _ r2,arr_at R _ n _ r3,hc.call,h,h2,e2,arr_set]
      exact e3
     ·refine ⟨g,1, ?_,Sub.refl _ _ _,t2 h2⟩
      simp only[evs,List.length_set,and_self,and_true,true_and,ne_eq,not_false_eq_true,Option.bind_some,decide_eq_true_eq,Bool.not_eq_true',decide_eq_false_iff_not,not_true_eq_false,Bool.not_true,Bool.not_false,Bool.false_eq_true,decide_true,decide_false,if_true,if_false,ge_iff_le,gt_iff_lt,e,w1,w2,w3,u0,u1,u1',u2,r0,r1,r2,r3,n0,n1,n2,n3,arr_at R _ n _ r0,arr_at R _ n _ r1,arr_at R _ n _ r2,arr_at R _ n _ r3,hc.call,h,h2,e2,arr_set]
    ·have hk:¬K (g (f+(2*x+1)))<K (g (f+(2*x+1)+1)):=fun h'=>h ((hc.lt _ _).2 h')
     obtain ⟨t1,t2⟩:=tail (2*x+1) (.inl rfl) (by omega) ⟨fun _=>Int.le_refl _,fun _=>by rw[show f+(2*x+2)=f+(2*x+1)+1 by omega];omega⟩
     by_cases h2:cm (g (f+x)) (g (f+(2*x+1)))<0
     ·obtain ⟨g',z,e3,e4⟩:=t1 h2
      refine ⟨g',z, ?_,e4⟩
      simp only[evs,List.length_set,and_self,and_true,true_and,ne_eq,not_false_eq_true,Option.bind_some,decide_eq_true_eq,Bool.not_eq_true',decide_eq_false_iff_not,not_true_eq_false,Bool.not_true,Bool.not_false,Bool.false_eq_true,decide_true,decide_false,if_true,if_false,ge_iff_le,gt_iff_lt,e,w1,w2,w3,u0,u1,u1',r0,r1,r2,n0,n1,n2,arr_at R _ n _ r0,arr_at R _ n _ r1,arr_at R _ n _ r2,hc.call,h,h2,e2,arr_set]
      exact e3
     ·refine ⟨g,1, ?_,Sub.refl _ _ _,t2 h2⟩
      simp only[evs,List.length_set,and_self,and_true,true_and,ne_eq,not_false_eq_true,Option.bind_some,decide_eq_true_eq,Bool.not_eq_true',decide_eq_false_iff_not,not_true_eq_false,Bool.not_true,Bool.not_false,Bool.false_eq_true,decide_true,decide_false,if_true,if_false,ge_iff_le,gt_iff_lt,e,w1,w2,w3,u0,u1,u1',r0,r1,r2,n0,n1,n2,arr_at R _ n _ r0,arr_at R _ n _ r1,arr_at R _ n _ r2,hc.call,h,h2,e2,arr_set]
   ·obtain ⟨t1,t2⟩:=tail (2*x+1) (.inl rfl) (by omega) ⟨fun _=>Int.le_refl _,fun k=>by omega⟩
    by_cases h2:cm (g (f+x)) (g (f+(2*x+1)))<0
    ·obtain ⟨g',z,e3,e4⟩:=t1 h2
     refine ⟨g',z, ?_,e4⟩
     simp only[evs,List.length_set,and_self,and_true,true_and,ne_eq,not_false_eq_true,Option.bind_some,decide_eq_true_eq,Bool.not_eq_true',decide_eq_false_iff_not,not_true_eq_false,Bool.not_true,Bool.not_false,Bool.false_eq_true,decide_true,decide_false,if_true,if_false,ge_iff_le,gt_iff_lt,e,w1,w2,w3,u0,u1,u1',r0,r1,n0,n1,arr_at R _ n _ r0,arr_at R _ n _ r1,hc.call,h2,e2,arr_set]
     exact e3
    ·refine ⟨g,1, ?_,Sub.refl _ _ _,t2 h2⟩
     simp only[evs,List.length_set,and_self,and_true,true_and,ne_eq,not_false_eq_true,Option.bind_some,decide_eq_true_eq,Bool.not_eq_true',decide_eq_false_iff_not,not_true_eq_false,Bool.not_true,Bool.not_false,Bool.false_eq_true,decide_true,decide_false,if_true,if_false,ge_iff_le,gt_iff_lt,e,w1,w2,w3,u0,u1,u1',r0,r1,n0,n1,arr_at R _ n _ r0,arr_at R _ n _ r1,hc.call,h2,e2,arr_set]
theorem sd_ic (hn:n≤big) (hc:Cm R K fc cm) (f lo hi:Nat) (hf:f+hi≤n) (hlo:lo≤n) (g:Nat→Nat) (hh:Hole K g f lo hi lo):
 ∃g':Nat→Nat,(lim T).ic slices_siftDownCmpFunc_2_api_Value_i7_n [.r [.int (lo:Int)], .r [.int (hi:Int)], .r [.int (f:Int)], .r [fc], .r (st R g n)]=some [.r (st R g' n)]∧Sub g' g (f+lo) (f+hi)∧Heap K g' f lo hi:=by
 rw[slices_siftDownCmpFunc_2_api_Value_i7_ic];unfold slices_siftDownCmpFunc_2_api_Value_i7
 obtain ⟨g',z,e1,e2,e3⟩:=sd_l0 hn hc f lo hi hf _ lo g (Nat.le_refl _) (Nat.le_refl _) hlo hh
 refine ⟨g', ?_,e2,e3⟩
 cases z<;>simp only[evs,List.length_set,and_self,and_true,true_and,ne_eq,not_false_eq_true,Option.bind_some,decide_eq_true_eq,Bool.not_eq_true',decide_eq_false_iff_not,not_true_eq_false,Bool.not_true,Bool.not_false,Bool.false_eq_true,decide_true,decide_false,if_true,if_false,ge_iff_le,gt_iff_lt,e1]
theorem Heap.hole {g:Nat→Nat} {f lo hi:Nat} (h:Heap K g f (lo+1) hi):Hole K g f lo hi lo:=
 ⟨fun r h1 h2=>h r (by omega),fun r h1 h2=>by omega⟩
theorem hp_l0 (hn:n≤big) (hc:Cm R K fc cm) (f hi:Nat) (hf:f+hi≤n):∀(i:Nat) (g:Nat→Nat),i≤n→Heap K g f i hi→
 ∃g':Nat→Nat,slices_heapSortCmpFunc_2_api_Value_i6_l0 (lim T) fc (f:Int) 0 (hi:Int) ((i:Int) - 1) (st R g n)=some (0,[.r [fc], .r [.int (f:Int)], .r [.int 0], .r [.int (hi:Int)], .r (st R g' n)])∧Sub g' g f (f+hi)∧Heap K g' f 0 hi
 |0,g,hi',hh=>by
  rw[slices_heapSortCmpFunc_2_api_Value_i6_l0_eq];unfold slices_heapSortCmpFunc_2_api_Value_i6_b0
  have c:¬((0:Nat):Int) - 1≥0:=by omega
  refine ⟨g, ?_,Sub.refl _ _ _,hh⟩
  rw[if_neg (by simpa using c)]
  simp only[evs,List.length_set,and_self,and_true,true_and,ne_eq,not_false_eq_true,Option.bind_some,decide_eq_true_eq,Bool.not_eq_true',decide_eq_false_iff_not,not_true_eq_false,Bool.not_true,Bool.not_false,Bool.false_eq_true,decide_true,decide_false,if_true,if_false,ge_iff_le,gt_iff_lt]
 |i+1,g,hi',hh=>by
  rw[slices_heapSortCmpFunc_2_api_Value_i6_l0_eq];unfold slices_heapSortCmpFunc_2_api_Value_i6_b0
  have e:((i+1:Nat):Int) - 1=(i:Int):=by omega
  rw[e]
  have w:IntKind.wrap .i64 ((i:Int) - 1)=(i:Int) - 1:=by unfold big at hn;exact wrapZ (by omega) (by omega)
  obtain ⟨g1,e1,e2,e3⟩:=sd_ic hn hc f i hi hf (by omega) g hh.hole
  obtain ⟨g2,f1,f2,f3⟩:=hp_l0 hn hc f hi hf i g1 (by omega) e3
  refine ⟨g2, ?_,f2.trans (e2.mono (by omega) (Nat.le_refl _)),f3⟩
  simp only[evs,List.length_set,and_self,and_true,true_and,ne_eq,not_false_eq_true,Option.bind_some,decide_eq_true_eq,Bool.not_eq_true',decide_eq_false_iff_not,not_true_eq_false,Bool.not_true,Bool.not_false,Bool.false_eq_true,decide_true,decide_false,if_true,if_false,ge_iff_le,gt_iff_lt,e1,w]
  exact f1
theorem heap_max {g:Nat→Nat} {f hi:Nat} (h:Heap K g f 0 hi):∀q,q<hi→K (g (f+q))≤K (g (f+0)):=by
 intro q
 induction q using Nat.strongRecOn with
 |_ q ih=>
  intro hq
  by_cases c:q=0
  ·rw[c];exact Int.le_refl _
  ·have h1:=ih ((q - 1)/2) (by omega) (by omega)
   have h2:=h ((q - 1)/2) (Nat.zero_le _)
   by_cases o:q=2*((q - 1)/2)+1
   ·have:=h2.1 (by omega);rw[←o]at this;omega
   ·have o2:q=2*((q - 1)/2)+2:=by omega
    have:=h2.2 (by omega);rw[←o2]at this;omega
theorem hp_l1 (hn:n≤big) (hc:Cm R K fc cm) (f hi:Nat) (hf:f+hi≤n):∀(i:Nat) (g:Nat→Nat),i≤hi→Heap K g f 0 i→Wsr K g (f+i) (f+hi)→(∀q r,q<i→i≤r→r<hi→K (g (f+q))≤K (g (f+r)))→
 ∃g':Nat→Nat,slices_heapSortCmpFunc_2_api_Value_i6_l1 (lim T) fc (f:Int) 0 ((i:Int) - 1) (st R g n)=some (0,[.r (st R g' n)])∧Sub g' g f (f+hi)∧Wsr K g' f (f+hi)
 |0,g,hi',hh,hs,hx=>by
  rw[slices_heapSortCmpFunc_2_api_Value_i6_l1_eq];unfold slices_heapSortCmpFunc_2_api_Value_i6_b1
  have c:¬((0:Nat):Int) - 1≥0:=by omega
  refine ⟨g, ?_,Sub.refl _ _ _,hs⟩
  rw[if_neg (by simpa using c)]
  simp only[evs,List.length_set,and_self,and_true,true_and,ne_eq,not_false_eq_true,Option.bind_some,decide_eq_true_eq,Bool.not_eq_true',decide_eq_false_iff_not,not_true_eq_false,Bool.not_true,Bool.not_false,Bool.false_eq_true,decide_true,decide_false,if_true,if_false,ge_iff_le,gt_iff_lt]
 |i+1,g,hi',hh,hs,hx=>by
  rw[slices_heapSortCmpFunc_2_api_Value_i6_l1_eq];unfold slices_heapSortCmpFunc_2_api_Value_i6_b1
  have e:((i+1:Nat):Int) - 1=(i:Int):=by omega
  rw[e]
  have w:IntKind.wrap .i64 ((i:Int) - 1)=(i:Int) - 1:=by unfold big at hn;exact wrapZ (by omega) (by omega)
  have u:=wr_add (i:=f) (j:=i) (by omega) (by omega)
  have r0:f<n:=by omega
  have n0:¬f=n:=by omega
  have r1:f+i<n:=by omega
  have n1:¬f+i=n:=by omega
  have mx:=heap_max hh
  have vi:swp g f (f+i) (f+i)=g f:=by simp[swp]
  have vo:∀q,q≠0→q≠i→swp g f (f+i) (f+q)=g (f+q):=fun q h1 h2=>by rw[swp,if_neg (by omega),if_neg (by omega)]
  have hole:Hole K (swp g f (f+i)) f 0 i 0:=⟨fun r h1 h2=>by
   have:=hh r (Nat.zero_le _)
   refine ⟨fun k=> ?_,fun k=> ?_⟩
   ·rw[vo _ (by omega) (by omega),vo r h2 (by omega)];exact this.1 (by omega)
   ·rw[vo _ (by omega) (by omega),vo r h2 (by omega)];exact this.2 (by omega),fun r h1 h2=>by omega⟩
  obtain ⟨g1,e1,e2,e3⟩:=sd_ic hn hc f 0 i (by omega) (by omega) (swp g f (f+i)) hole
  rw[Nat.add_zero]at e2
  rw[show ((0:Nat):Int)=0 from rfl]at e1
  have o1:∀q,i≤q→g1 (f+q)=swp g f (f+i) (f+q):=fun q h=>e2.out _ (.inr (by omega))
  have top:∀q,q<i→K (g1 (f+q))≤K (g f)∧∃r,r<i+1∧g1 (f+q)=g (f+r):=fun q hq=>by
   obtain ⟨z,z1,z2,z3⟩:=e2.fwd (f+q) (by omega) (by omega)
   obtain ⟨r,rfl⟩:∃r,z=f+r:=⟨z - f,by omega⟩
   have key:∃r',r'<i+1∧g1 (f+q)=g (f+r'):=by
    rw[z3]
    by_cases c:r=0
    ·subst c
     by_cases c2:i=0
     ·exact ⟨0,by omega,by subst c2;simp[swp]⟩
     ·exact ⟨i,by omega,by rw[swp,if_neg (by omega),if_pos (by omega)]⟩
    ·exact ⟨r,by omega,vo r c (by omega)⟩
   obtain ⟨r',k1,k2⟩:=key
   refine ⟨by rw[k2];have:=mx r' k1;simpa using this,r',k1,k2⟩
  obtain ⟨g2,f1,f2,f3⟩:=hp_l1 hn hc f hi hf i g1 (by omega) e3
   (fun x y h1 h2 h3=>by
     obtain ⟨p,rfl⟩:∃p,x=f+p:=⟨x - f,by omega⟩
     obtain ⟨q,rfl⟩:∃q,y=f+q:=⟨y - f,by omega⟩
     rw[o1 p (by omega),o1 q (by omega),vo q (by omega) (by omega)]
     by_cases c:p=i
     ·rw[c,vi];have:=hx 0 q (by omega) (by omega) (by omega);simpa using this
     ·rw[vo p (by omega) c];exact hs _ _ (by omega) (by omega) (by omega))
   (fun q r h1 h2 h3=>by
     obtain ⟨t1,z,t2,t3⟩:=top q h1
     rw[o1 r h2]
     by_cases c:r=i
     ·rw[c,vi];exact t1
     ·rw[vo r (by omega) c,t3];exact hx z r t2 (by omega) h3)
  refine ⟨g2, ?_,f2.trans ((e2.mono (Nat.le_refl _) (by omega)).trans (swp_sub g (by omega) (by omega) (by omega) (by omega))),f3⟩
  simp only[evs,List.length_set,and_self,and_true,true_and,ne_eq,not_false_eq_true,Option.bind_some,decide_eq_true_eq,Bool.not_eq_true',decide_eq_false_iff_not,not_true_eq_false,Bool.not_true,Bool.not_false,Bool.false_eq_true,decide_true,decide_false,if_true,if_false,ge_iff_le,gt_iff_lt,u,r0,n0,r1,n1,arr_at R _ n _ r0,arr_at R _ n _ r1,arr_set,e1,w]
  exact f1
theorem hp_ic (hn:n≤big) (hc:Cm R K fc cm) (a b:Nat) (hab:a<b) (hb:b≤n) (g:Nat→Nat):
 ∃g':Nat→Nat,(lim T).ic slices_heapSortCmpFunc_2_api_Value_i6_n [.r [.int (a:Int)], .r [.int (b:Int)], .r [fc], .r (st R g n)]=some [.r (st R g' n)]∧Sub g' g a b∧Wsr K g' a b:=by
 rw[slices_heapSortCmpFunc_2_api_Value_i6_ic];unfold slices_heapSortCmpFunc_2_api_Value_i6
 have w1:=wr_sub (i:=b) (j:=a) (by unfold big at hn;omega) (by omega)
 obtain ⟨k,hk⟩:∃k,b - a=k+1:=⟨b - a - 1,by omega⟩
 have w2:=wr_pred (i:=k) (by omega)
 have w3:IntKind.wrap .i64 ((k:Int).tdiv 2)=(((k/2+1:Nat):Int) - 1):=by
  unfold big at hn
  rw[Int.tdiv_eq_ediv_of_nonneg (by omega),wrapZ (by omega) (by omega)];omega
 have eb:a+(k+1)=b:=by omega
 obtain ⟨g1,e1,e2,e3⟩:=hp_l0 hn hc a (k+1) (by omega) (k/2+1) g (by omega) (fun r hr=>⟨fun h=>by omega,fun h=>by omega⟩)
 obtain ⟨g2,f1,f2,f3⟩:=hp_l1 hn hc a (k+1) (by omega) (k+1) g1 (Nat.le_refl _) e3 (fun x y h1 h2 h3=>by omega) (fun q r h1 h2 h3=>by omega)
 rw[eb]at e2 f2 f3
 have w4:IntKind.wrap .i64 (((k+1:Nat):Int) - 1)=((k+1:Nat):Int) - 1:=by unfold big at hn;exact wrapZ (by omega) (by omega)
 refine ⟨g2, ?_,f2.trans e2,f3⟩
 rw[w1,hk,w2,w3]
 simp only[evs,List.length_set,and_self,and_true,true_and,ne_eq,not_false_eq_true,Option.bind_some,decide_eq_true_eq,Bool.not_eq_true',decide_eq_false_iff_not,not_true_eq_false,Bool.not_true,Bool.not_false,Bool.false_eq_true,decide_true,decide_false,if_true,if_false,ge_iff_le,gt_iff_lt,e1,w4,f1]
end Go.Ev.Zzj
namespace Go.Ev.Zzj
variable {n:Nat} {R:Nat→Row} {K:Nat→Int} {fc:C} {cm:Nat→Nat→Int}
def np2B (m:Nat):Bool:=match (envOf T 12).pc n_slices_nextPowerOfTwo [[.int (m:Int)]]with
 |some [[.int k]]=>decide (1≤k∧k≤2*(m:Int))
 |_=>false
theorem np2_all:(List.range 50).all (fun m=>m==0 ||np2B m)=true:=by kernel_rfl
theorem np2 {m:Nat} (h0:0<m) (h:m<50):∃k:Nat,(lim T).pc n_slices_nextPowerOfTwo [[.int (m:Int)]]=some [[.int (k:Int)]]∧1≤k∧k≤2*m:=by
 have:=List.all_eq_true.1 np2_all m (List.mem_range.2 h)
 have hb:np2B m=true:=by
  have hz:(m==0)=false:=by simp;omega
  rw[hz,Bool.false_or]at this;exact this
 unfold np2B at hb
 split at hb
 ·rename_i k e
  have:=of_decide_eq_true hb
  obtain ⟨k,rfl⟩:∃k':Nat,k=(k':Int):=⟨k.toNat,by omega⟩
  exact ⟨k,(lim_pc T).2 ⟨12,e⟩,by omega,by omega⟩
 ·exact absurd hb (by decide)
def lenB (m:Nat):Bool:=match (envOf T 12).pc n_math_bits_Len [[.int (m:Int)]]with
 |some [[.int _]]=>true
 |_=>false
theorem len_all:(List.range 50).all lenB=true:=by kernel_rfl
theorem len_tot {m:Nat} (h:m<50):∃k:Int,(lim T).pc n_math_bits_Len [[.int (m:Int)]]=some [[.int k]]:=by
 have hb:=List.all_eq_true.1 len_all m (List.mem_range.2 h)
 unfold lenB at hb
 split at hb
 ·rename_i k e;exact ⟨k,(lim_pc T).2 ⟨12,e⟩⟩
 ·exact absurd hb (by decide)
theorem u64_nat {m:Nat} (h:m≤big):IntKind.wrap .u64 (m:Int)=(m:Int):=by
 unfold big at h
 simp[Go.IntKind.wrap,Go.IntKind.bits,Go.IntKind.signed];omega
theorem and_rng (x:Int) {m:Nat} (hm:1≤m) (h:m≤100):∃k:Nat,bitsOf .and .u64 x (IntKind.wrap .u64 ((m:Int) - 1))=(k:Int)∧k<m:=by
 have e:IntKind.wrap .u64 ((m:Int) - 1)=((m - 1:Nat):Int):=by
  simp[Go.IntKind.wrap,Go.IntKind.bits,Go.IntKind.signed];omega
 rw[e]
 have hx:((BitVec.ofInt 64 x)&&&(BitVec.ofInt 64 ((m - 1:Nat):Int))).toNat≤m - 1:=by
  rw[BitVec.toNat_and]
  have:(BitVec.ofInt 64 ((m - 1:Nat):Int)).toNat=m - 1:=by
   rw[BitVec.toNat_ofInt];omega
  rw[this];exact Nat.and_le_right
 have key:∀N:Nat,N≤m - 1→IntKind.wrap .u64 (N:Int)=(N:Int):=fun N hN=>u64_nat (by unfold big;omega)
 have hx2:((BitVec.ofInt 64 x)&&&(BitVec.ofInt 64 ((m - 1:Nat):Int))).toNat<m:=by omega
 exact ⟨((BitVec.ofInt 64 x)&&&(BitVec.ofInt 64 ((m - 1:Nat):Int))).toNat,key _ hx,hx2⟩
theorem bp_l (hn:n≤big) (a b m:Nat) (hab:a+8≤b) (hb:b≤n) (h50:b - a<50) (hm:1≤m) (hm2:m≤2*(b - a)):∀(d i:Nat) (g:Nat→Nat) (w:Int),a+(b - a)/4*2+2≤i+d→a≤i→i≤a+(b - a)/4*2+2→
 ∃g':Nat→Nat,slices_breakPatternsCmpFunc_2_api_Value_i8_l0 (lim T) (a:Int) ((b - a:Nat):Int) (m:Int) (i:Int) (st R g n) w=some (0,[.r (st R g' n)])∧Sub g' g a b
 |d,i,g,w,hd,hi,hi2=>by
  rw[slices_breakPatternsCmpFunc_2_api_Value_i8_l0_eq];unfold slices_breakPatternsCmpFunc_2_api_Value_i8_b0
  have w2:=quart (x:=b - a) (by omega)
  have q2:=wr_mul 2 (by omega) (by omega) (x:=(b - a)/4) (by omega)
  rw[show (2:Int).toNat=2 from rfl]at q2
  have u2:=wr_add (i:=a) (j:=(b - a)/4*2) (by omega) (by omega)
  have u3:IntKind.wrap .i64 (((a+(b - a)/4*2:Nat):Int)+1)=((a+(b - a)/4*2+1:Nat):Int):=wr_succ (by omega)
  rw[w2,q2,u2,u3]
  by_cases e:i≤a+(b - a)/4*2+1
  ·obtain ⟨d,rfl⟩:∃d',d=d'+1:=⟨d - 1,by omega⟩
   have w1:=wr_succ (i:=i) (by omega)
   have r1:i<n:=by omega
   have n1:¬i=n:=by omega
   rw[slices_xorshift_Next_i9_ic];unfold slices_xorshift_Next_i9
   generalize bitsOf .xor .u64 (bitsOf .xor .u64 (bitsOf .xor .u64 w _) _) _=v
   obtain ⟨k,k1,k2⟩:=and_rng v hm (by omega)
   have k3:IntKind.wrap .i64 (k:Int)=(k:Int):=wrapZ (by omega) (by omega)
   by_cases c:b - a≤k
   ·have k4:=wr_sub (i:=k) (j:=b - a) (by omega) c
    have k5:=wr_add (i:=a) (j:=k - (b - a)) (by omega) (by omega)
    have r2:a+(k - (b - a))<n:=by omega
    have n2:¬a+(k - (b - a))=n:=by omega
    obtain ⟨g',e1,e2⟩:=bp_l hn a b m hab hb h50 hm hm2 d (i+1) (swp g i (a+(k - (b - a)))) v (by omega) (by omega) (by omega)
    refine ⟨g', ?_,e2.trans (swp_sub g (by omega) (by omega) (by omega) (by omega))⟩
    simp only[evs,List.length_set,and_self,and_true,true_and,ne_eq,not_false_eq_true,Option.bind_some,decide_eq_true_eq,Bool.not_eq_true',decide_eq_false_iff_not,not_true_eq_false,Bool.not_true,Bool.not_false,Bool.false_eq_true,decide_true,decide_false,if_true,if_false,ge_iff_le,gt_iff_lt,e,k1,k3,c,k4,k5,w1,r1,n1,r2,n2,arr_at R _ n _ r1,arr_at R _ n _ r2,arr_set]
    exact e1
   ·have k5:=wr_add (i:=a) (j:=k) (by omega) (by omega)
    have r2:a+k<n:=by omega
    have n2:¬a+k=n:=by omega
    obtain ⟨g',e1,e2⟩:=bp_l hn a b m hab hb h50 hm hm2 d (i+1) (swp g i (a+k)) v (by omega) (by omega) (by omega)
    refine ⟨g', ?_,e2.trans (swp_sub g (by omega) (by omega) (by omega) (by omega))⟩
    simp only[evs,List.length_set,and_self,and_true,true_and,ne_eq,not_false_eq_true,Option.bind_some,decide_eq_true_eq,Bool.not_eq_true',decide_eq_false_iff_not,not_true_eq_false,Bool.not_true,Bool.not_false,Bool.false_eq_true,decide_true,decide_false,if_true,if_false,ge_iff_le,gt_iff_lt,e,k1,k3,c,k5,w1,r1,n1,r2,n2,arr_at R _ n _ r1,arr_at R _ n _ r2,arr_set]
    exact e1
  ·exact ⟨g,by simp only[evs,List.length_set,and_self,and_true,true_and,ne_eq,not_false_eq_true,Option.bind_some,decide_eq_true_eq,Bool.not_eq_true',decide_eq_false_iff_not,not_true_eq_false,Bool.not_true,Bool.not_false,Bool.false_eq_true,decide_true,decide_false,if_true,if_false,ge_iff_le,gt_iff_lt,e],Sub.refl _ _ _⟩
theorem bp_ic (hn:n≤big) (a b:Nat) (hab:a<b) (hb:b≤n) (h50:b - a<50) (g:Nat→Nat):
 ∃g':Nat→Nat,(lim T).ic slices_breakPatternsCmpFunc_2_api_Value_i8_n [.r [.int (a:Int)], .r [.int (b:Int)], .r [fc], .r (st R g n)]=some [.r (st R g' n)]∧Sub g' g a b:=by
 rw[slices_breakPatternsCmpFunc_2_api_Value_i8_ic];unfold slices_breakPatternsCmpFunc_2_api_Value_i8
 have w1:=wr_sub (i:=b) (j:=a) (by unfold big at hn;omega) (by omega)
 rw[w1]
 by_cases c:8≤b - a
 ·have c':((b - a:Nat):Int)≥8:=by omega
  obtain ⟨m,m1,m2,m3⟩:=np2 (m:=b - a) (by omega) h50
  have w2:=quart (x:=b - a) (by omega)
  have q2:=wr_mul 2 (by omega) (by omega) (x:=(b - a)/4) (by omega)
  rw[show (2:Int).toNat=2 from rfl]at q2
  have u2:=wr_add (i:=a) (j:=(b - a)/4*2) (by omega) (by omega)
  have u3:=wr_sub (i:=a+(b - a)/4*2) (j:=1) (by unfold big at hn;omega) (by omega)
  rw[show ((1:Nat):Int)=1 from rfl]at u3
  obtain ⟨g',e1,e2⟩:=bp_l (R:=R) hn a b m (by omega) hb h50 m2 m3 4 (a+(b - a)/4*2 - 1) g (IntKind.wrap .u64 ((b - a:Nat):Int)) (by omega) (by omega) (by omega)
  rw[if_pos (decide_eq_true c')]
  exact ⟨g',by simp only[evs,List.length_set,and_self,and_true,true_and,ne_eq,not_false_eq_true,Option.bind_some,decide_eq_true_eq,Bool.not_eq_true',decide_eq_false_iff_not,not_true_eq_false,Bool.not_true,Bool.not_false,Bool.false_eq_true,decide_true,decide_false,if_true,if_false,ge_iff_le,gt_iff_lt,m1,w2,q2,u2,u3,e1],e2⟩
 ·have c':¬((b - a:Nat):Int)≥8:=by omega
  rw[if_neg (by simpa using c')]
  exact ⟨g,by simp only[evs,List.length_set,and_self,and_true,true_and,ne_eq,not_false_eq_true,Option.bind_some,decide_eq_true_eq,Bool.not_eq_true',decide_eq_false_iff_not,not_true_eq_false,Bool.not_true,Bool.not_false,Bool.false_eq_true,decide_true,decide_false,if_true,if_false,ge_iff_le,gt_iff_lt],Sub.refl _ _ _⟩
def Pre (K:Nat→Int) (g:Nat→Nat) (a b:Nat):Prop:=0<a→∀q,a≤q→q<b→K (g (a - 1))≤K (g q)
theorem Pre.sub {g g':Nat→Nat} {a b:Nat} (h:Pre K g a b) (s:Sub g' g a b):Pre K g' a b:=fun h0 q h1 h2=>by
 obtain ⟨j,j1,j2,j3⟩:=s.fwd q h1 h2
 rw[s.out (a - 1) (.inl (by omega)),j3];exact h h0 j j1 j2
theorem of_tot2 {x:Option (Nat×List PV)} {P:(Nat→Nat)→Prop} (h:Tot (fun r=>∃g':Nat→Nat,r=(0,[.r (st R g' n)])∧P g') x):∃g':Nat→Nat,x=some (0,[.r (st R g' n)])∧P g':=by
 obtain ⟨r,h1,g',rfl,h3⟩:=h
 exact ⟨g',h1,h3⟩
theorem pq_ic_of {a b:Nat} {v:Int} {g:Nat→Nat} {P:(Nat→Nat)→Prop} (h:∃g':Nat→Nat,slices_pdqsortCmpFunc_2_api_Value_i4_l0 (lim T) (a:Int) (b:Int) v fc true true (st R g n)=some (0,[.r (st R g' n)])∧P g'):
 ∃g':Nat→Nat,(lim T).ic slices_pdqsortCmpFunc_2_api_Value_i4_n [.r [.int (a:Int)], .r [.int (b:Int)], .r [.int v], .r [fc], .r (st R g n)]=some [.r (st R g' n)]∧P g':=by
 obtain ⟨g',e1,e2⟩:=h
 rw[slices_pdqsortCmpFunc_2_api_Value_i4_ic];unfold slices_pdqsortCmpFunc_2_api_Value_i4
 exact ⟨g',by simp only[evs,List.length_set,and_self,and_true,true_and,ne_eq,not_false_eq_true,Option.bind_some,decide_eq_true_eq,Bool.not_eq_true',decide_eq_false_iff_not,not_true_eq_false,Bool.not_true,Bool.not_false,Bool.false_eq_true,decide_true,decide_false,if_true,if_false,ge_iff_le,gt_iff_lt,e1],e2⟩
theorem join_part {g1 g2 g3:Nat→Nat} {a m b:Nat} (hm:a≤m) (hb:m<b) (h1:∀q,a≤q→q<m→K (g1 q)<K (g1 m)) (h2:∀q,m<q→q<b→¬K (g1 q)<K (g1 m)) (s1:Sub g2 g1 a m) (s2:Sub g3 g2 (m+1) b) (w1:Wsr K g2 a m) (w2:Wsr K g3 (m+1) b):Wsr K g3 a b:=by
 have vm:g3 m=g1 m:=by rw[s2.out m (.inl (by omega)),s1.out m (.inr (Nat.le_refl _))]
 have lo:∀q,a≤q→q<m→K (g3 q)≤K (g1 m):=fun q k1 k2=>by
  obtain ⟨j,j1,j2,j3⟩:=s1.fwd q k1 k2
  rw[s2.out q (.inl (by omega)),j3];have:=h1 j j1 j2;omega
 have hi:∀q,m<q→q<b→K (g1 m)≤K (g3 q):=fun q k1 k2=>by
  obtain ⟨j,j1,j2,j3⟩:=s2.fwd q (by omega) k2
  rw[j3,s1.out j (.inr (by omega))];have:=h2 j (by omega) j2;omega
 intro x y k1 k2 k3
 by_cases c1:y<m
 ·rw[s2.out x (.inl (by omega)),s2.out y (.inl (by omega))];exact w1 x y k1 k2 c1
 ·by_cases c2:m<x
  ·exact w2 x y (by omega) k2 k3
  ·have a1:K (g3 x)≤K (g1 m):=by
    by_cases c3:x=m
    ·rw[c3,vm];exact Int.le_refl _
    ·exact lo x k1 (by omega)
   have a2:K (g1 m)≤K (g3 y):=by
    by_cases c3:y=m
    ·rw[c3,vm];exact Int.le_refl _
    ·exact hi y (by omega) k3
   omega
theorem join_part' {g1 g2 g3:Nat→Nat} {a m b:Nat} (hm:a≤m) (hb:m<b) (h1:∀q,a≤q→q<m→K (g1 q)<K (g1 m)) (h2:∀q,m<q→q<b→¬K (g1 q)<K (g1 m)) (s1:Sub g2 g1 (m+1) b) (s2:Sub g3 g2 a m) (w1:Wsr K g2 (m+1) b) (w2:Wsr K g3 a m):Wsr K g3 a b:=by
 have vm:g3 m=g1 m:=by rw[s2.out m (.inr (Nat.le_refl _)),s1.out m (.inl (by omega))]
 have lo:∀q,a≤q→q<m→K (g3 q)≤K (g1 m):=fun q k1 k2=>by
  obtain ⟨j,j1,j2,j3⟩:=s2.fwd q k1 k2
  rw[j3,s1.out j (.inl (by omega))];have:=h1 j j1 j2;omega
 have hi:∀q,m<q→q<b→K (g1 m)≤K (g3 q):=fun q k1 k2=>by
  obtain ⟨j,j1,j2,j3⟩:=s1.fwd q (by omega) k2
  rw[s2.out q (.inr (by omega)),j3];have:=h2 j (by omega) j2;omega
 intro x y k1 k2 k3
 by_cases c1:y<m
 ·exact w2 x y k1 k2 c1
 ·by_cases c2:m<x
  ·rw[s2.out x (.inr (by omega)),s2.out y (.inr (by omega))];exact w1 x y (by omega) k2 k3
  ·have a1:K (g3 x)≤K (g1 m):=by
    by_cases c3:x=m
    ·rw[c3,vm];exact Int.le_refl _
    ·exact lo x k1 (by omega)
   have a2:K (g1 m)≤K (g3 y):=by
    by_cases c3:y=m
    ·rw[c3,vm];exact Int.le_refl _
    ·exact hi y (by omega) k3
   omega
end Go.Ev.Zzj
namespace Go.Ev.Zzj
variable {n:Nat} {R:Nat→Row} {K:Nat→Int} {fc:C} {cm:Nat→Nat→Int}
theorem pq_l0 (hn:n<50) (hc:Cm R K fc cm):∀(d a b:Nat) (v:Int) (wb wp:Bool) (g:Nat→Nat),b - a≤d→a≤b→b≤n→Pre K g a b→
 ∃g':Nat→Nat,slices_pdqsortCmpFunc_2_api_Value_i4_l0 (lim T) (a:Int) (b:Int) v fc wb wp (st R g n)=some (0,[.r (st R g' n)])∧(Sub g' g a b∧Wsr K g' a b)
 |d,a,b,v,wb,wp,g,hd,hab,hb,hp=>by
  have hnb:n≤big:=by unfold big;omega
  refine of_tot2 (P:=fun g'=>Sub g' g a b∧Wsr K g' a b) ?_
  rw[slices_pdqsortCmpFunc_2_api_Value_i4_l0_eq];unfold slices_pdqsortCmpFunc_2_api_Value_i4_b0
  have w1:=wr_sub (i:=b) (j:=a) (by unfold big at hnb;omega) hab
  refine Tot.bind (R:=fun x=>(∃g':Nat→Nat,x=(1,[.r (st R g' n)])∧Sub g' g a b∧Wsr K g' a b)∨
   (∃(a' b':Nat) (v':Int) (wb' wp':Bool) (g1:Nat→Nat),x=(0,[.r [.int (a':Int)], .r [.int (b':Int)], .r [.int v'], .r [fc], .r [.bool wb'], .r [.bool wp'], .r (st R g1 n)])∧b' - a'<b - a∧a'≤b'∧b'≤n∧Pre K g1 a' b'∧(∀g':Nat→Nat,Sub g' g1 a' b'→Wsr K g' a' b'→Sub g' g a b∧Wsr K g' a b))) ?_ ?_
  ·by_cases c12:b - a≤12
   ·have c12':((b - a:Nat):Int)≤12:=by omega
    obtain ⟨g',e1,e2,e3⟩:=wi_ic hnb hc a b hab hb g
    rw[w1,if_pos (decide_eq_true c12')]
    simp only[evs,List.length_set,and_self,and_true,true_and,ne_eq,not_false_eq_true,Option.bind_some,decide_eq_true_eq,Bool.not_eq_true',decide_eq_false_iff_not,not_true_eq_false,Bool.not_true,Bool.not_false,Bool.false_eq_true,decide_true,decide_false,if_true,if_false,ge_iff_le,gt_iff_lt,e1]
    exact Tot.some (.inl ⟨g',rfl,e2,e3⟩)
   ·have c12':¬((b - a:Nat):Int)≤12:=by omega
    have hlt:a<b:=by omega
    obtain ⟨d,rfl⟩:∃d',d=d'+1:=⟨d - 1,by omega⟩
    rw[w1,if_neg (by simpa using c12')]
    by_cases cv:v=0
    ·obtain ⟨g',e1,e2,e3⟩:=hp_ic hnb hc a b hlt hb g
     rw[if_pos (by simp[cv])]
     simp only[evs,List.length_set,and_self,and_true,true_and,ne_eq,not_false_eq_true,Option.bind_some,decide_eq_true_eq,Bool.not_eq_true',decide_eq_false_iff_not,not_true_eq_false,Bool.not_true,Bool.not_false,Bool.false_eq_true,decide_true,decide_false,if_true,if_false,ge_iff_le,gt_iff_lt,e1]
     exact Tot.some (.inl ⟨g',rfl,e2,e3⟩)
    rw[if_neg (by simp[cv])]
    refine Tot.bind (R:=fun x=>∃(v':Int) (g1:Nat→Nat),x=(0,[.r [.int (a:Int)], .r [.int (b:Int)], .r [.int v'], .r [fc], .r [.bool wb], .r [.bool wp], .r [.int ((b - a:Nat):Int)], .r (st R g1 n)])∧Sub g1 g a b) ?_ ?_
    ·cases wb with
     |true=>
      simp only[evs,List.length_set,and_self,and_true,true_and,ne_eq,not_false_eq_true,Option.bind_some,decide_eq_true_eq,Bool.not_eq_true',decide_eq_false_iff_not,not_true_eq_false,Bool.not_true,Bool.not_false,Bool.false_eq_true,decide_true,decide_false,if_true,if_false,ge_iff_le,gt_iff_lt]
      exact Tot.some ⟨_,_,rfl,Sub.refl _ _ _⟩
     |false=>
      obtain ⟨g',e1,e2⟩:=bp_ic (R:=R) (fc:=fc) hnb a b hlt hb (by omega) g
      simp only[evs,List.length_set,and_self,and_true,true_and,ne_eq,not_false_eq_true,Option.bind_some,decide_eq_true_eq,Bool.not_eq_true',decide_eq_false_iff_not,not_true_eq_false,Bool.not_true,Bool.not_false,Bool.false_eq_true,decide_true,decide_false,if_true,if_false,ge_iff_le,gt_iff_lt,e1]
      exact Tot.some ⟨_,_,rfl,e2⟩
    rintro _ ⟨v',g1,rfl,s1⟩
    obtain ⟨p,hint,e1,p1,p2⟩:=ch_ic hnb hc a b hlt hb (by omega) g1
    simp only[evs,List.length_set,and_self,and_true,true_and,ne_eq,not_false_eq_true,Option.bind_some,decide_eq_true_eq,Bool.not_eq_true',decide_eq_false_iff_not,not_true_eq_false,Bool.not_true,Bool.not_false,Bool.false_eq_true,decide_true,decide_false,if_true,if_false,ge_iff_le,gt_iff_lt,e1]
    refine Tot.bind (R:=fun x=>∃(p':Nat) (hint':Int) (g2:Nat→Nat),x=(0,[.r [.int (a:Int)], .r [.int (b:Int)], .r [.int v'], .r [fc], .r [.bool wb], .r [.bool wp], .r [.int ((b - a:Nat):Int)], .r [.int (p':Int)], .r [.int hint'], .r (st R g2 n)])∧a≤p'∧p'<b∧Sub g2 g a b) ?_ ?_
    ·by_cases ch:hint=2
     ·obtain ⟨g',f1,f2⟩:=rv_ic (R:=R) (fc:=fc) hnb a b hlt hb g1
      have u1:=wr_sub (i:=b) (j:=1) (by unfold big at hnb;omega) (by omega)
      rw[show ((1:Nat):Int)=1 from rfl]at u1
      have u2:=wr_sub (i:=p) (j:=a) (by unfold big at hnb;omega) p1
      have u3:=wr_sub (i:=b - 1) (j:=p - a) (by unfold big at hnb;omega) (by omega)
      rw[if_pos (by simp[ch])]
      simp only[evs,List.length_set,and_self,and_true,true_and,ne_eq,not_false_eq_true,Option.bind_some,decide_eq_true_eq,Bool.not_eq_true',decide_eq_false_iff_not,not_true_eq_false,Bool.not_true,Bool.not_false,Bool.false_eq_true,decide_true,decide_false,if_true,if_false,ge_iff_le,gt_iff_lt,f1,u1,u2,u3]
      exact Tot.some ⟨_,_,_,rfl,by omega,by omega,f2.trans s1⟩
     ·rw[if_neg (by simp[ch])]
      exact Tot.some ⟨_,_,_,rfl,p1,p2,s1⟩
    rintro _ ⟨p',hint',g2,rfl,p3,p4,s2⟩
    refine Tot.bind (R:=fun x=>∃q:Bool,x=(0,[.r [.int (a:Int)], .r [.int (b:Int)], .r [.int v'], .r [fc], .r [.bool wb], .r [.bool wp], .r [.int ((b - a:Nat):Int)], .r [.int (p':Int)], .r [.bool q], .r (st R g2 n)])) ?_ ?_
    ·cases wb<;>cases wp<;>simp only[evs,List.length_set,and_self,and_true,true_and,ne_eq,not_false_eq_true,Option.bind_some,decide_eq_true_eq,Bool.not_eq_true',decide_eq_false_iff_not,not_true_eq_false,Bool.not_true,Bool.not_false,Bool.false_eq_true,decide_true,decide_false,if_true,if_false,ge_iff_le,gt_iff_lt]<;>exact Tot.some ⟨_,rfl⟩
    rintro _ ⟨q,rfl⟩
    refine Tot.bind (R:=fun x=>(∃g':Nat→Nat,x=(1,[.r (st R g' n)])∧Sub g' g a b∧Wsr K g' a b)∨x=(0,[.r [.int (a:Int)], .r [.int (b:Int)], .r [.int v'], .r [fc], .r [.bool wb], .r [.bool wp], .r [.int ((b - a:Nat):Int)], .r [.int (p':Int)], .r (st R g2 n)])) ?_ ?_
    ·cases q with
     |false=>simp only[evs,List.length_set,and_self,and_true,true_and,ne_eq,not_false_eq_true,Option.bind_some,decide_eq_true_eq,Bool.not_eq_true',decide_eq_false_iff_not,not_true_eq_false,Bool.not_true,Bool.not_false,Bool.false_eq_true,decide_true,decide_false,if_true,if_false,ge_iff_le,gt_iff_lt];exact Tot.some (.inr rfl)
     |true=>
      obtain ⟨r,f1,f2⟩:=pi_ic hnb hc a b hlt hb (by omega) g2
      cases r with
      |true=>simp only[evs,List.length_set,and_self,and_true,true_and,ne_eq,not_false_eq_true,Option.bind_some,decide_eq_true_eq,Bool.not_eq_true',decide_eq_false_iff_not,not_true_eq_false,Bool.not_true,Bool.not_false,Bool.false_eq_true,decide_true,decide_false,if_true,if_false,ge_iff_le,gt_iff_lt,f1];exact Tot.some (.inl ⟨_,rfl,s2,f2 rfl⟩)
      |false=>simp only[evs,List.length_set,and_self,and_true,true_and,ne_eq,not_false_eq_true,Option.bind_some,decide_eq_true_eq,Bool.not_eq_true',decide_eq_false_iff_not,not_true_eq_false,Bool.not_true,Bool.not_false,Bool.false_eq_true,decide_true,decide_false,if_true,if_false,ge_iff_le,gt_iff_lt,f1];exact Tot.some (.inr rfl)
    rintro _ (⟨g',rfl,k1,k2⟩|rfl)
    ·simp only[evs,List.length_set,and_self,and_true,true_and,ne_eq,not_false_eq_true,Option.bind_some,decide_eq_true_eq,Bool.not_eq_true',decide_eq_false_iff_not,not_true_eq_false,Bool.not_true,Bool.not_false,Bool.false_eq_true,decide_true,decide_false,if_true,if_false,ge_iff_le,gt_iff_lt]
     exact Tot.some (.inl ⟨g',rfl,k1,k2⟩)
    have hp2:=hp.sub s2
    have rp:p'<n:=by omega
    have np:¬p'=n:=by omega
    refine Tot.bind (R:=fun x=>∃q:Bool,x=(0,[.r [.int (a:Int)], .r [.int (b:Int)], .r [.int v'], .r [fc], .r [.bool wb], .r [.bool wp], .r [.int ((b - a:Nat):Int)], .r [.int (p':Int)], .r [.bool q], .r (st R g2 n)])∧(q=true→0<a∧¬K (g2 (a - 1))<K (g2 p'))) ?_ ?_
    ·by_cases ca:0<a
     ·obtain ⟨z,rfl⟩:∃z,a=z+1:=⟨a - 1,by omega⟩
      have u1:=wr_pred (i:=z) (by omega)
      have rz:z<n:=by omega
      have nz:¬z=n:=by omega
      have ca':((z+1:Nat):Int)>0:=by omega
      simp only[evs,List.length_set,and_self,and_true,true_and,ne_eq,not_false_eq_true,Option.bind_some,decide_eq_true_eq,Bool.not_eq_true',decide_eq_false_iff_not,not_true_eq_false,Bool.not_true,Bool.not_false,Bool.false_eq_true,decide_true,decide_false,if_true,if_false,ge_iff_le,gt_iff_lt,ca']
      rw[if_pos (by omega)]
      simp only[evs,List.length_set,and_self,and_true,true_and,ne_eq,not_false_eq_true,Option.bind_some,decide_eq_true_eq,Bool.not_eq_true',decide_eq_false_iff_not,not_true_eq_false,Bool.not_true,Bool.not_false,Bool.false_eq_true,decide_true,decide_false,if_true,if_false,ge_iff_le,gt_iff_lt,u1,rz,nz,rp,np,arr_at R _ n _ rz,arr_at R _ n _ rp,hc.call]
      by_cases h:cm (g2 z) (g2 p')<0
      ·simp only[evs,List.length_set,and_self,and_true,true_and,ne_eq,not_false_eq_true,Option.bind_some,decide_eq_true_eq,Bool.not_eq_true',decide_eq_false_iff_not,not_true_eq_false,Bool.not_true,Bool.not_false,Bool.false_eq_true,decide_true,decide_false,if_true,if_false,ge_iff_le,gt_iff_lt,h]
       exact Tot.some ⟨false,rfl,fun h=>by simp at h⟩
      ·simp only[evs,List.length_set,and_self,and_true,true_and,ne_eq,not_false_eq_true,Option.bind_some,decide_eq_true_eq,Bool.not_eq_true',decide_eq_false_iff_not,not_true_eq_false,Bool.not_true,Bool.not_false,Bool.false_eq_true,decide_true,decide_false,if_true,if_false,ge_iff_le,gt_iff_lt,h]
       exact Tot.some ⟨true,rfl,fun _=>⟨ca,fun h'=>h ((hc.lt _ _).2 h')⟩⟩
     ·obtain rfl:a=0:=by omega
      exact Tot.some ⟨false,rfl,fun h=>by simp at h⟩
    rintro _ ⟨q,rfl,hq⟩
    cases q with
    |true=>
     obtain ⟨ca,hge⟩:=hq rfl
     obtain ⟨m,g3,f1,f2,f3,f4,f5,f6⟩:=pe_ic hnb hc a b p' p3 p4 hb g2
     simp only[evs,List.length_set,and_self,and_true,true_and,ne_eq,not_false_eq_true,Option.bind_some,decide_eq_true_eq,Bool.not_eq_true',decide_eq_false_iff_not,not_true_eq_false,Bool.not_true,Bool.not_false,Bool.false_eq_true,decide_true,decide_false,if_true,if_false,ge_iff_le,gt_iff_lt,f1]
     refine Tot.some (.inr ⟨m,b,v',wb,wp,g3,rfl,by omega,f3,hb,fun h0 q h1 h2=> ?_,fun g' z1 z2=>⟨(z1.mono (by omega) (Nat.le_refl _)).trans (f4.trans s2),fun x y h1 h2 h3=> ?_⟩⟩)
     ·have a1:=f5 (m - 1) (by omega) (by omega)
      have a2:=f6 q h1 h2
      omega
     ·by_cases c1:m≤x
      ·exact z2 x y c1 h2 h3
      ·rw[z1.out x (.inl (by omega))]
       have a1:=f5 x h1 (by omega)
       by_cases c2:y<m
       ·rw[z1.out y (.inl c2)]
        obtain ⟨j,j1,j2,j3⟩:=f4.fwd y (by omega) h3
        have a3:=hp2 ca j j1 j2
        rw[←j3]at a3
        omega
       ·obtain ⟨j,j1,j2,j3⟩:=z1.fwd y (by omega) h3
        rw[j3]
        have a2:=f6 j j1 j2
        omega
    |false=>
     obtain ⟨m,r,g3,f1,f2,f3,f4,f5,f6⟩:=pa_ic hnb hc a b p' p3 p4 hb g2
     have hp3:=hp2.sub f4
     have u1:=wr_sub (i:=m) (j:=a) (by unfold big at hnb;omega) f2
     have u2:=wr_sub (i:=b) (j:=m) (by unfold big at hnb;omega) (by omega)
     have u3:=wr_succ (i:=m) (by omega)
     simp only[evs,List.length_set,and_self,and_true,true_and,ne_eq,not_false_eq_true,Option.bind_some,decide_eq_true_eq,Bool.not_eq_true',decide_eq_false_iff_not,not_true_eq_false,Bool.not_true,Bool.not_false,Bool.false_eq_true,decide_true,decide_false,if_true,if_false,ge_iff_le,gt_iff_lt,f1,u1,u2,u3]
     by_cases c:m - a<b - m
     ·obtain ⟨g4,x1,x2,x3⟩:=pq_ic_of (pq_l0 hn hc d a m v' true true g3 (by omega) f2 (by omega) (fun h0 q h1 h2=>hp3 h0 q h1 (by omega)))
      simp only[evs,List.length_set,and_self,and_true,true_and,ne_eq,not_false_eq_true,Option.bind_some,decide_eq_true_eq,Bool.not_eq_true',decide_eq_false_iff_not,not_true_eq_false,Bool.not_true,Bool.not_false,Bool.false_eq_true,decide_true,decide_false,if_true,if_false,ge_iff_le,gt_iff_lt,c,x1]
      refine Tot.some (.inr ⟨m+1,b,v',_,_,g4,rfl,by omega,by omega,hb,fun h0 q h1 h2=> ?_,fun g' z1 z2=>⟨(z1.mono (by omega) (Nat.le_refl _)).trans ((x2.mono (Nat.le_refl _) (by omega)).trans (f4.trans s2)),join_part f2 f3 f5 f6 x2 z1 x3 z2⟩⟩)
      rw[Nat.add_sub_cancel,x2.out m (.inr (Nat.le_refl _)),x2.out q (.inr (by omega))]
      have:=f6 q (by omega) h2;omega
     ·obtain ⟨g4,x1,x2,x3⟩:=pq_ic_of (pq_l0 hn hc d (m+1) b v' true true g3 (by omega) (by omega) hb (fun h0 q h1 h2=>by
       rw[Nat.add_sub_cancel];have:=f6 q (by omega) h2;omega))
      simp only[evs,List.length_set,and_self,and_true,true_and,ne_eq,not_false_eq_true,Option.bind_some,decide_eq_true_eq,Bool.not_eq_true',decide_eq_false_iff_not,not_true_eq_false,Bool.not_true,Bool.not_false,Bool.false_eq_true,decide_true,decide_false,if_true,if_false,ge_iff_le,gt_iff_lt,c,x1]
      refine Tot.some (.inr ⟨a,m,v',_,_,g4,rfl,by omega,f2,by omega,fun h0 q h1 h2=> ?_,fun g' z1 z2=>⟨(z1.mono (Nat.le_refl _) (by omega)).trans ((x2.mono (by omega) (Nat.le_refl _)).trans (f4.trans s2)),join_part' f2 f3 f5 f6 x2 z1 x3 z2⟩⟩)
      rw[x2.out (a - 1) (.inl (by omega)),x2.out q (.inl (by omega))]
      exact hp3 h0 q h1 (by omega)
  ·rintro _ (⟨g',rfl,k1,k2⟩|⟨a',b',v',wb',wp',g1,rfl,k1,k2,k3,k4,k5⟩)
   ·simp only[evs,List.length_set,and_self,and_true,true_and,ne_eq,not_false_eq_true,Option.bind_some,decide_eq_true_eq,Bool.not_eq_true',decide_eq_false_iff_not,not_true_eq_false,Bool.not_true,Bool.not_false,Bool.false_eq_true,decide_true,decide_false,if_true,if_false,ge_iff_le,gt_iff_lt]
    exact Tot.some ⟨g',rfl,k1,k2⟩
   ·obtain ⟨g',e1,e2,e3⟩:=pq_l0 hn hc (d - 1) a' b' v' wb' wp' g1 (by omega) k2 k3 k4
    simp only[evs,List.length_set,and_self,and_true,true_and,ne_eq,not_false_eq_true,Option.bind_some,decide_eq_true_eq,Bool.not_eq_true',decide_eq_false_iff_not,not_true_eq_false,Bool.not_true,Bool.not_false,Bool.false_eq_true,decide_true,decide_false,if_true,if_false,ge_iff_le,gt_iff_lt,e1]
    exact Tot.some ⟨g',rfl,k5 g' e2 e3⟩
 termination_by d=>d
 decreasing_by all_goals omega
theorem sort_ic (hn:n<50) (hc:Cm R K fc cm) (g:Nat→Nat):∃g':Nat→Nat,(lim T).ic slices_SortFunc_2_api_Value_i3_n [.r [fc], .r (st R g n)]=some [.r (st R g' n)]∧Sub g' g 0 n∧Wsr K g' 0 n:=by
 rw[slices_SortFunc_2_api_Value_i3_ic];unfold slices_SortFunc_2_api_Value_i3
 obtain ⟨k,hk⟩:=len_tot hn
 have hu:=u64_nat (m:=n) (by unfold big;omega)
 obtain ⟨g',e1,e2,e3⟩:=pq_ic_of (v:=k) (pq_l0 hn hc n 0 n k true true g (by omega) (by omega) (Nat.le_refl _) (fun h=>absurd h (Nat.lt_irrefl _)))
 rw[show ((0:Nat):Int)=0 from rfl]at e1
 exact ⟨g',by simp only[evs,List.length_set,and_self,and_true,true_and,ne_eq,not_false_eq_true,Option.bind_some,decide_eq_true_eq,Bool.not_eq_true',decide_eq_false_iff_not,not_true_eq_false,Bool.not_true,Bool.not_false,Bool.false_eq_true,decide_true,decide_false,if_true,if_false,ge_iff_le,gt_iff_lt,hu,hk,e1],e2,e3⟩
end Go.Ev.Zzj
