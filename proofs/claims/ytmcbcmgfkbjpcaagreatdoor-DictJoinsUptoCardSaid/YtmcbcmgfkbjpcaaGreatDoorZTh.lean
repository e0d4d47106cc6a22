/-
  A part of the proof: what the functions of the program compute.
-/
import Derived.Test.YtmcbcmgfkbjpcaaGreatDoorZTg
set_option linter.all false
set_option maxRecDepth 100000
namespace Go.Ev.Zzj
variable {k0:Int} {l:List PP} {p0:PP}
theorem slc_rowsG (c:C) (a b:Nat):(slcC c (a:Int) (b:Int)).rows=(c.rows.take b).drop a:=by
 cases c<;>simp[slcC]
theorem spl_spec (c:C) (i:Nat) (hi:i<c.rows.length) (hN:c.rows.length≤big):∃d:C,(lim T).pc n_clapref3_spliced_2_api_Value [[c],[.int (i:Int)],[.int 1],[.nils]]=some [[d]]∧d.rows=c.rows.eraseIdx i:=by
 rw[clapref3_spliced_2_api_Value_pc];unfold clapref3_spliced_2_api_Value
 have w:=wr_succ (i:=i) (by omega)
 have s1:=slc_rowsG c 0 i
 rw[show ((0:Nat):Int)=0 from rfl,List.drop_zero]at s1
 have s2:=slc_rowsG c (i+1) c.rows.length
 rw[List.take_length]at s2
 have g1:i≤c.rows.length:=by omega
 have g2:i+1≤c.rows.length:=by omega
 have l1:(c.rows.take i).length*112≤140737488355328:=by unfold big at hN;rw[List.length_take];omega
 have l2:((c.rows.take i).length+0)*112≤140737488355328:=by unfold big at hN;rw[List.length_take];omega
 have l3:((c.rows.take i).length+(c.rows.drop (i+1)).length)*112≤140737488355328:=by unfold big at hN;rw[List.length_take,List.length_drop];omega
 refine ⟨appC (appC (appC .nils (c.rows.take i)) []) (c.rows.drop (i+1)), ?_, ?_⟩
 ·simp only[w,s1,s2,Int.natCast_nonneg,Int.ofNat_le,g1,g2,appC_rows,rows_nils,rows_sl,List.nil_append,List.append_nil,List.length_append,List.length_cons,List.length_nil,l1,l2,l3,Int.le_refl,Nat.le_refl,and_self,if_true]
 ·simp only[appC_rows,rows_nils,List.nil_append,List.append_nil,List.eraseIdx_eq_take_drop_succ]
theorem so_l1 (ho:Ord k0 l) (h0:p0∈l) (left out:C) (is:List Nat) (hc:left.rows=is.map (RR l p0)) (hN:is.length≤big):∀(j i k:Nat),i+j=is.length→k<is.length→(∀q (hq:q<is.length),q<i→KK k0 l p0 (is.getD k 0)≤KK k0 l p0 is[q])→
 ∃k':Nat,clapref3_Sorted_l1 (lim T) left (k:Int) left (is.length:Int) (i:Int) out=some (0,[.r [left], .r [.int (k':Int)], .r [out]])∧k'<is.length∧(∀q (hq:q<is.length),KK k0 l p0 (is.getD k' 0)≤KK k0 l p0 is[q])
 |0,i,k,h,hk,hm=>by
  rw[clapref3_Sorted_l1_eq];unfold clapref3_Sorted_b1
  obtain rfl:i=is.length:=by omega
  exact ⟨k,by simp,hk,fun q hq=>hm q hq hq⟩
 |j+1,i,k,h,hk,hm=>by
  rw[clapref3_Sorted_l1_eq];unfold clapref3_Sorted_b1
  have hi:i<is.length:=by omega
  have hll:left.rows.length=is.length:=by rw[hc,List.length_map]
  have hr:rowsAt left.rows i=RR l p0 is[i]:=by rw[hc];exact rowsAt_map _ _ _ hi
  have hrk:rowsAt left.rows k=RR l p0 is[k]:=by rw[hc];exact rowsAt_map _ _ _ hk
  have hgk:is.getD k 0=is[k]:=by simp[hk]
  have hgi:is.getD i 0=is[i]:=by simp[hi]
  have cm:=cmp_pair ho (l.getD is[i] p0) (l.getD is[k] p0) (mem_getD h0 _) (mem_getD h0 _)
  have hlt:=KK_lt (k0:=k0) h0 is[i] is[k]
  have e1:RR l p0 is[i]=pairRow (l.getD is[i] p0):=rfl
  have e2:RR l p0 is[k]=pairRow (l.getD is[k] p0):=rfl
  by_cases c:kv k0 (l.getD is[i] p0).1 (l.getD is[k] p0).1<0
  ·obtain ⟨k',f1,f2,f3⟩:=so_l1 ho h0 left out is hc hN j (i+1) i (by omega) hi (fun q hq hqi=>by
    rw[hgi]
    have a1:=hlt.1 c
    by_cases z:q=i
    ·subst z;exact Int.le_refl _
    ·have:=hm q hq (by omega);rw[hgk]at this;omega)
   refine ⟨k', ?_,f2,f3⟩
   simp only[Int.natCast_nonneg,Int.ofNat_lt,hi,hk,hll,and_self,decide_true,if_true,Int.toNat_natCast,hr,hrk,e1,e2,cm,Option.bind_some,rowsAt_zero,at_zero,toI_int,decide_eq_true_eq,c,wrap_nat (show i≤big by omega),f1]
  ·obtain ⟨k',f1,f2,f3⟩:=so_l1 ho h0 left out is hc hN j (i+1) k (by omega) hk (fun q hq hqi=>by
    by_cases z:q=i
    ·subst z
     rw[hgk]
     have:¬KK k0 l p0 is[q]<KK k0 l p0 is[k]:=fun h=>c (hlt.2 h)
     omega
    ·exact hm q hq (by omega))
   refine ⟨k', ?_,f2,f3⟩
   simp only[Int.natCast_nonneg,Int.ofNat_lt,hi,hk,hll,and_self,decide_true,if_true,Int.toNat_natCast,hr,hrk,e1,e2,cm,Option.bind_some,rowsAt_zero,at_zero,toI_int,decide_eq_true_eq,c,if_false,wrap_nat (show i≤big by omega),f1]
theorem mem_erase_split (is:List Nat) (k:Nat) (hk:k<is.length) (x:Nat):x∈is↔x=is[k]∨x∈is.eraseIdx k:=by
 rw[List.eraseIdx_eq_take_drop_succ]
 conv=>lhs;rw[←List.take_append_drop k is,List.drop_eq_getElem_cons hk]
 simp only[List.mem_append,List.mem_cons]
 constructor
 ·rintro (h |h |h)
  ·exact .inr (.inl h)
  ·exact .inl h
  ·exact .inr (.inr h)
 ·rintro (h |h |h)
  ·exact .inr (.inl h)
  ·exact .inl h
  ·exact .inr (.inr h)
theorem map_eraseIdx' {α β:Type} (f:α→β) (l:List α) (k:Nat):(l.map f).eraseIdx k=(l.eraseIdx k).map f:=by
 rw[List.eraseIdx_eq_take_drop_succ,List.eraseIdx_eq_take_drop_succ,List.map_append,List.map_take,List.map_drop]
theorem so_l0 (ho:Ord k0 l) (h0:p0∈l):∀(m:Nat) (left out:C) (is os:List Nat),is.length=m→left.rows=is.map (RR l p0)→out.rows=os.map (RR l p0)→is.length+os.length≤1000→os.Pairwise (fun a b=>KK k0 l p0 a≤KK k0 l p0 b)→(∀a∈os,∀b∈is,KK k0 l p0 a≤KK k0 l p0 b)→
 ∃(d:C) (hs:List Nat),clapref3_Sorted_l0 (lim T) left out=some (0,[.r [d]])∧d.rows=hs.map (RR l p0)∧hs.Pairwise (fun a b=>KK k0 l p0 a≤KK k0 l p0 b)∧hs.length=is.length+os.length∧(∀x,x∈hs↔x∈is∨x∈os)
 |0,left,out,is,os,hm,hl,hr,hN,s1,s2=>by
  rw[clapref3_Sorted_l0_eq];unfold clapref3_Sorted_b0
  have:is=[]:=List.length_eq_zero_iff.1 hm
  subst this
  refine ⟨out,os, ?_,hr,s1,by simp,fun x=>by simp⟩
  simp[hl]
 |m+1,left,out,is,os,hm,hl,hr,hN,s1,s2=>by
  rw[clapref3_Sorted_l0_eq];unfold clapref3_Sorted_b0
  have hll:left.rows.length=is.length:=by rw[hl,List.length_map]
  have hol:out.rows.length=os.length:=by rw[hr,List.length_map]
  have c1:(is.length:Int)>0:=by omega
  obtain ⟨k,e1,e2,e3⟩:=so_l1 ho h0 left out is hl (by unfold big;omega) is.length 0 0 (by omega) (by omega) (fun q hq h=>by omega)
  rw[show ((0:Nat):Int)=0 from rfl]at e1
  have hgk:is.getD k 0=is[k]:=by simp[e2]
  rw[hgk]at e3
  obtain ⟨d,d1,d2⟩:=spl_spec left k (by omega) (by unfold big;omega)
  have hrk:rowsAt left.rows k=RR l p0 is[k]:=by rw[hl];exact rowsAt_map _ _ _ e2
  have hg:(os.length+1)*112≤140737488355328:=by omega
  have hel:(is.eraseIdx k).length=m:=by rw[List.length_eraseIdx_of_lt e2];omega
  obtain ⟨d',hs,f1,f2,f3,f4,f5⟩:=so_l0 ho h0 m d (appC out [RR l p0 is[k]]) (is.eraseIdx k) (os++[is[k]]) hel (by rw[d2,hl,map_eraseIdx']) (by rw[appC_rows,hr,List.map_append];rfl) (by rw[List.length_append,hel];simp;omega)
   (List.pairwise_append.2 ⟨s1,by simp,fun a ha b hb=>by rw[List.mem_singleton.1 hb];exact s2 a ha _ (List.getElem_mem e2)⟩)
   (fun a ha b hb=>by
     have hb':b∈is:=(mem_erase_split is k e2 b).2 (.inr hb)
     rcases List.mem_append.1 ha with ha |ha
     ·exact s2 a ha b hb'
     ·rw[List.mem_singleton.1 ha]
      obtain ⟨q,hq,rfl⟩:=List.mem_iff_getElem.1 hb'
      exact e3 q hq)
  refine ⟨d',hs, ?_,f2,f3,by rw[f4,hel,List.length_append];simp;omega,fun x=> ?_⟩
  ·simp only[hll,c1,decide_true,if_true,e1,Option.bind_some,gI_s,gI_z,gC_s,gC_z,Int.natCast_nonneg,Int.ofNat_lt,e2,and_self,Int.toNat_natCast,hrk,hol,List.length_cons,List.length_nil,Nat.zero_add,hg,d1,rowsAt_zero,at_zero,f1]
  ·rw[f5,List.mem_append,List.mem_singleton,mem_erase_split is k e2]
   constructor
   ·rintro (h |h |h)
    ·exact .inl (.inr h)
    ·exact .inr h
    ·exact .inl (.inl h)
   ·rintro ((h |h)|h)
    ·exact .inr (.inr h)
    ·exact .inl h
    ·exact .inr (.inl h)
theorem len_le:∀(l m:List Nat),l.Nodup→(∀x∈l,x∈m)→l.length≤m.length
 |[],m,_,_=>Nat.zero_le _
 |a::l,m,hn,hs=>by
  have ha:=hs a (by simp)
  have hn':=List.nodup_cons.1 hn
  have ih:=len_le l (m.erase a) hn'.2 (fun x hx=>(List.mem_erase_of_ne (fun h:x=a=>hn'.1 (by rw[←h];exact hx))).2 (hs x (by simp[hx])))
  rw[List.length_erase_of_mem ha]at ih
  have:0<m.length:=List.length_pos_of_mem ha
  simp only[List.length_cons];omega
theorem onto_inj {f:Nat→Nat} {n:Nat} (h:∀y,y<n→∃x,x<n∧f x=y):∀i j,i<n→j<n→f i=f j→i=j:=by
 intro i j hi hj e
 apply Classical.byContradiction
 intro c
 have:=len_le (List.range n) (((List.range n).erase j).map f) List.nodup_range (fun y hy=>by
  obtain ⟨x,x1,x2⟩:=h y (List.mem_range.1 hy)
  by_cases z:x=j
  ·refine List.mem_map.2 ⟨i,(List.mem_erase_of_ne c).2 (List.mem_range.2 hi), ?_⟩
   rw[e,←z,x2]
  ·exact List.mem_map.2 ⟨x,(List.mem_erase_of_ne z).2 (List.mem_range.2 x1),x2⟩)
 rw[List.length_map,List.length_erase_of_mem (List.mem_range.2 hj),List.length_range]at this
 omega
theorem wsr_srt {K:Nat→Int} {g:Nat→Nat} {n:Nat} (hK:∀i j,i<n→j<n→K i=K j→i=j) (hw:Wsr K g 0 n) (h1:∀x,x<n→g x<n) (h2:∀y,y<n→∃x,x<n∧g x=y):Srt K g 0 n:=fun i j a b c=>by
 have:=hw i j a b c
 refine .inl ?_
 have hne:K (g i)≠K (g j):=fun e=>by
  have:=onto_inj h2 i j (by omega) c (hK _ _ (h1 i (by omega)) (h1 j c) e)
  omega
 omega
theorem sorted_spec (c:C) (hc:c.rows=l.map pairRow) (ho:Ord k0 l) (h0:p0∈l) (hn:l.length<50):∃(d:C) (h:Nat→Nat),(lim T).pc n_clapref3_Sorted [[c]]=some [[d]]∧d.rows=arr (RR l p0) h l.length∧Srt (KK k0 l p0) h 0 l.length∧(∀x,x<l.length→h x<l.length)∧(∀y,y<l.length→∃x,x<l.length∧h x=y):=by
 rw[clapref3_Sorted_pc];unfold clapref3_Sorted
 have hll:c.rows.length=l.length:=by rw[hc,List.length_map]
 have hg:l.length*112≤140737488355328:=by omega
 have hr:(appC .nils c.rows).rows=(List.range l.length).map (RR l p0):=by
  rw[appC_rows,hc]
  apply List.ext_getElem
  ·simp
  ·intro q h1 h2
   have hq:q<l.length:=by simpa using h2
   simp[RR,hq]
 obtain ⟨d,hs,e1,e2,e3,e4,e5⟩:=so_l0 ho h0 l.length _ .nils (List.range l.length) [] (by simp) hr rfl (by simp;omega) List.Pairwise.nil (fun a ha=>by simp at ha)
 have hlen:hs.length=l.length:=by rw[e4];simp
 have hd:d.rows=arr (RR l p0) (fun x=>hs.getD x 0) l.length:=by
  rw[e2]
  apply List.ext_getElem
  ·simp[arr,hlen]
  ·intro q h1 h2
   have hq:q<hs.length:=by simpa using h1
   simp[arr,hq]
 have r1:∀x,x<l.length→hs.getD x 0<l.length:=fun x hx=>by
  have hx':x<hs.length:=by omega
  have:=(e5 (hs.getD x 0)).1 (by simp[hx',List.getElem_mem])
  simpa using this
 have r2:∀y,y<l.length→∃x,x<l.length∧hs.getD x 0=y:=fun y hy=>by
  have:y∈hs:=(e5 y).2 (.inl (List.mem_range.2 hy))
  obtain ⟨q,hq,rfl⟩:=List.mem_iff_getElem.1 this
  exact ⟨q,by omega,by simp[hq]⟩
 refine ⟨d,fun x=>hs.getD x 0, ?_,hd,wsr_srt (KK_inj ho h0) (fun i j a b c=> ?_) r1 r2,r1,r2⟩
 ·rw[hll,if_pos hg,e1];rfl
 ·have hi:i<hs.length:=by omega
  have hj:j<hs.length:=by omega
  have:=List.pairwise_iff_getElem.1 e3 i j hi hj b
  simpa[hi,hj]using this
end Go.Ev.Zzj
