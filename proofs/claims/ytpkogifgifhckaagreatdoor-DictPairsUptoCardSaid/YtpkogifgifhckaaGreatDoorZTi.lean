/-
  A part of the proof: what the functions of the program compute.
-/
import Derived.Test.YtpkogifgifhckaaGreatDoorZTh
set_option linter.all false
set_option maxRecDepth 100000
namespace Go.Ev.Zzd
theorem to_spec (c:C) (l:List PP) (hc:c.rows=l.map pairRow) (hl:PairsOk l) (v:Val) (hv:v.wf):∃(r:Row) (b:Bool),(lim T).pc n_dict_To [[c],v.row]=some [r,[.bool b]]∧b=decide (ix (sm v 0) l 0≥0)∧(b=true→∃(q:Nat) (hq:q<l.length),ix (sm v 0) l 0=(q:Int)∧r=l[q].2.row):=by
 have e:(lim T).pc n_dict_To [[c],v.row]=dict_To (lim T) c v.row:=dict_To_pc c v.row
 rw[e];unfold dict_To
 have hf:=find_spec c l hc hl v hv 0 (by omega)
 rw[show ((0:Nat):Int)=0 from rfl]at hf
 rw[hf]
 by_cases h:0≤ix (sm v 0) l 0
 ·obtain ⟨q,q1,q2⟩:=ix_some h
  rw[Nat.zero_add]at q1
  have hr:rowsAt c.rows q=pairRow l[q]:=by rw[hc];exact rowsAt_map _ _ _ q2
  have hll:c.rows.length=l.length:=by rw[hc,List.length_map]
  have cp:=copy3_spec l[q].2 (hl.bulk _ (List.getElem_mem q2) 1)
  have hrow:([at_ (pairRow l[q]) 4,at_ (pairRow l[q]) 5,at_ (pairRow l[q]) 6,at_ (pairRow l[q]) 7]:Row)=l[q].2.row:=rfl
  refine ⟨l[q].2.row,true, ?_,(decide_eq_true h).symm,fun _=>⟨q,q2,q1,rfl⟩⟩
  rw[q1]
  have c0:(q:Int)≥0:=by omega
  simp only[Option.bind_some,rowsAt_zero,at_zero,toI_int,c0,decide_true,if_true,Int.natCast_nonneg,Int.ofNat_lt,q2,hll,and_self,Int.toNat_natCast,hr,hrow,cp,gR_z]
 ·have h':¬ix (sm v 0) l 0≥0:=h
  refine ⟨[.int 0, .int 0, .str [], .nils],false, ?_,(decide_eq_false h').symm,fun k=>absurd k (by decide)⟩
  simp only[Option.bind_some,rowsAt_zero,at_zero,toI_int,h',decide_false,Bool.false_eq_true,if_false]
theorem from_spec (c:C) (l:List PP) (hc:c.rows=l.map pairRow) (hl:PairsOk l) (v:Val) (hv:v.wf):∃(r:Row) (b:Bool),(lim T).pc n_dict_From [[c],v.row]=some [r,[.bool b]]∧b=decide (ix (sm v 1) l 0≥0)∧(b=true→∃(q:Nat) (hq:q<l.length),ix (sm v 1) l 0=(q:Int)∧r=l[q].1.row):=by
 have e:(lim T).pc n_dict_From [[c],v.row]=dict_From (lim T) c v.row:=dict_From_pc c v.row
 rw[e];unfold dict_From
 have hf:=find_spec c l hc hl v hv 1 (by omega)
 rw[show ((1:Nat):Int)=1 from rfl]at hf
 rw[hf]
 by_cases h:0≤ix (sm v 1) l 0
 ·obtain ⟨q,q1,q2⟩:=ix_some h
  rw[Nat.zero_add]at q1
  have hr:rowsAt c.rows q=pairRow l[q]:=by rw[hc];exact rowsAt_map _ _ _ q2
  have hll:c.rows.length=l.length:=by rw[hc,List.length_map]
  have cp:=copy3_spec l[q].1 (hl.bulk _ (List.getElem_mem q2) 0)
  refine ⟨l[q].1.row,true, ?_,(decide_eq_true h).symm,fun _=>⟨q,q2,q1,rfl⟩⟩
  rw[q1]
  have c0:(q:Int)≥0:=by omega
  simp only[Option.bind_some,rowsAt_zero,at_zero,toI_int,c0,decide_true,if_true,Int.natCast_nonneg,Int.ofNat_lt,q2,hll,and_self,Int.toNat_natCast,hr,row_fst,cp,gR_z]
 ·have h':¬ix (sm v 1) l 0≥0:=h
  refine ⟨[.int 0, .int 0, .str [], .nils],false, ?_,(decide_eq_false h').symm,fun k=>absurd k (by decide)⟩
  simp only[Option.bind_some,rowsAt_zero,at_zero,toI_int,h',decide_false,Bool.false_eq_true,if_false]
theorem sp_l (c d:C) (l:List PP) (hc:c.rows=l.map pairRow) (hd:d.rows=l.map pairRow) (hl:PairsOk l):∀(j i:Nat),i+j=l.length→
 slices_EqualFunc_2_api_Value_l0 (lim T) d (.fn n_claplaw3_samePair []) c (l.length:Int) (i:Int)=some (0,[])
 |0,i,h=>by
  rw[slices_EqualFunc_2_api_Value_l0_eq];unfold slices_EqualFunc_2_api_Value_b0
  obtain rfl:i=l.length:=by omega
  simp
 |j+1,i,h=>by
  rw[slices_EqualFunc_2_api_Value_l0_eq];unfold slices_EqualFunc_2_api_Value_b0
  have ih:=sp_l c d l hc hd hl j (i+1) (by omega)
  have hN:=hl.len
  have hi:i<l.length:=by omega
  have hm:=List.getElem_mem hi
  have hlc:c.rows.length=l.length:=by rw[hc,List.length_map]
  have hld:d.rows.length=l.length:=by rw[hd,List.length_map]
  have hrc:rowsAt c.rows i=pairRow l[i]:=by rw[hc];exact rowsAt_map _ _ _ hi
  have hrd:rowsAt d.rows i=pairRow l[i]:=by rw[hd];exact rowsAt_map _ _ _ hi
  have s1:=same_spec l[i].1 l[i].1 (hl.wf _ hm 0) (hl.wf _ hm 0) (hl.bulk _ hm 0)
  have s2:=same_spec l[i].2 l[i].2 (hl.wf _ hm 1) (hl.wf _ hm 1) (hl.bulk _ hm 1)
  rw[Val.eqv_refl]at s1 s2
  have hrow:([at_ (pairRow l[i]) 4,at_ (pairRow l[i]) 5,at_ (pairRow l[i]) 6,at_ (pairRow l[i]) 7]:Row)=l[i].2.row:=rfl
  have hcall:callC (lim T) (.fn n_claplaw3_samePair []) [pairRow l[i],pairRow l[i]]=some [[.bool true]]:=by
   show (lim T).pc n_claplaw3_samePair [pairRow l[i],pairRow l[i]]=_
   rw[claplaw3_samePair_pc];unfold claplaw3_samePair
   simp only[row_fst,hrow,s1,s2,Option.bind_some,rowsAt_zero,at_zero,toB_bool,if_true]
  simp only[Int.natCast_nonneg,Int.ofNat_lt,hi,hlc,hld,and_self,decide_true,if_true,Int.toNat_natCast,hrc,hrd,hcall,Option.bind_some,rowsAt_zero,at_zero,toB_bool,Bool.not_true,Bool.false_eq_true,if_false,wrap_nat (show i≤big by omega),ih]
theorem sp_spec (c d:C) (l:List PP) (hc:c.rows=l.map pairRow) (hd:d.rows=l.map pairRow) (hl:PairsOk l):(lim T).pc n_claplaw3_samePairs [[c],[d]]=some [[.bool true]]:=by
 rw[claplaw3_samePairs_pc];unfold claplaw3_samePairs
 rw[slices_EqualFunc_2_api_Value_pc];unfold slices_EqualFunc_2_api_Value
 have hlc:c.rows.length=l.length:=by rw[hc,List.length_map]
 have hld:d.rows.length=l.length:=by rw[hd,List.length_map]
 have e:=sp_l c d l hc hd hl _ 0 (Nat.zero_add _)
 rw[show ((0:Nat):Int)=0 from rfl]at e
 simp[hlc,hld,e]
def sw (p:PP):PP:=(p.2,p.1)
theorem sw_ok {l:List PP} (h:PairsOk l):PairsOk (l.map sw):=by
 refine ⟨fun p hp k=> ?_,fun p hp k=> ?_,by rw[List.length_map];exact h.len⟩
 ·obtain ⟨q,hq,rfl⟩:=List.mem_map.1 hp
  cases k with
  |zero=>exact h.wf q hq 1
  |succ k=>exact h.wf q hq 0
 ·obtain ⟨q,hq,rfl⟩:=List.mem_map.1 hp
  cases k with
  |zero=>exact h.bulk q hq 1
  |succ k=>exact h.bulk q hq 0
theorem ord_of {l:List PP} (hl:PairsOk l) (h:pairsE l=0):∃(p0:PP) (k0 k1:Int),p0∈l∧l.length<50∧Ord k0 l∧Ord k1 (l.map sw):=by
 cases l with
 |nil=>simp[pairsE]at h
 |cons p r=>
  rw[pairsE]at h
  split at h
  ·exact absurd h (by decide)
  ·obtain ⟨a1,a2⟩:=go_good (p::r) [] hl h
   refine ⟨p,p.1.k,p.2.k,by simp,by simp;omega,⟨hl,fun q hq=>(a1 q hq).1,fun i j hi hj hij=>(a2 i j hi hj hij).1⟩,⟨sw_ok hl,fun q hq=> ?_,fun i j hi hj hij=> ?_⟩⟩
   ·obtain ⟨x,hx,rfl⟩:=List.mem_map.1 hq
    exact (a1 x hx).2.1
   ·simp only[List.getElem_map,sw]
    exact (a2 i j (by simpa using hi) (by simpa using hj) hij).2
theorem sort_spec (c:C) (l:List PP) (hc:c.rows=l.map pairRow) (hl:PairsOk l):∃d:C,(lim T).pc n_dict_Sort [[c]]=some [[d],[.int (pairsE l)]]∧(pairsE l≠0→d= .nils)∧(pairsE l=0→(lim T).pc n_dict_sorted [[c]]=some [[d]]):=by
 rw[dict_Sort_pc];unfold dict_Sort
 rw[dcheck_spec c l hc hl]
 by_cases h:pairsE l=0
 ·obtain ⟨p0,k0,k1,h0,hn,o1,o2⟩:=ord_of hl h
  obtain ⟨d,g,s1,_⟩:=ds_spec c hc o1 h0 hn
  exact ⟨d,by simp[h,s1],fun k=>absurd h k,fun _=>s1⟩
 ·exact ⟨.nils,by simp[h],fun _=>rfl,fun k=>absurd k h⟩
theorem sw_row (p:PP):([at_ (pairRow p) 4,at_ (pairRow p) 5,at_ (pairRow p) 6,at_ (pairRow p) 7,at_ (pairRow p) 0,at_ (pairRow p) 1,at_ (pairRow p) 2,at_ (pairRow p) 3]:Row)=pairRow (sw p):=rfl
theorem in_l (c:C) (l:List PP) (hc:c.rows=l.map pairRow) (hN:l.length≤big):∀(j i:Nat),i+j=l.length→∀d:C,d.rows=((l.take i).map sw).map pairRow→
 ∃d':C,dict_Invert_l0 (lim T) c (l.length:Int) (i:Int) d=some (0,[.r [d']])∧d'.rows=(l.map sw).map pairRow
 |0,i,h,d,hd=>by
  rw[dict_Invert_l0_eq];unfold dict_Invert_b0
  obtain rfl:i=l.length:=by omega
  exact ⟨d,by simp,by rw[hd,List.take_length]⟩
 |j+1,i,h,d,hd=>by
  rw[dict_Invert_l0_eq];unfold dict_Invert_b0
  have hi:i<l.length:=by omega
  have hlc:c.rows.length=l.length:=by rw[hc,List.length_map]
  have hrc:rowsAt c.rows i=pairRow l[i]:=by rw[hc];exact rowsAt_map _ _ _ hi
  have hdl:d.rows.length=i:=by rw[hd,List.length_map,List.length_map,List.length_take];omega
  have hg:(i+1)*112≤140737488355328:=by unfold big at hN;omega
  have ht:l.take (i+1)=l.take i++[l[i]]:=by rw[List.take_add_one,List.getElem?_eq_getElem hi];rfl
  obtain ⟨d',e1,e2⟩:=in_l c l hc hN j (i+1) (by omega) (appC d [pairRow (sw l[i])]) (by rw[appC_rows,hd,ht,List.map_append,List.map_append];rfl)
  refine ⟨d', ?_,e2⟩
  simp only[Int.natCast_nonneg,Int.ofNat_lt,hi,hlc,and_self,decide_true,if_true,Int.toNat_natCast,hrc,sw_row,hdl,List.length_cons,List.length_nil,Nat.zero_add,hg,wrap_nat (show i≤big by omega),e1]
theorem tu_l (x:C) (s t:C) (c:C) (l:List PP) (hc:c.rows=l.map pairRow) (hN:l.length≤big):∀(j i:Nat),i+j=l.length→∀d:C,d.rows=((l.take i).map sw).map pairRow→
 ∃d':C,claplaw3_DictPairs_l0 (lim T) x s t c (l.length:Int) (i:Int) d=some (0,[.r [x], .r [s], .r [t], .r [d']])∧d'.rows=(l.map sw).map pairRow
 |0,i,h,d,hd=>by
  rw[claplaw3_DictPairs_l0_eq];unfold claplaw3_DictPairs_b0
  obtain rfl:i=l.length:=by omega
  exact ⟨d,by simp,by rw[hd,List.take_length]⟩
 |j+1,i,h,d,hd=>by
  rw[claplaw3_DictPairs_l0_eq];unfold claplaw3_DictPairs_b0
  have hi:i<l.length:=by omega
  have hlc:c.rows.length=l.length:=by rw[hc,List.length_map]
  have hrc:rowsAt c.rows i=pairRow l[i]:=by rw[hc];exact rowsAt_map _ _ _ hi
  have hdl:d.rows.length=i:=by rw[hd,List.length_map,List.length_map,List.length_take];omega
  have hg:(i+1)*112≤140737488355328:=by unfold big at hN;omega
  have ht:l.take (i+1)=l.take i++[l[i]]:=by rw[List.take_add_one,List.getElem?_eq_getElem hi];rfl
  obtain ⟨d',e1,e2⟩:=tu_l x s t c l hc hN j (i+1) (by omega) (appC d [pairRow (sw l[i])]) (by rw[appC_rows,hd,ht,List.map_append,List.map_append];rfl)
  refine ⟨d', ?_,e2⟩
  simp only[Int.natCast_nonneg,Int.ofNat_lt,hi,hlc,and_self,decide_true,if_true,Int.toNat_natCast,hrc,sw_row,hdl,List.length_cons,List.length_nil,Nat.zero_add,hg,wrap_nat (show i≤big by omega),e1]
theorem invert_spec (c:C) (l:List PP) (hc:c.rows=l.map pairRow) (hl:PairsOk l):∃d c2:C,(lim T).pc n_dict_Invert [[c]]=some [[d],[.int (pairsE l)]]∧(pairsE l≠0→d= .nils)∧(pairsE l=0→c2.rows=(l.map sw).map pairRow∧(lim T).pc n_dict_sorted [[c2]]=some [[d]]):=by
 rw[dict_Invert_pc];unfold dict_Invert
 rw[dcheck_spec c l hc hl]
 have hlc:c.rows.length=l.length:=by rw[hc,List.length_map]
 by_cases h:pairsE l=0
 ·obtain ⟨p0,k0,k1,h0,hn,o1,o2⟩:=ord_of hl h
  obtain ⟨c2,e1,e2⟩:=in_l c l hc hl.len _ 0 (Nat.zero_add _) .nils (by simp)
  rw[show ((0:Nat):Int)=0 from rfl]at e1
  obtain ⟨d,g,s1,_⟩:=ds_spec c2 e2 o2 (List.mem_map_of_mem h0) (by rw[List.length_map];exact hn)
  exact ⟨d,c2,by simp[h,hlc,e1,s1],fun k=>absurd h k,fun _=>⟨e2,s1⟩⟩
 ·exact ⟨.nils, .nils,by simp[h],fun _=>rfl,fun k=>absurd k h⟩
theorem looked_true:(lim T).pc n_claplaw3_looked []=some [[.bool true]]:=(lim_pc T).2 ⟨60,by kernel_rfl⟩
theorem law (c:C) (l:List PP) (hc:c.rows=l.map pairRow) (hl:PairsOk l) (v:Val) (hv:v.wf):(lim T).pc n_claplaw3_DictPairs [[c],v.row]=some [[.bool true]]:=by
 have e:(lim T).pc n_claplaw3_DictPairs [[c],v.row]=claplaw3_DictPairs (lim T) c v.row:=claplaw3_DictPairs_pc c v.row
 rw[e];unfold claplaw3_DictPairs
 have a0:=at_spec c l hc hl v hv 0 (by omega)
 have a1:=at_spec c l hc hl v hv 1 (by omega)
 rw[show ((0:Nat):Int)=0 from rfl]at a0
 rw[show ((1:Nat):Int)=1 from rfl]at a1
 obtain ⟨r0,b0,t1,t2,t3⟩:=to_spec c l hc hl v hv
 obtain ⟨r1,b1,u1,u2,u3⟩:=from_spec c l hc hl v hv
 have hll:c.rows.length=l.length:=by rw[hc,List.length_map]
 rw[looked_true,a0,a1,t1,u1]
 apply Tot.eq
 simp only[Option.bind_some,rowsAt_zero,at_zero,toB_bool,Bool.not_true,Bool.false_eq_true,if_false,toI_int,rowsAt_succ,←t2,←u2,beq_self_eq_true]
 refine Tot.bind (R:=fun x=>x=(0,[.r [.dp [c]], .r [.bool false]])) ?_ ?_
 ·have k0:b0=true→∃(q:Nat) (hq:q<l.length),ix (sm v 0) l 0=(q:Int)∧(lim T).pc n_value_Same [r0,[at_ (rowsAt c.rows q) 4,at_ (rowsAt c.rows q) 5,at_ (rowsAt c.rows q) 6,at_ (rowsAt c.rows q) 7]]=some [[.bool true]]:=fun h=>by
   obtain ⟨q,hq,q1,q2⟩:=t3 h
   have hr:rowsAt c.rows q=pairRow l[q]:=by rw[hc];exact rowsAt_map _ _ _ hq
   have hm:=List.getElem_mem hq
   have s:=same_spec l[q].2 l[q].2 (hl.wf _ hm 1) (hl.wf _ hm 1) (hl.bulk _ hm 1)
   rw[Val.eqv_refl]at s
   exact ⟨q,hq,q1,by rw[hr,q2];exact s⟩
  have k1:b1=true→∃(q:Nat) (hq:q<l.length),ix (sm v 1) l 0=(q:Int)∧(lim T).pc n_value_Same [r1,[at_ (rowsAt c.rows q) 0,at_ (rowsAt c.rows q) 1,at_ (rowsAt c.rows q) 2,at_ (rowsAt c.rows q) 3]]=some [[.bool true]]:=fun h=>by
   obtain ⟨q,hq,q1,q2⟩:=u3 h
   have hr:rowsAt c.rows q=pairRow l[q]:=by rw[hc];exact rowsAt_map _ _ _ hq
   have hm:=List.getElem_mem hq
   have s:=same_spec l[q].1 l[q].1 (hl.wf _ hm 0) (hl.wf _ hm 0) (hl.bulk _ hm 0)
   rw[Val.eqv_refl]at s
   exact ⟨q,hq,q1,by rw[hr,q2];exact s⟩
  have m0:∀q:Nat,(if (0:Int)>(q:Int)then 0 else (q:Int))=(q:Int):=fun q=>if_neg (by omega)
  have nb:(false==false)=true:=rfl
  cases b0 with
  |false=>
   have n0:¬ix (sm v 0) l 0≥0:=of_decide_eq_false t2.symm
   cases b1 with
   |false=>
    have n1:¬ix (sm v 1) l 0≥0:=of_decide_eq_false u2.symm
    simp only[n0,n1,decide_false,nb,Bool.not_true,Bool.false_eq_true,if_false];exact Tot.some rfl
   |true=>
    obtain ⟨q,hq,q1,q2⟩:=k1 rfl
    simp only[n0,decide_false,nb,Bool.not_true,Bool.false_eq_true,if_false,if_true,q1,m0,ge_iff_le,Int.natCast_nonneg,decide_true,beq_self_eq_true,Int.ofNat_lt,hq,hll,and_self,Int.toNat_natCast,q2,Option.bind_some,rowsAt_zero,at_zero,toB_bool];exact Tot.some rfl
  |true=>
   obtain ⟨p,hp,p1,p2⟩:=k0 rfl
   cases b1 with
   |false=>
    have n1:¬ix (sm v 1) l 0≥0:=of_decide_eq_false u2.symm
    simp only[n1,decide_false,nb,Bool.not_true,Bool.false_eq_true,if_false,if_true,p1,m0,ge_iff_le,Int.natCast_nonneg,decide_true,beq_self_eq_true,Int.ofNat_lt,hp,hll,and_self,Int.toNat_natCast,p2,Option.bind_some,rowsAt_zero,at_zero,toB_bool];exact Tot.some rfl
   |true=>
    obtain ⟨q,hq,q1,q2⟩:=k1 rfl
    simp only[Bool.not_true,Bool.false_eq_true,if_false,if_true,p1,q1,m0,ge_iff_le,Int.natCast_nonneg,decide_true,beq_self_eq_true,Int.ofNat_lt,hp,hq,hll,and_self,Int.toNat_natCast,p2,q2,Option.bind_some,rowsAt_zero,at_zero,toB_bool];exact Tot.some rfl
 rintro _ rfl
 obtain ⟨s,s1,s2,s3⟩:=sort_spec c l hc hl
 obtain ⟨t,c2,i1,i2,i3⟩:=invert_spec c l hc hl
 have rp:=rpairs_spec c l hc hl
 have dc:=dcheck_spec c l hc hl
 obtain ⟨d',w1,w2⟩:=tu_l (.dp [c]) s t c l hc hl.len _ 0 (Nat.zero_add _) .nils (by simp)
 rw[show ((0:Nat):Int)=0 from rfl]at w1
 simp only[gB_s,gB_z,gC_s,gC_z,Bool.false_eq_true,if_false,isDp_dp,if_true,dpRow_dp,at_zero,rp,s1,i1,dc,Option.bind_some,rowsAt_zero,rowsAt_succ,toI_int,bne_self_eq_false,gI_s,gI_z]
 by_cases h:pairsE l=0
 ·obtain ⟨p0,k0,k1,h0,hn,o1,o2⟩:=ord_of hl h
  have n0:(pairsE l !=0)=false:=by simp[h]
  obtain ⟨x1,x2,l1,y1,y2,y3,y4,y5,y6⟩:=sort_same c c hc hc o1 h0 hn
  obtain ⟨hc2,z0⟩:=i3 h
  obtain ⟨x3,x4,l2,z1,z2,z3,z4,z5,z6⟩:=sort_same c2 d' hc2 w2 o2 (List.mem_map_of_mem h0) (by rw[List.length_map];exact hn)
  have es:x1=s:=by
   have:=(s3 h).symm.trans y1
   simpa using this.symm
  have et:x3=t:=by
   have:=z0.symm.trans z1
   simpa using this.symm
  subst es;subst et
  have ok1:PairsOk l1:=⟨fun p hp=>hl.wf p (y5 p hp),fun p hp=>hl.bulk p (y5 p hp),by rw[y6];exact hl.len⟩
  have ok2:PairsOk l2:=⟨fun p hp=>o2.ok.wf p (z5 p hp),fun p hp=>o2.ok.bulk p (z5 p hp),by rw[z6];exact o2.ok.len⟩
  have q1:=sp_spec x1 x2 l1 y3 y4 ok1
  have q2:=sp_spec x3 x4 l2 z3 z4 ok2
  simp only[n0,Bool.false_eq_true,if_false,hll,w1,Option.bind_some,gC_s,gC_z,isDp_dp,if_true,dpRow_dp,at_zero,y2,z2,rowsAt_zero,q1,q2,toB_bool]
  exact Tot.some rfl
 ·have n0:(pairsE l !=0)=true:=by simp[h]
  rw[s2 h,i2 h]
  simp only[n0,if_true,rows_nils,List.length_nil,Option.bind_some,gB_s,gB_z]
  exact Tot.some rfl
end Go.Ev.Zzd
