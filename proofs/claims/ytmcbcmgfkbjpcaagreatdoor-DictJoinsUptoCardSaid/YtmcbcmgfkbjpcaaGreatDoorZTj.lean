/-
  A part of the proof: what the functions of the program compute.
-/
import Derived.Test.YtmcbcmgfkbjpcaaGreatDoorZTi
set_option linter.all false
set_option maxRecDepth 100000
namespace Go.Ev.Zzj
theorem sp_l (c d:C) (l:List PP) (hc:c.rows=l.map pairRow) (hd:d.rows=l.map pairRow) (hl:PairsOk l):∀(j i:Nat),i+j=l.length→
 slices_EqualFunc_2_api_Value_l0 (lim T) d (.fn n_claplaw3_samePair []) c (l.length:Int) (i:Int)=some (0,[])
 |0,i,h=>by
  rw[slices_EqualFunc_2_api_Value_l0_eq];unfold slices_EqualFunc_2_api_Value_b0
  obtain rfl:i=l.length:=by omega
  simp
 |j+1,i,h=>by
  rw[slices_EqualFunc_2_api_Value_l0_eq];unfold slices_EqualFunc_2_api_Value_b0
  have ih:=sp_l c d l hc hd hl j (i+1) (by omega)
  have hN:=hl.len
  have hi:i<l.length:=by omega
  have hm:=List.getElem_mem hi
  have hlc:c.rows.length=l.length:=by rw[hc,List.length_map]
  have hld:d.rows.length=l.length:=by rw[hd,List.length_map]
  have hrc:rowsAt c.rows i=pairRow l[i]:=by rw[hc];exact rowsAt_map _ _ _ hi
  have hrd:rowsAt d.rows i=pairRow l[i]:=by rw[hd];exact rowsAt_map _ _ _ hi
  have s1:=same_spec l[i].1 l[i].1 (hl.wf _ hm 0) (hl.wf _ hm 0) (hl.bulk _ hm 0)
  have s2:=same_spec l[i].2 l[i].2 (hl.wf _ hm 1) (hl.wf _ hm 1) (hl.bulk _ hm 1)
  rw[Val.eqv_refl]at s1 s2
  have hrow:([at_ (pairRow l[i]) 4,at_ (pairRow l[i]) 5,at_ (pairRow l[i]) 6,at_ (pairRow l[i]) 7]:Row)=l[i].2.row:=rfl
  have hcall:callC (lim T) (.fn n_claplaw3_samePair []) [pairRow l[i],pairRow l[i]]=some [[.bool true]]:=by
   show (lim T).pc n_claplaw3_samePair [pairRow l[i],pairRow l[i]]=_
   rw[claplaw3_samePair_pc];unfold claplaw3_samePair
   simp only[row_fst,hrow,s1,s2,Option.bind_some,rowsAt_zero,at_zero,toB_bool,if_true]
  simp only[Int.natCast_nonneg,Int.ofNat_lt,hi,hlc,hld,and_self,decide_true,if_true,Int.toNat_natCast,hrc,hrd,hcall,Option.bind_some,rowsAt_zero,at_zero,toB_bool,Bool.not_true,Bool.false_eq_true,if_false,wrap_nat (show i≤big by omega),ih]
theorem sp_spec (c d:C) (l:List PP) (hc:c.rows=l.map pairRow) (hd:d.rows=l.map pairRow) (hl:PairsOk l):(lim T).pc n_claplaw3_samePairs [[c],[d]]=some [[.bool true]]:=by
 rw[claplaw3_samePairs_pc];unfold claplaw3_samePairs
 rw[slices_EqualFunc_2_api_Value_pc];unfold slices_EqualFunc_2_api_Value
 have hlc:c.rows.length=l.length:=by rw[hc,List.length_map]
 have hld:d.rows.length=l.length:=by rw[hd,List.length_map]
 have e:=sp_l c d l hc hd hl _ 0 (Nat.zero_add _)
 rw[show ((0:Nat):Int)=0 from rfl]at e
 simp[hlc,hld,e]
theorem looked_true:(lim T).pc n_claplaw3_looked []=some [[.bool true]]:=(lim_pc T).2 ⟨60,by kernel_rfl⟩
theorem first_spec (x y:Int):(lim T).pc n_clapref3_first [[.sl [[.int x],[.int y]]]]=some [[.int (if x≠0 then x else y)]]:=by
 rw[clapref3_first_pc];unfold clapref3_first
 have e2:clapref3_first_l0 (lim T) (.sl [[.int x],[.int y]]) 2 2=some (0,[]):=by
  rw[clapref3_first_l0_eq];unfold clapref3_first_b0;rfl
 have e1:clapref3_first_l0 (lim T) (.sl [[.int x],[.int y]]) 2 1=if y≠0 then some (1,[.r [.int y]])else some (0,[]):=by
  rw[clapref3_first_l0_eq];unfold clapref3_first_b0
  have w:IntKind.wrap .i64 (2:Int)=2:=by decide
  have hr:rowsAt [[C.int x],[.int y]] (1:Int).toNat=[.int y]:=rfl
  by_cases h:y=0
  ·subst h;simp[w,e2,hr,rowsAt]
  ·simp[h,w,e2,hr,rowsAt]
 have e0:clapref3_first_l0 (lim T) (.sl [[.int x],[.int y]]) 2 0=if x≠0 then some (1,[.r [.int x]])else if y≠0 then some (1,[.r [.int y]])else some (0,[]):=by
  rw[clapref3_first_l0_eq];unfold clapref3_first_b0
  have w:IntKind.wrap .i64 (1:Int)=1:=by decide
  by_cases h:x=0
  ·subst h;simp[w,e1,rowsAt]
  ·simp[h,w,e1,rowsAt]
 show (clapref3_first_l0 (lim T) (.sl [[.int x],[.int y]]) 2 0).bind _=_
 rw[e0]
 by_cases h:x=0
 ·by_cases k:y=0<;>simp[h,k]
 ·simp[h]
theorem Compose_l0 (ca cb:C) (a b:List PP) (hca:ca.rows=a.map pairRow) (hcb:cb.rows=b.map pairRow) (ha:PairsOk a) (hb:PairsOk b):dict_Compose_l0 (lim T) ca cb (.sl [[ca],[cb]]) 2 0=if pairsE a≠0 then some (1,[.r [.nils], .r [.int (pairsE a)]])else if pairsE b≠0 then some (1,[.r [.nils], .r [.int (pairsE b)]])else some (0,[.r [ca], .r [cb]]):=by
 have e2:dict_Compose_l0 (lim T) ca cb (.sl [[ca],[cb]]) 2 2=some (0,[.r [ca], .r [cb]]):=by
  rw[dict_Compose_l0_eq];unfold dict_Compose_b0;rfl
 have e1:dict_Compose_l0 (lim T) ca cb (.sl [[ca],[cb]]) 2 1=if pairsE b≠0 then some (1,[.r [.nils], .r [.int (pairsE b)]])else some (0,[.r [ca], .r [cb]]):=by
  rw[dict_Compose_l0_eq];unfold dict_Compose_b0
  have w:IntKind.wrap .i64 (2:Int)=2:=by decide
  by_cases h:pairsE b=0<;>simp[h,w,e2,rowsAt,dcheck_spec cb b hcb hb]
 rw[dict_Compose_l0_eq];unfold dict_Compose_b0
 have w:IntKind.wrap .i64 (1:Int)=1:=by decide
 by_cases h:pairsE a=0<;>simp[h,w,e1,rowsAt,dcheck_spec ca a hca ha]
theorem Clashes_l0 (ca cb:C) (a b:List PP) (hca:ca.rows=a.map pairRow) (hcb:cb.rows=b.map pairRow) (ha:PairsOk a) (hb:PairsOk b):dict_Clashes_l0 (lim T) ca cb (.sl [[ca],[cb]]) 2 0=if pairsE a≠0 then some (1,[.r [.nils], .r [.int (pairsE a)]])else if pairsE b≠0 then some (1,[.r [.nils], .r [.int (pairsE b)]])else some (0,[.r [ca], .r [cb]]):=by
 have e2:dict_Clashes_l0 (lim T) ca cb (.sl [[ca],[cb]]) 2 2=some (0,[.r [ca], .r [cb]]):=by
  rw[dict_Clashes_l0_eq];unfold dict_Clashes_b0;rfl
 have e1:dict_Clashes_l0 (lim T) ca cb (.sl [[ca],[cb]]) 2 1=if pairsE b≠0 then some (1,[.r [.nils], .r [.int (pairsE b)]])else some (0,[.r [ca], .r [cb]]):=by
  rw[dict_Clashes_l0_eq];unfold dict_Clashes_b0
  have w:IntKind.wrap .i64 (2:Int)=2:=by decide
  by_cases h:pairsE b=0<;>simp[h,w,e2,rowsAt,dcheck_spec cb b hcb hb]
 rw[dict_Clashes_l0_eq];unfold dict_Clashes_b0
 have w:IntKind.wrap .i64 (1:Int)=1:=by decide
 by_cases h:pairsE a=0<;>simp[h,w,e1,rowsAt,dcheck_spec ca a hca ha]
theorem Merge_l0 (ca cb:C) (a b:List PP) (hca:ca.rows=a.map pairRow) (hcb:cb.rows=b.map pairRow) (ha:PairsOk a) (hb:PairsOk b):dict_Merge_l0 (lim T) ca cb (.sl [[ca],[cb]]) 2 0=if pairsE a≠0 then some (1,[.r [.nils], .r [.int (pairsE a)]])else if pairsE b≠0 then some (1,[.r [.nils], .r [.int (pairsE b)]])else some (0,[.r [ca], .r [cb]]):=by
 have e2:dict_Merge_l0 (lim T) ca cb (.sl [[ca],[cb]]) 2 2=some (0,[.r [ca], .r [cb]]):=by
  rw[dict_Merge_l0_eq];unfold dict_Merge_b0;rfl
 have e1:dict_Merge_l0 (lim T) ca cb (.sl [[ca],[cb]]) 2 1=if pairsE b≠0 then some (1,[.r [.nils], .r [.int (pairsE b)]])else some (0,[.r [ca], .r [cb]]):=by
  rw[dict_Merge_l0_eq];unfold dict_Merge_b0
  have w:IntKind.wrap .i64 (2:Int)=2:=by decide
  by_cases h:pairsE b=0<;>simp[h,w,e2,rowsAt,dcheck_spec cb b hcb hb]
 rw[dict_Merge_l0_eq];unfold dict_Merge_b0
 have w:IntKind.wrap .i64 (1:Int)=1:=by decide
 by_cases h:pairsE a=0<;>simp[h,w,e1,rowsAt,dcheck_spec ca a hca ha]
def cmpF (b:List PP) (p:PP):Option PP:=(fnd b 0 (idK p.2)).map fun q=>(p.1,q.2)
def cmpL (a b:List PP):List PP:=a.filterMap (cmpF b)
theorem fnd_mem {l:List PP} {k:Nat} {s:Bytes} {p:PP} (h:fnd l k s=some p):p∈l∧idK (pk p k)=s:=
 ⟨List.mem_of_find?_eq_some h,by simpa using List.find?_some h⟩
theorem fnd_none {l:List PP} {k:Nat} {s:Bytes} (h:fnd l k s=none):∀p∈l,idK (pk p k)≠s:=fun p hp e=>by
 have:=List.find?_eq_none.1 h p hp
 simp[e]at this
theorem cmpF_some {b:List PP} {p r:PP} (h:cmpF b p=some r):∃q∈b,r=(p.1,q.2):=by
 unfold cmpF at h
 cases e:fnd b 0 (idK p.2)with
 |none=>simp[e]at h
 |some q=>rw[e]at h;simp at h;exact ⟨q,(fnd_mem e).1,h.symm⟩
theorem cmp_od {k0 k1 k2 k3:Int} {a b:List PP} (ha:Lk k0 k1 a) (hb:Lk k2 k3 b):Od k0 (cmpL a b):=by
 refine ⟨⟨fun p hp k=> ?_,fun p hp k=> ?_, ?_⟩,fun p hp=> ?_, ?_⟩
 ·obtain ⟨q,hq,e⟩:=List.mem_filterMap.1 hp
  obtain ⟨r,hr,rfl⟩:=cmpF_some e
  cases k with
  |zero=>exact ha.ok.wf q hq 0
  |succ k=>exact hb.ok.wf r hr 1
 ·obtain ⟨q,hq,e⟩:=List.mem_filterMap.1 hp
  obtain ⟨r,hr,rfl⟩:=cmpF_some e
  cases k with
  |zero=>exact ha.ok.bulk q hq 0
  |succ k=>exact hb.ok.bulk r hr 1
 ·exact Nat.le_trans (List.length_filterMap_le _ _) ha.ok.len
 ·obtain ⟨q,hq,e⟩:=List.mem_filterMap.1 hp
  obtain ⟨r,hr,rfl⟩:=cmpF_some e
  exact (ha.g q hq).1
 ·refine List.pairwise_filterMap.2 (ha.d.imp fun {x y} h u hu v hv=> ?_)
  obtain ⟨_,_,rfl⟩:=cmpF_some hu
  obtain ⟨_,_,rfl⟩:=cmpF_some hv
  exact h.1
theorem cmp_take (a b:List PP) {i:Nat} (hi:i<a.length):cmpL (a.take (i+1)) b=cmpL (a.take i) b++(cmpF b a[i]).toList:=by
 have ht:a.take (i+1)=a.take i++[a[i]]:=by rw[List.take_add_one,List.getElem?_eq_getElem hi];rfl
 unfold cmpL
 rw[ht,List.filterMap_append]
 cases h:cmpF b a[i]<;>simp[h]
theorem cmp_len (a b:List PP) (i:Nat):(cmpL (a.take i) b).length≤i:=Nat.le_trans (List.length_filterMap_le _ _) (by simp;omega)
theorem mix_tail (p:PP) (v:Val):(at_ (pairRow p) 0::at_ (pairRow p) 1::at_ (pairRow p) 2::at_ (pairRow p) 3::v.row:Row)=pairRow (p.1,v):=rfl
theorem cp_l1 {k0 k1 k2 k3:Int} (ca cb:C) (a b:List PP) (hca:ca.rows=a.map pairRow) (hcb:cb.rows=b.map pairRow) (ha:Lk k0 k1 a) (hb:Lk k2 k3 b):∀(j i:Nat),i+j=a.length→∀d:C,d.rows=(cmpL (a.take i) b).map pairRow→
 ∃d':C,dict_Compose_l1 (lim T) cb ca (a.length:Int) (i:Int) d=some (0,[.r [d']])∧d'.rows=(cmpL a b).map pairRow
 |0,i,h,d,hd=>by
  rw[dict_Compose_l1_eq];unfold dict_Compose_b1
  obtain rfl:i=a.length:=by omega
  rw[List.take_length]at hd
  exact ⟨d,by simp,hd⟩
 |j+1,i,h,d,hd=>by
  rw[dict_Compose_l1_eq];unfold dict_Compose_b1
  have hi:i<a.length:=by omega
  have hN:=ha.ok.len
  have hm:=List.getElem_mem hi
  have hlc:ca.rows.length=a.length:=by rw[hca,List.length_map]
  have hlb:cb.rows.length=b.length:=by rw[hcb,List.length_map]
  have hrc:rowsAt ca.rows i=pairRow a[i]:=by rw[hca];exact rowsAt_map _ _ _ hi
  have hf:=find_spec cb b hcb hb.ok a[i].2 (ha.ok.wf _ hm 1) 0 (by omega)
  rw[show ((0:Nat):Int)=0 from rfl]at hf
  have hs:=fnd_sm (k:=0) (fun p hp=>(hb.g p hp).1) (ha.g _ hm).2
  have hg:(d.rows.length+1)*112≤140737488355328:=by rw[hd,List.length_map];have:=cmp_len a b i;unfold big at hN;omega
  rcases ix_fnd (sm a[i].2 0) b 0 with ⟨q,hq,q1,q2⟩|⟨q1,q2⟩
  ·rw[Nat.zero_add]at q1
   rw[hs]at q2
   have hc:cmpF b a[i]=some (a[i].1,b[q].2):=by unfold cmpF;rw[q2];rfl
   have hrb:rowsAt cb.rows q=pairRow b[q]:=by rw[hcb];exact rowsAt_map _ _ _ hq
   obtain ⟨d',e1,e2⟩:=cp_l1 ca cb a b hca hcb ha hb j (i+1) (by omega) (appC d [pairRow (a[i].1,b[q].2)]) (by rw[cmp_take a b hi,hc,appC_rows,hd,List.map_append];rfl)
   refine ⟨d', ?_,e2⟩
   simp only[Int.natCast_nonneg,Int.ofNat_lt,hi,hlc,and_self,decide_true,if_true,Int.toNat_natCast,hrc,row_snd,hf,q1,Option.bind_some,rowsAt_zero,at_zero,toI_int,ge_iff_le,hq,hlb,hrb,mix_tail,List.length_cons,List.length_nil,Nat.zero_add,hg,wrap_nat (show i≤big by omega),e1]
  ·rw[hs]at q2
   have hc:cmpF b a[i]=none:=by unfold cmpF;rw[q2];rfl
   obtain ⟨d',e1,e2⟩:=cp_l1 ca cb a b hca hcb ha hb j (i+1) (by omega) d (by rw[cmp_take a b hi,hc,hd];simp)
   refine ⟨d', ?_,e2⟩
   have n1:¬(0:Int)≤ -1:=by omega
   simp only[Int.natCast_nonneg,Int.ofNat_lt,hi,hlc,and_self,decide_true,if_true,Int.toNat_natCast,hrc,row_snd,hf,q1,Option.bind_some,rowsAt_zero,at_zero,toI_int,ge_iff_le,n1,decide_false,Bool.false_eq_true,if_false,wrap_nat (show i≤big by omega),e1]
theorem app_nil (d:C) (r:Row):(appC d [r]).isNil=false:=by cases d<;>rfl
theorem val_row4 (v:Val) (p:PP):([at_ (pairRow p) 0,at_ (pairRow p) 1,at_ (pairRow p) 2,at_ (pairRow p) 3,at_ v.row 0,at_ v.row 1,at_ v.row 2,at_ v.row 3]:Row)=pairRow (p.1,v):=rfl
theorem rc_l0 {k2 k3:Int} (ct:C) (t b:List PP) (hct:ct.rows=t.map pairRow) (ht:PairsOk t) (hb:Lk k2 k3 b) (m0:List (Row×Row)) (hm0:MapR (b.map fun p=>(idK p.1,p.2.row)) m0):∀(j i:Nat),i+j=t.length→∀d:C,d.rows=(cmpL (t.take i) b).map pairRow→(d.isNil=true↔d.rows=[])→
 ∃d':C,clapref3_Compose_l0 (lim T) ct (t.length:Int) (i:Int) m0 d=some (0,[.r [d']])∧d'.rows=(cmpL t b).map pairRow∧(d'.isNil=true↔d'.rows=[])
 |0,i,h,d,hd,hn=>by
  rw[clapref3_Compose_l0_eq];unfold clapref3_Compose_b0
  obtain rfl:i=t.length:=by omega
  rw[List.take_length]at hd
  exact ⟨d,by simp,hd,hn⟩
 |j+1,i,h,d,hd,hn=>by
  rw[clapref3_Compose_l0_eq];unfold clapref3_Compose_b0
  have hi:i<t.length:=by omega
  have hN:=ht.len
  have hm:=List.getElem_mem hi
  have hlc:ct.rows.length=t.length:=by rw[hct,List.length_map]
  have hrc:rowsAt ct.rows i=pairRow t[i]:=by rw[hct];exact rowsAt_map _ _ _ hi
  have hr:=rid_spec t[i].2 (ht.wf _ hm 1) (ht.bulk _ hm 1)
  have hk:=(hm0.look (idK t[i].2)).trans (lkp_fnd0 (idK t[i].2) hb.d)
  have hg:(d.rows.length+1)*112≤140737488355328:=by rw[hd,List.length_map];have:=cmp_len t b i;unfold big at hN;omega
  cases e:fnd b 0 (idK t[i].2)with
  |some q=>
   rw[e]at hk
   have hc:cmpF b t[i]=some (t[i].1,q.2):=by unfold cmpF;rw[e];rfl
   obtain ⟨d',e1,e2,e3⟩:=rc_l0 ct t b hct ht hb m0 hm0 j (i+1) (by omega) (appC d [pairRow (t[i].1,q.2)]) (by rw[cmp_take t b hi,hc,appC_rows,hd,List.map_append];rfl) (by rw[app_nil,appC_rows];simp)
   refine ⟨d', ?_,e2,e3⟩
   simp only[Int.natCast_nonneg,Int.ofNat_lt,hi,hlc,and_self,decide_true,if_true,Int.toNat_natCast,hrc,row_snd,hr,hk,Option.bind_some,rowsAt_zero,at_zero,toS_str,Option.map_some,Option.isSome_some,Option.getD_some,val_row4,List.length_cons,List.length_nil,Nat.zero_add,hg,wrap_nat (show i≤big by omega),e1]
  |none=>
   rw[e]at hk
   have hc:cmpF b t[i]=none:=by unfold cmpF;rw[e];rfl
   obtain ⟨d',e1,e2,e3⟩:=rc_l0 ct t b hct ht hb m0 hm0 j (i+1) (by omega) d (by rw[cmp_take t b hi,hc,hd];simp) hn
   refine ⟨d', ?_,e2,e3⟩
   simp only[Int.natCast_nonneg,Int.ofNat_lt,hi,hlc,and_self,decide_true,if_true,Int.toNat_natCast,hrc,row_snd,hr,hk,Option.bind_some,rowsAt_zero,at_zero,toS_str,Option.map_none,Option.isSome_none,Bool.false_eq_true,if_false,wrap_nat (show i≤big by omega),e1]
theorem nil_ok:PairsOk []:=⟨fun p h=>absurd h (by simp),fun p h=>absurd h (by simp),Nat.zero_le _⟩
theorem two_len (x y:C):(([[x],[y]]:List Row).length:Int)=2:=rfl
theorem compose_same (ca cb:C) (a b:List PP) (hca:ca.rows=a.map pairRow) (hcb:cb.rows=b.map pairRow) (ha:PairsOk a) (hb:PairsOk b):∃(d d':C) (e:Int) (s:List PP),(lim T).pc n_dict_Compose [[ca],[cb]]=some [[d],[.int e]]∧(lim T).pc n_clapref3_Compose [[ca],[cb]]=some [[d'],[.int e]]∧d.rows=s.map pairRow∧d'.rows=s.map pairRow∧PairsOk s:=by
 rw[dict_Compose_pc,clapref3_Compose_pc];unfold dict_Compose clapref3_Compose
 rw[two_len,Compose_l0 ca cb a b hca hcb ha hb,rpairs_spec ca a hca ha,rpairs_spec cb b hcb hb]
 simp only[Option.bind_some,rowsAt_zero,at_zero,toI_int,first_spec]
 by_cases h1:pairsE a=0
 ·by_cases h2:pairsE b=0
  ·obtain ⟨p0,r0,ea,na,la⟩:=lk_of ha h1
   obtain ⟨p1,r1,eb,nb,lb⟩:=lk_of hb h2
   have hla:ca.rows.length=a.length:=by rw[hca,List.length_map]
   obtain ⟨c2,f1,f2⟩:=cp_l1 ca cb a b hca hcb la lb _ 0 (Nat.zero_add _) .nils (by simp[cmpL])
   rw[show ((0:Nat):Int)=0 from rfl]at f1
   have hal:a.length<50:=by rw[ea];simp;omega
   have ha0:a≠[]:=by rw[ea];simp
   have oa:Od p0.1.k a:=⟨la.ok,fun p hp=>(la.g p hp).1,la.d.imp fun h=>h.1⟩
   obtain ⟨ct,t,s1,s2,s3,s4⟩:=rsorted ca hca oa ha0 hal
   obtain ⟨m0,m1,i1,i2,i3⟩:=maps_spec cb b hcb hb
   have hlt:ct.rows.length=t.length:=by rw[s2,List.length_map]
   have okt:=s3.ok ha (by rw[s4];exact ha.len)
   obtain ⟨d2,w1,w2,w3⟩:=rc_l0 ct t b s2 okt lb m0 i2 _ 0 (Nat.zero_add _) .nils (by simp[cmpL]) ⟨fun _=>rfl,fun _=>rfl⟩
   rw[show ((0:Nat):Int)=0 from rfl]at w1
   have hl2:c2.rows.length=(cmpL a b).length:=by rw[f2,List.length_map]
   have od:=cmp_od la lb
   have sort2:StS p0.1.k (cmpL t b) (cmpL a b):=by
    refine ⟨List.pairwise_filterMap.2 (s3.1.imp fun {x y} h u hu v hv=> ?_),fun p=> ?_⟩
    ·obtain ⟨_,_,rfl⟩:=cmpF_some hu
     obtain ⟨_,_,rfl⟩:=cmpF_some hv
     exact h
    ·unfold cmpL
     rw[List.mem_filterMap,List.mem_filterMap]
     constructor
     ·rintro ⟨q,hq,e⟩;exact ⟨q,(s3.2 q).1 hq,e⟩
     ·rintro ⟨q,hq,e⟩;exact ⟨q,(s3.2 q).2 hq,e⟩
   by_cases h3:cmpL a b=[]
   ·have h4:cmpL t b=[]:=by
     cases hq:cmpL t b with
     |nil=>rfl
     |cons x r=>have:=(sort2.2 x).1 (by rw[hq];simp);rw[h3]at this;simp at this
    have hn:d2.isNil=true:=w3.2 (by rw[w2,h4];rfl)
    refine ⟨.nils, .nils,4,[], ?_, ?_,rfl,rfl,nil_ok⟩
    ·have h5:c2.rows=[]:=by rw[f2,h3];rfl
     simp[h1,h2,hla,f1,h5]
    ·simp[h1,h2,i1,s1,hlt,w1,hn]
   ·have hlen:(cmpL a b).length≤a.length:=List.length_filterMap_le _ _
    obtain ⟨d,s,z1,z2,z3,z4⟩:=dsorted c2 f2 od h3 (by omega)
    have es:=z3.uniq sort2
    have h4:cmpL t b≠[]:=by rw[←es];intro h;rw[h]at z4;exact h3 (List.length_eq_zero_iff.1 z4.symm)
    have hn:d2.isNil=false:=by
     cases hq:d2.isNil with
     |false=>rfl
     |true=>have:=w3.1 hq;rw[w2]at this;exact absurd (List.map_eq_nil_iff.1 this) h4
    have hl3:¬(cmpL a b).length=0:=fun h=>h3 (List.length_eq_zero_iff.1 h)
    refine ⟨d,d2,0,s, ?_, ?_,z2,by rw[w2,es],z3.ok od.ok (by rw[z4];exact od.ok.len)⟩
    ·have h5:¬c2.rows=[]:=fun h=>hl3 (by rw[←hl2,h];rfl)
     simp[h1,h2,hla,f1,h5,z1]
    ·simp[h1,h2,i1,s1,hlt,w1,hn]
  ·exact ⟨.nils, .nils,pairsE b,[],by simp[h1,h2],by simp[h1,h2],rfl,rfl,nil_ok⟩
 ·exact ⟨.nils, .nils,pairsE a,[],by simp[h1],by simp[h1],rfl,rfl,nil_ok⟩
end Go.Ev.Zzj
