/-
  A part of the proof: what the functions of the program compute.
-/
import Derived.Test.YtmcbcmgfkbjpcaaGreatDoorZTk
set_option linter.all false
set_option maxRecDepth 100000
namespace Go.Ev.Zzj
def nf (a:List PP) (p:PP):Bool:=(fnd a 0 (idK p.1)).isNone
def mgL (a b:List PP):List PP:=a++b.filter (nf a)
theorem mg_od {k0 k1 k2 k3:Int} {a b:List PP} (ha:Lk k0 k1 a) (hb:Lk k2 k3 b) (hk:k0=k2) (hn:(mgL a b).length≤big):Od k0 (mgL a b):=by
 subst hk
 refine ⟨⟨fun p hp=> ?_,fun p hp=> ?_,hn⟩,fun p hp=> ?_,List.pairwise_append.2 ⟨ha.d.imp fun h=>h.1,(hb.d.filter _).imp fun h=>h.1,fun p hp q hq=> ?_⟩⟩
 ·rcases List.mem_append.1 hp with h |h
  ·exact ha.ok.wf p h
  ·exact hb.ok.wf p (List.mem_filter.1 h).1
 ·rcases List.mem_append.1 hp with h |h
  ·exact ha.ok.bulk p h
  ·exact hb.ok.bulk p (List.mem_filter.1 h).1
 ·rcases List.mem_append.1 hp with h |h
  ·exact (ha.g p h).1
  ·exact (hb.g p (List.mem_filter.1 h).1).1
 ·have:=(List.mem_filter.1 hq).2
  unfold nf at this
  exact fnd_none (Option.isNone_iff_eq_none.1 this) p hp
theorem mg_l1 {k0 k1 k2 k3:Int} (ca cb:C) (a b:List PP) (hca:ca.rows=a.map pairRow) (hcb:cb.rows=b.map pairRow) (ha:Lk k0 k1 a) (hb:Lk k2 k3 b) (hz:a.length+b.length≤big):∀(j i:Nat),i+j=b.length→∀d:C,d.rows=(a++(b.take i).filter (nf a)).map pairRow→
 ((b.drop i).any (clF a)=true→dict_Merge_l1 (lim T) ca cb (b.length:Int) (i:Int) d=some (1,[.r [.nils], .r [.int 17]]))∧
 ((b.drop i).any (clF a)=false→∃d':C,dict_Merge_l1 (lim T) ca cb (b.length:Int) (i:Int) d=some (0,[.r [d']])∧d'.rows=(mgL a b).map pairRow)
 |0,i,h,d,hd=>by
  rw[dict_Merge_l1_eq];unfold dict_Merge_b1
  obtain rfl:i=b.length:=by omega
  rw[List.take_length]at hd
  exact ⟨fun h=>by simp at h,fun _=>⟨d,by simp,hd⟩⟩
 |j+1,i,h,d,hd=>by
  rw[dict_Merge_l1_eq];unfold dict_Merge_b1
  have hi:i<b.length:=by omega
  have hN:=hb.ok.len
  have hm:=List.getElem_mem hi
  have hlb:cb.rows.length=b.length:=by rw[hcb,List.length_map]
  have hrb:rowsAt cb.rows i=pairRow b[i]:=by rw[hcb];exact rowsAt_map _ _ _ hi
  have f0:=find_spec ca a hca ha.ok b[i].1 (hb.ok.wf _ hm 0) 0 (by omega)
  have f1:=find_spec ca a hca ha.ok b[i].2 (hb.ok.wf _ hm 1) 1 (by omega)
  rw[show ((0:Nat):Int)=0 from rfl]at f0
  rw[show ((1:Nat):Int)=1 from rfl]at f1
  have hg:(d.rows.length+1)*112≤140737488355328:=by rw[hd,List.length_map,List.length_append];have:=fil_len (nf a) b i;unfold big at hz;omega
  rw[List.drop_eq_getElem_cons hi,List.any_cons]
  cases c:clF a b[i]with
  |true=>
   refine ⟨fun _=> ?_,fun h=>by simp at h⟩
   unfold clF at c
   simp only[Int.natCast_nonneg,Int.ofNat_lt,hi,hlb,and_self,decide_true,if_true,Int.toNat_natCast,hrb,row_fst,row_snd,f0,f1,Option.bind_some,rowsAt_zero,at_zero,toI_int,c]
  |false=>
   rw[Bool.false_or]
   have hs:=fnd_sm (k:=0) (fun q hq=>(ha.g q hq).1) (hb.g _ hm).1
   have hx:(ix (sm b[i].1 0) a 0<0)↔nf a b[i]=true:=by
    unfold nf
    rcases ix_fnd (sm b[i].1 0) a 0 with ⟨q,hq,q1,q2⟩|⟨q1,q2⟩
    ·rw[hs]at q2;rw[q1,q2];simp
    ·rw[hs]at q2;rw[q1,q2];simp
   unfold clF at c
   by_cases n:nf a b[i]=true
   ·have ih:=mg_l1 ca cb a b hca hcb ha hb hz j (i+1) (by omega) (appC d [pairRow b[i]]) (by rw[fil_take _ b hi,if_pos n,appC_rows,hd,←List.append_assoc];simp)
    have c2:=hx.2 n
    simp only[Int.natCast_nonneg,Int.ofNat_lt,hi,hlb,and_self,decide_true,if_true,Int.toNat_natCast,hrb,row_fst,row_snd,f0,f1,Option.bind_some,rowsAt_zero,at_zero,toI_int,c,Bool.false_eq_true,if_false,c2,List.length_cons,List.length_nil,Nat.zero_add,hg,wrap_nat (show i≤big by omega)]
    exact ih
   ·have ih:=mg_l1 ca cb a b hca hcb ha hb hz j (i+1) (by omega) d (by rw[fil_take _ b hi,if_neg n,List.append_nil,hd])
    have c2:¬ix (sm b[i].1 0) a 0<0:=fun h=>n (hx.1 h)
    simp only[Int.natCast_nonneg,Int.ofNat_lt,hi,hlb,and_self,decide_true,if_true,Int.toNat_natCast,hrb,row_fst,row_snd,f0,f1,Option.bind_some,rowsAt_zero,at_zero,toI_int,c,Bool.false_eq_true,if_false,c2,decide_false,wrap_nat (show i≤big by omega)]
    exact ih
theorem rmg_l0 {k0 k1 k2 k3:Int} (cb:C) (a b:List PP) (hcb:cb.rows=b.map pairRow) (ha:Lk k0 k1 a) (hb:Lk k2 k3 b) (hz:a.length+b.length≤big) (m0:List (Row×Row)) (hm0:MapR (a.map fun p=>(idK p.1,p.2.row)) m0):∀(j i:Nat),i+j=b.length→∀d:C,d.rows=(a++(b.take i).filter (nf a)).map pairRow→
 ∃d':C,clapref3_Merge_l0 (lim T) cb (b.length:Int) (i:Int) m0 d=some (0,[.r [d']])∧d'.rows=(mgL a b).map pairRow
 |0,i,h,d,hd=>by
  rw[clapref3_Merge_l0_eq];unfold clapref3_Merge_b0
  obtain rfl:i=b.length:=by omega
  rw[List.take_length]at hd
  exact ⟨d,by simp,hd⟩
 |j+1,i,h,d,hd=>by
  rw[clapref3_Merge_l0_eq];unfold clapref3_Merge_b0
  have hi:i<b.length:=by omega
  have hN:=hb.ok.len
  have hm:=List.getElem_mem hi
  have hlb:cb.rows.length=b.length:=by rw[hcb,List.length_map]
  have hrb:rowsAt cb.rows i=pairRow b[i]:=by rw[hcb];exact rowsAt_map _ _ _ hi
  have r0:=rid_spec b[i].1 (hb.ok.wf _ hm 0) (hb.ok.bulk _ hm 0)
  have q0:=(hm0.look (idK b[i].1)).trans (lkp_fnd0 (idK b[i].1) ha.d)
  have hg:(d.rows.length+1)*112≤140737488355328:=by rw[hd,List.length_map,List.length_append];have:=fil_len (nf a) b i;unfold big at hz;omega
  have hnf:(!((fnd a 0 (idK b[i].1)).map fun p=>p.2.row).isSome)=nf a b[i]:=by unfold nf;cases fnd a 0 (idK b[i].1)<;>rfl
  cases n:nf a b[i]with
  |true=>
   obtain ⟨d',e1,e2⟩:=rmg_l0 cb a b hcb ha hb hz m0 hm0 j (i+1) (by omega) (appC d [pairRow b[i]]) (by rw[fil_take _ b hi,if_pos n,appC_rows,hd,←List.append_assoc];simp)
   refine ⟨d', ?_,e2⟩
   simp only[Int.natCast_nonneg,Int.ofNat_lt,hi,hlb,and_self,decide_true,if_true,Int.toNat_natCast,hrb,row_fst,r0,Option.bind_some,rowsAt_zero,at_zero,toS_str,q0,hnf,n,List.length_cons,List.length_nil,Nat.zero_add,hg,wrap_nat (show i≤big by omega),e1]
  |false=>
   obtain ⟨d',e1,e2⟩:=rmg_l0 cb a b hcb ha hb hz m0 hm0 j (i+1) (by omega) d (by rw[fil_take _ b hi,n,if_neg (by decide),List.append_nil,hd])
   refine ⟨d', ?_,e2⟩
   simp only[Int.natCast_nonneg,Int.ofNat_lt,hi,hlb,and_self,decide_true,if_true,Int.toNat_natCast,hrb,row_fst,r0,Option.bind_some,rowsAt_zero,at_zero,toS_str,q0,hnf,n,Bool.false_eq_true,if_false,wrap_nat (show i≤big by omega),e1]
theorem clone_pairs (c:C) (l:List PP) (hc:c.rows=l.map pairRow) (hl:PairsOk l):∃d:C,(lim T).ic slices_Clone_2_api_Value_i18_n [.r [c]]=some [.r [d]]∧d.rows=l.map pairRow:=by
 rw[slices_Clone_2_api_Value_i18_ic];unfold slices_Clone_2_api_Value_i18
 by_cases h:c.isNil=true
 ·refine ⟨.nils,by rw[if_pos h], ?_⟩
  cases c<;>simp_all[C.isNil,C.rows]
 ·have hN:=hl.len
  have hlc:c.rows.length=l.length:=by rw[hc,List.length_map]
  have hg:(([]:List Row).length+c.rows.length)*112≤140737488355328:=by rw[hlc];unfold big at hN;simp;omega
  exact ⟨_,by rw[if_neg h,if_pos hg],by rw[appC_rows,hc];rfl⟩
theorem row_k0 (p:PP):(at_ (pairRow p) 0).toI=p.1.k:=rfl
theorem row_k4 (p:PP):(at_ (pairRow p) 4).toI=p.2.k:=rfl
theorem merge_same (ca cb:C) (a b:List PP) (hca:ca.rows=a.map pairRow) (hcb:cb.rows=b.map pairRow) (ha:PairsOk a) (hb:PairsOk b):∃(d d':C) (e:Int) (s:List PP),(lim T).pc n_dict_Merge [[ca],[cb]]=some [[d],[.int e]]∧(lim T).pc n_clapref3_Merge [[ca],[cb]]=some [[d'],[.int e]]∧d.rows=s.map pairRow∧d'.rows=s.map pairRow∧PairsOk s:=by
 obtain ⟨_,bd,bs,_,cl,_,cr,_,cf⟩:=clashes_both ca cb a b hca hcb ha hb
 rw[dict_Merge_pc,clapref3_Merge_pc];unfold dict_Merge clapref3_Merge
 rw[two_len,Merge_l0 ca cb a b hca hcb ha hb,cl]
 simp only[Option.bind_some,rowsAt_zero,rowsAt_succ,at_zero,toI_int]
 by_cases h1:pairsE a=0
 ·by_cases h2:pairsE b=0
  ·obtain ⟨p0,r0,ea,na,la⟩:=lk_of ha h1
   obtain ⟨p1,r1,eb,nb,lb⟩:=lk_of hb h2
   have hla:ca.rows.length=a.length:=by rw[hca,List.length_map]
   have hlb:cb.rows.length=b.length:=by rw[hcb,List.length_map]
   have al:a.length=r0.length+1:=by rw[ea];rfl
   have bl:b.length=r1.length+1:=by rw[eb];rfl
   have hra:rowsAt ca.rows 0=pairRow p0:=by rw[hca,ea];rfl
   have hrb:rowsAt cb.rows 0=pairRow p1:=by rw[hcb,eb];rfl
   have ga:(0:Int)≤0∧(0:Int)<(ca.rows.length:Int):=⟨by omega,by omega⟩
   have gb:(0:Int)≤0∧(0:Int)<(cb.rows.length:Int):=⟨by omega,by omega⟩
   have hbs:=cf h1 h2
   have hz:a.length+b.length≤big:=by unfold big;omega
   obtain ⟨c2,u1,u2⟩:=clone_pairs ca a hca ha
   have ml:=mg_l1 ca cb a b hca hcb la lb hz _ 0 (Nat.zero_add _) c2 (by rw[u2];simp)
   rw[show ((0:Nat):Int)=0 from rfl,List.drop_zero]at ml
   obtain ⟨m0,m1,i1,i2,i3⟩:=maps_spec ca a hca ha
   have hgA:ca.rows.length*112≤140737488355328:=by omega
   obtain ⟨d2,w1,w2⟩:=rmg_l0 cb a b hcb la lb hz m0 i2 _ 0 (Nat.zero_add _) (appC .nils ca.rows) (by rw[appC_rows,hca];simp)
   rw[show ((0:Nat):Int)=0 from rfl]at w1
   have hbl:bd.rows.length=(b.filter (clF a)).length:=by rw[cr,List.length_map,hbs]
   have n0:¬((0:Int) !=0)=true:=by decide
   simp only[h1,h2,ne_eq,not_true_eq_false,if_false,Option.bind_some,gC_s,gC_z,gI_s,gI_z,gB_s,gB_z,if_pos ga,if_pos gb,hra,hrb,row_k0,row_k4,n0]
   by_cases k1:p0.1.k=p1.1.k
   ·by_cases k2:p0.2.k=p1.2.k
    ·have e1:(p0.1.k !=p1.1.k)=false:=by simp[k1]
     have e2:(p0.2.k !=p1.2.k)=false:=by simp[k2]
     simp only[e1,e2,Bool.false_eq_true,if_false,Option.bind_some,gC_s,gC_z,gB_s,gB_z,hla,hlb,u1,i1,gM_z]
     cases hcl:b.any (clF a)with
     |true=>
      have hp:(0:Int)<(bd.rows.length:Int):=by
       obtain ⟨x,hx,hx2⟩:=List.any_eq_true.1 hcl
       have:x∈b.filter (clF a):=List.mem_filter.2 ⟨hx,hx2⟩
       have:=List.length_pos_of_mem this
       omega
      rw[ml.1 hcl]
      refine ⟨.nils, .nils,17,[],by simp, ?_,rfl,rfl,nil_ok⟩
      simp only[gt_iff_lt,hp,decide_true,if_true]
     |false=>
      have hp:¬(0:Int)<(bd.rows.length:Int):=by
       have:b.filter (clF a)=[]:=List.filter_eq_nil_iff.2 fun x hx hx2=>by
        have:=List.any_eq_true.2 ⟨x,hx,hx2⟩
        rw[hcl]at this;cases this
       rw[this]at hbl;rw[List.length_nil]at hbl;omega
      obtain ⟨d1,v1,v2⟩:=ml.2 hcl
      rw[v1]
      have hl1:d1.rows.length=(mgL a b).length:=by rw[v2,List.length_map]
      have hl2:d2.rows.length=(mgL a b).length:=by rw[w2,List.length_map]
      have hgA':a.length*112≤140737488355328:=by omega
      by_cases hlen:(mgL a b).length≤40
      ·have od:=mg_od la lb k1 (Nat.le_trans hlen (by decide))
       have hne:mgL a b≠[]:=by unfold mgL;rw[ea];simp
       obtain ⟨x,s,x1,x2,x3,x4⟩:=dsorted d1 v2 od hne (by omega)
       obtain ⟨y,t,y1,y2,y3,y4⟩:=rsorted d2 w2 od hne (by omega)
       have est:=x3.uniq y3
       have n3:¬((mgL a b).length:Int)>40:=by omega
       refine ⟨x,y,0,s, ?_, ?_,x2,by rw[y2,est],x3.ok od.ok (by rw[x4];unfold big;omega)⟩
       ·have hlen':((mgL a b).length:Int)≤40:=by omega
        simp[hl1,hlen',x1]
       ·simp only[gt_iff_lt,hp,decide_false,Bool.false_eq_true,if_false,Option.bind_some,hgA',if_true,w1,gC_s,gC_z,hl2,show ¬(40:Int)<((mgL a b).length:Int) by omega,y1,rowsAt_zero,at_zero]
      ·have n3:((mgL a b).length:Int)>40:=by omega
       refine ⟨.nils, .nils,2,[], ?_, ?_,rfl,rfl,nil_ok⟩
       ·simp[hl1];omega
       ·simp only[gt_iff_lt,hp,decide_false,Bool.false_eq_true,if_false,Option.bind_some,hgA',if_true,w1,gC_s,gC_z,hl2,show (40:Int)<((mgL a b).length:Int) by omega,decide_true]
    ·have e1:(p0.1.k !=p1.1.k)=false:=by simp[k1]
     have e2:(p0.2.k !=p1.2.k)=true:=by simp[k2]
     exact ⟨.nils, .nils,8,[],by simp[e1,e2],by simp[e1,e2],rfl,rfl,nil_ok⟩
   ·have e1:(p0.1.k !=p1.1.k)=true:=by simp[k1]
    exact ⟨.nils, .nils,8,[],by simp[e1],by simp[e1],rfl,rfl,nil_ok⟩
  ·exact ⟨.nils, .nils,pairsE b,[],by simp[h1,h2],by simp[h1,h2],rfl,rfl,nil_ok⟩
 ·exact ⟨.nils, .nils,pairsE a,[],by simp[h1],by simp[h1],rfl,rfl,nil_ok⟩
theorem law (ca cb:C) (a b:List PP) (hca:ca.rows=a.map pairRow) (hcb:cb.rows=b.map pairRow) (ha:PairsOk a) (hb:PairsOk b):(lim T).pc n_claplaw3_DictJoins [[ca],[cb]]=some [[.bool true]]:=by
 rw[claplaw3_DictJoins_pc];unfold claplaw3_DictJoins
 obtain ⟨x1,y1,e1,s1,a1,b1,c1,d1,o1⟩:=compose_same ca cb a b hca hcb ha hb
 obtain ⟨x2,y2,s2,a2,b2,c2,d2,o2,_⟩:=clashes_both ca cb a b hca hcb ha hb
 obtain ⟨x3,y3,e3,s3,a3,b3,c3,d3,o3⟩:=merge_same ca cb a b hca hcb ha hb
 have p1:=sp_spec x1 y1 s1 c1 d1 o1
 have p2:=sp_spec x2 y2 s2 c2 d2 o2
 have p3:=sp_spec x3 y3 s3 c3 d3 o3
 simp[looked_true,a1,b1,a2,b2,a3,b3,p1,p2,p3]
end Go.Ev.Zzj
