/-
  A part of the proof: what the functions of the program compute.
-/
import Derived.Test.YtmcbcmgfkbjpcaaGreatDoorZTj
set_option linter.all false
set_option maxRecDepth 100000
namespace Go.Ev.Zzj
def clF (a:List PP) (p:PP):Bool:=ix (sm p.1 0) a 0 !=ix (sm p.2 1) a 0
def clR (a:List PP) (p:PP):Bool:=(match fnd a 0 (idK p.1)with |some q=> !(idK q.2==idK p.2)|none=>false)||(match fnd a 1 (idK p.2)with |some q=> !(idK q.1==idK p.1)|none=>false)
theorem cl_eq {k0 k1 k2 k3:Int} {a:List PP} (ha:Lk k0 k1 a) {p:PP} (hp:GoodV k2 p.1∧GoodV k3 p.2):clF a p=clR a p:=by
 have h0:=fnd_sm (k:=0) (fun q hq=>(ha.g q hq).1) hp.1
 have h1:=fnd_sm (k:=1) (fun q hq=>(ha.g q hq).2) hp.2
 unfold clF clR
 rcases ix_fnd (sm p.1 0) a 0 with ⟨q,hq,q1,q2⟩|⟨q1,q2⟩
 ·rw[h0]at q2
  have e0:=(fnd_mem q2).2
  rcases ix_fnd (sm p.2 1) a 0 with ⟨r,hr,r1,r2⟩|⟨r1,r2⟩
  ·rw[h1]at r2
   have e1:=(fnd_mem r2).2
   rw[q1,r1,q2,r2]
   by_cases c:q=r
   ·subst c
    have e0':idK a[q].1=idK p.1:=e0
    have e1':idK a[q].2=idK p.2:=e1
    simp[e0',e1']
   ·have n1:¬idK a[q].2=idK p.2:=fun h=>by
     have e1':idK a[r].2=idK p.2:=e1
     rcases Nat.lt_or_gt_of_ne c with h' |h'
     ·exact (List.pairwise_iff_getElem.1 ha.d q r hq hr h').2 (h.trans e1'.symm)
     ·exact (List.pairwise_iff_getElem.1 ha.d r q hr hq h').2 (e1'.trans h.symm)
    have n2:¬((0+q:Nat):Int)=((0+r:Nat):Int):=by omega
    rw[bne_iff_ne.2 n2]
    simp[n1]
  ·rw[h1]at r2
   have n1:¬idK a[q].2=idK p.2:=fnd_none r2 _ (List.getElem_mem hq)
   have n2:¬((0+q:Nat):Int)= -1:=by omega
   rw[q1,r1,q2,r2,bne_iff_ne.2 n2]
   simp[n1]
 ·rw[h0]at q2
  rcases ix_fnd (sm p.2 1) a 0 with ⟨r,hr,r1,r2⟩|⟨r1,r2⟩
  ·rw[h1]at r2
   have n1:¬idK a[r].1=idK p.1:=fnd_none q2 _ (List.getElem_mem hr)
   have n2:¬(-1:Int)=((0+r:Nat):Int):=by omega
   rw[q1,r1,q2,r2,bne_iff_ne.2 n2]
   simp[n1]
  ·rw[h1]at r2
   rw[q1,r1,q2,r2]
   rfl
theorem fil_take (f:PP→Bool) (b:List PP) {i:Nat} (hi:i<b.length):(b.take (i+1)).filter f=(b.take i).filter f++if f b[i]=true then [b[i]]else []:=by
 have ht:b.take (i+1)=b.take i++[b[i]]:=by rw[List.take_add_one,List.getElem?_eq_getElem hi];rfl
 rw[ht,List.filter_append]
 by_cases h:f b[i]=true
 ·simp[h]
 ·simp[h]
theorem fil_len (f:PP→Bool) (b:List PP) (i:Nat):((b.take i).filter f).length≤i:=Nat.le_trans (List.length_filter_le _ _) (by simp;omega)
theorem fil_ok {f:PP→Bool} {b:List PP} (hb:PairsOk b):PairsOk (b.filter f):=
 ⟨fun p hp=>hb.wf p (List.mem_filter.1 hp).1,fun p hp=>hb.bulk p (List.mem_filter.1 hp).1,Nat.le_trans (List.length_filter_le _ _) hb.len⟩
theorem cl_l1 (ca cb:C) (a b:List PP) (hca:ca.rows=a.map pairRow) (hcb:cb.rows=b.map pairRow) (ha:PairsOk a) (hb:PairsOk b):∀(j i:Nat),i+j=b.length→∀d:C,d.rows=((b.take i).filter (clF a)).map pairRow→
 ∃d':C,dict_Clashes_l1 (lim T) ca cb (b.length:Int) (i:Int) d=some (0,[.r [d']])∧d'.rows=(b.filter (clF a)).map pairRow
 |0,i,h,d,hd=>by
  rw[dict_Clashes_l1_eq];unfold dict_Clashes_b1
  obtain rfl:i=b.length:=by omega
  rw[List.take_length]at hd
  exact ⟨d,by simp,hd⟩
 |j+1,i,h,d,hd=>by
  rw[dict_Clashes_l1_eq];unfold dict_Clashes_b1
  have hi:i<b.length:=by omega
  have hN:=hb.len
  have hm:=List.getElem_mem hi
  have hlb:cb.rows.length=b.length:=by rw[hcb,List.length_map]
  have hrb:rowsAt cb.rows i=pairRow b[i]:=by rw[hcb];exact rowsAt_map _ _ _ hi
  have f0:=find_spec ca a hca ha b[i].1 (hb.wf _ hm 0) 0 (by omega)
  have f1:=find_spec ca a hca ha b[i].2 (hb.wf _ hm 1) 1 (by omega)
  rw[show ((0:Nat):Int)=0 from rfl]at f0
  rw[show ((1:Nat):Int)=1 from rfl]at f1
  have c1:=copy1_spec b[i].1 (hb.bulk _ hm 0)
  have c2:=copy1_spec b[i].2 (hb.bulk _ hm 1)
  have hg:(d.rows.length+1)*112≤140737488355328:=by rw[hd,List.length_map];have:=fil_len (clF a) b i;unfold big at hN;omega
  have k0:(at_ (pairRow b[i]) 0).toI=b[i].1.k:=rfl
  have k1:(at_ (pairRow b[i]) 1).toI=b[i].1.n:=rfl
  have k2:(at_ (pairRow b[i]) 2).toS=b[i].1.s:=rfl
  have k3:at_ (pairRow b[i]) 3=b[i].1.fc:=rfl
  have k4:(at_ (pairRow b[i]) 4).toI=b[i].2.k:=rfl
  have k5:(at_ (pairRow b[i]) 5).toI=b[i].2.n:=rfl
  have k6:(at_ (pairRow b[i]) 6).toS=b[i].2.s:=rfl
  have k7:at_ (pairRow b[i]) 7=b[i].2.fc:=rfl
  have v0:([.int b[i].1.k, .int b[i].1.n, .str b[i].1.s,b[i].1.fc]:Row)=b[i].1.row:=rfl
  have v1:([.int b[i].2.k, .int b[i].2.n, .str b[i].2.s,b[i].2.fc]:Row)=b[i].2.row:=rfl
  have g1:([gC 0 [PV.r b[i].1.row],at_ (gR 0 [PV.r b[i].1.row]) 1,at_ (gR 0 [PV.r b[i].1.row]) 2,at_ (gR 0 [PV.r b[i].1.row]) 3,gC 0 [PV.r b[i].2.row],at_ (gR 0 [PV.r b[i].2.row]) 1,at_ (gR 0 [PV.r b[i].2.row]) 2,at_ (gR 0 [PV.r b[i].2.row]) 3]:Row)=pairRow b[i]:=rfl
  by_cases c:clF a b[i]=true
  ·obtain ⟨d',e1,e2⟩:=cl_l1 ca cb a b hca hcb ha hb j (i+1) (by omega) (appC d [pairRow b[i]]) (by rw[fil_take _ b hi,if_pos c,appC_rows,hd,List.map_append];rfl)
   refine ⟨d', ?_,e2⟩
   unfold clF at c
   simp only[Int.natCast_nonneg,Int.ofNat_lt,hi,hlb,and_self,decide_true,if_true,Int.toNat_natCast,hrb,k0,k1,k2,k3,k4,k5,k6,k7,v0,v1,f0,f1,Option.bind_some,rowsAt_zero,at_zero,toI_int,c,c1,c2,g1,List.length_cons,List.length_nil,Nat.zero_add,hg,wrap_nat (show i≤big by omega),e1]
  ·obtain ⟨d',e1,e2⟩:=cl_l1 ca cb a b hca hcb ha hb j (i+1) (by omega) d (by rw[fil_take _ b hi,if_neg c,List.append_nil,hd])
   refine ⟨d', ?_,e2⟩
   unfold clF at c
   simp only[Int.natCast_nonneg,Int.ofNat_lt,hi,hlb,and_self,decide_true,if_true,Int.toNat_natCast,hrb,k0,k1,k2,k3,k4,k5,k6,k7,v0,v1,f0,f1,Option.bind_some,rowsAt_zero,at_zero,toI_int,c,Bool.false_eq_true,if_false,wrap_nat (show i≤big by omega),e1]
theorem rcl_l0 {k0 k1 k2 k3:Int} (cb:C) (a b:List PP) (hcb:cb.rows=b.map pairRow) (ha:Lk k0 k1 a) (hb:Lk k2 k3 b) (m0 m1:List (Row×Row)) (hm0:MapR (a.map fun p=>(idK p.1,p.2.row)) m0) (hm1:MapR (a.map fun p=>(idK p.2,p.1.row)) m1):∀(j i:Nat),i+j=b.length→∀d:C,d.rows=((b.take i).filter (clF a)).map pairRow→
 ∃d':C,clapref3_Clashes_l0 (lim T) cb (b.length:Int) (i:Int) m0 m1 d=some (0,[.r [d']])∧d'.rows=(b.filter (clF a)).map pairRow
 |0,i,h,d,hd=>by
  rw[clapref3_Clashes_l0_eq];unfold clapref3_Clashes_b0
  obtain rfl:i=b.length:=by omega
  rw[List.take_length]at hd
  exact ⟨d,by simp,hd⟩
 |j+1,i,h,d,hd=>by
  rw[clapref3_Clashes_l0_eq];unfold clapref3_Clashes_b0
  have hi:i<b.length:=by omega
  have hN:=hb.ok.len
  have hm:=List.getElem_mem hi
  have hlb:cb.rows.length=b.length:=by rw[hcb,List.length_map]
  have hrb:rowsAt cb.rows i=pairRow b[i]:=by rw[hcb];exact rowsAt_map _ _ _ hi
  have r0:=rid_spec b[i].1 (hb.ok.wf _ hm 0) (hb.ok.bulk _ hm 0)
  have r1:=rid_spec b[i].2 (hb.ok.wf _ hm 1) (hb.ok.bulk _ hm 1)
  have q0:=(hm0.look (idK b[i].1)).trans (lkp_fnd0 (idK b[i].1) ha.d)
  have q1:=(hm1.look (idK b[i].2)).trans (lkp_fnd1 (idK b[i].2) ha.d)
  have hg:(d.rows.length+1)*112≤140737488355328:=by rw[hd,List.length_map];have:=fil_len (clF a) b i;unfold big at hN;omega
  have ce:=cl_eq ha (hb.g _ hm)
  have fin:∀t:Bool,t=clF a b[i]→∃d2:C,(if t=true then (if (d.rows.length+1)*112≤140737488355328 then some (0,[PV.r [cb], .r [.int (b.length:Int)], .r [.int (i:Int)], .m m0, .m m1, .r [appC d [pairRow b[i]]]])else none)else some (0,[.r [cb], .r [.int (b.length:Int)], .r [.int (i:Int)], .m m0, .m m1, .r [d]]))=some (0,[PV.r [cb], .r [.int (b.length:Int)], .r [.int (i:Int)], .m m0, .m m1, .r [d2]])∧d2.rows=((b.take (i+1)).filter (clF a)).map pairRow:=fun t ht=>by
   subst ht
   by_cases c:clF a b[i]=true
   ·exact ⟨appC d [pairRow b[i]],by rw[if_pos c,if_pos hg],by rw[fil_take _ b hi,if_pos c,appC_rows,hd,List.map_append];rfl⟩
   ·exact ⟨d,by rw[if_neg c],by rw[fil_take _ b hi,if_neg c,List.append_nil,hd]⟩
  obtain ⟨d2,f1,f2⟩:=fin _ ce.symm
  obtain ⟨d',e1,e2⟩:=rcl_l0 cb a b hcb ha hb m0 m1 hm0 hm1 j (i+1) (by omega) d2 f2
  refine ⟨d', ?_,e2⟩
  have hK:∀x:Option (Nat×List PV),x=some (0,[PV.r [cb], .r [.int (b.length:Int)], .r [.int (i:Int)], .m m0, .m m1, .r [d2]])→(x.bind fun x18=>clapref3_Clashes_l0 (lim T) (gC 0 x18.2) (gI 1 x18.2) (IntKind.wrap .i64 (gI 2 x18.2+1)) (gM 3 x18.2) (gM 4 x18.2) (gC 5 x18.2))=some (0,[.r [d']]):=fun x hx=>by
   subst hx
   simp only[Option.bind_some,gC_s,gC_z,gI_s,gI_z,gM_s,gM_z,wrap_nat (show i≤big by omega),e1]
  have pos1:decide ((i:Int)<(b.length:Int))=true:=by simpa using hi
  rw[if_pos pos1]
  refine hK _ ?_
  rw[←f1]
  have ie:(0:Int)≤(i:Int)∧(i:Int)<(cb.rows.length:Int):=⟨by omega,by omega⟩
  rw[if_pos ie,Int.toNat_natCast,hrb,row_fst,row_snd,r0,r1]
  unfold clR
  have mem0:∀q,fnd a 0 (idK b[i].1)=some q→(lim T).pc n_clapref3_id [q.2.row]=some [[.str (idK q.2)]]:=fun q hq=>rid_spec q.2 (ha.ok.wf _ (fnd_mem hq).1 1) (ha.ok.bulk _ (fnd_mem hq).1 1)
  have mem1:∀q,fnd a 1 (idK b[i].2)=some q→(lim T).pc n_clapref3_id [q.1.row]=some [[.str (idK q.1)]]:=fun q hq=>rid_spec q.1 (ha.ok.wf _ (fnd_mem hq).1 0) (ha.ok.bulk _ (fnd_mem hq).1 0)
  simp only[Option.bind_some,rowsAt_zero,at_zero,toS_str,q0,q1]
  cases x0:fnd a 0 (idK b[i].1)with
  |none=>
   cases x1:fnd a 1 (idK b[i].2)with
   |none=>simp[gB_s,gB_z]
   |some q=>
    have:=mem1 q x1
    by_cases hq:idK q.1=idK b[i].1<;>simp[this,hq]
  |some p=>
   have t0:=mem0 p x0
   by_cases hp:idK p.2=idK b[i].2
   ·cases x1:fnd a 1 (idK b[i].2)with
    |none=>simp[t0,hp]
    |some q=>
     have:=mem1 q x1
     by_cases hq:idK q.1=idK b[i].1<;>simp[t0,hp,this,hq]
   ·simp[t0,hp]
theorem clashes_both (ca cb:C) (a b:List PP) (hca:ca.rows=a.map pairRow) (hcb:cb.rows=b.map pairRow) (ha:PairsOk a) (hb:PairsOk b):∃(d d':C) (s:List PP),(lim T).pc n_dict_Clashes [[ca],[cb]]=some [[d],[.int (if pairsE a≠0 then pairsE a else pairsE b)]]∧(lim T).pc n_clapref3_Clashes [[ca],[cb]]=some [[d'],[.int (if pairsE a≠0 then pairsE a else pairsE b)]]∧d.rows=s.map pairRow∧d'.rows=s.map pairRow∧PairsOk s∧(pairsE a=0→pairsE b=0→s=b.filter (clF a)):=by
 rw[dict_Clashes_pc,clapref3_Clashes_pc];unfold dict_Clashes clapref3_Clashes
 rw[two_len,Clashes_l0 ca cb a b hca hcb ha hb,rpairs_spec ca a hca ha,rpairs_spec cb b hcb hb]
 simp only[Option.bind_some,rowsAt_zero,at_zero,toI_int,first_spec]
 by_cases h1:pairsE a=0
 ·by_cases h2:pairsE b=0
  ·obtain ⟨p0,r0,ea,na,la⟩:=lk_of ha h1
   obtain ⟨p1,r1,eb,nb,lb⟩:=lk_of hb h2
   have hlb:cb.rows.length=b.length:=by rw[hcb,List.length_map]
   obtain ⟨d,f1,f2⟩:=cl_l1 ca cb a b hca hcb ha hb _ 0 (Nat.zero_add _) .nils (by simp)
   rw[show ((0:Nat):Int)=0 from rfl]at f1
   obtain ⟨m0,m1,i1,i2,i3⟩:=maps_spec ca a hca ha
   obtain ⟨d2,w1,w2⟩:=rcl_l0 cb a b hcb la lb m0 m1 i2 i3 _ 0 (Nat.zero_add _) .nils (by simp)
   rw[show ((0:Nat):Int)=0 from rfl]at w1
   exact ⟨d,d2,b.filter (clF a),by simp[h1,h2,hlb,f1],by simp[h1,h2,i1,hlb,w1],f2,w2,fil_ok hb,fun _ _=>rfl⟩
  ·exact ⟨.nils, .nils,[],by simp[h1,h2],by simp[h1,h2],rfl,rfl,nil_ok,fun _ h=>absurd h h2⟩
 ·exact ⟨.nils, .nils,[],by simp[h1],by simp[h1],rfl,rfl,nil_ok,fun h=>absurd h h1⟩
end Go.Ev.Zzj
