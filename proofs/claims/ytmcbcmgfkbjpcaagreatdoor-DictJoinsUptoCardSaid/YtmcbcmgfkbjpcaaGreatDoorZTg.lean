/-
  A part of the proof: what the functions of the program compute.
-/
import Derived.Test.YtmcbcmgfkbjpcaaGreatDoorZTf
set_option linter.all false
set_option maxRecDepth 100000
namespace Go.Ev.Zzj
abbrev PP:=Val×Val
structure Ord (k0:Int) (l:List PP):Prop where
 ok:PairsOk l
 good:∀p∈l,GoodV k0 p.1
 dist:∀i j (hi:i<l.length) (hj:j<l.length),i<j→l[j].1.eqv l[i].1=false
theorem one_dist {k0:Int} {seen:List Val} {v:Val} (h:oneE k0 seen v=0):∀q∈seen,v.eqv q=false:=by
 unfold oneE at h
 by_cases h0:chkE v=0
 ·simp only[h0,ne_eq,not_true_eq_false,if_false]at h
  split at h
  ·omega
  ·split at h
   ·omega
   ·rename_i hn
    intro q hq
    cases he:v.eqv q
    ·rfl
    ·exact absurd (List.any_eq_true.2 ⟨q,hq,he⟩) hn
 ·simp only[ne_eq,h0,not_false_eq_true,if_true]at h
theorem go_good {k0 k1:Int}:∀(l pre:List PP),PairsOk l→pairsGo k0 k1 pre l=0→(∀p∈l,GoodV k0 p.1∧GoodV k1 p.2∧∀q∈pre,p.1.eqv q.1=false∧p.2.eqv q.2=false)∧(∀i j (hi:i<l.length) (hj:j<l.length),i<j→l[j].1.eqv l[i].1=false∧l[j].2.eqv l[i].2=false)
 |[],pre,_,_=>⟨fun p h=>by simp at h,fun i j hi=>by simp at hi⟩
 |p::l,pre,hl,h=>by
  rw[pairsGo]at h
  split at h
  ·rename_i c;exact absurd h c
  ·rename_i c1
   split at h
   ·rename_i c;exact absurd h c
   ·rename_i c2
    have e1:oneE k0 (pre.map Prod.fst) p.1=0:=Classical.byContradiction c1
    have e2:oneE k1 (pre.map Prod.snd) p.2=0:=Classical.byContradiction c2
    obtain ⟨a1,a2⟩:=go_good l (pre++[p]) ⟨fun q hq=>hl.wf q (by simp[hq]),fun q hq=>hl.bulk q (by simp[hq]),by have:=hl.len;simp at this;omega⟩ h
    refine ⟨fun q hq=> ?_,fun i j hi hj hij=> ?_⟩
    ·rcases List.mem_cons.1 hq with rfl |hq
     ·exact ⟨one_good (hl.bulk q (by simp) 0) e1,one_good (hl.bulk q (by simp) 1) e2,fun x hx=>⟨one_dist e1 _ (List.mem_map_of_mem hx),one_dist e2 _ (List.mem_map_of_mem hx)⟩⟩
     ·obtain ⟨b1,b2,b3⟩:=a1 q hq
      exact ⟨b1,b2,fun x hx=>b3 x (by simp[hx])⟩
    ·cases j with
     |zero=>omega
     |succ j=>
      cases i with
      |zero=>exact (a1 (l[j]'(by simpa using hj)) (List.getElem_mem _)).2.2 p (by simp)
      |succ i=>exact a2 i j (by simpa using hi) (by simpa using hj) (by omega)
theorem cb_zero:∀{a b:Bytes},¬cmpBytes a b<0→¬cmpBytes b a<0→cmpBytes a b=0
 |[],[],_,_=>rfl
 |_::_,[],_,h=>by simp[cmpBytes]at h
 |[],_::_,h,_=>by simp[cmpBytes]at h
 |x::a,y::b,h,k=>by
  simp only[cmpBytes,UInt8.lt_iff_toNat_lt]at h k⊢
  split at h
  ·simp at h
  ·rename_i c1
   rw[if_neg c1]at k
   split at h
   ·rename_i c2;rw[if_pos c2]at k;simp at k
   ·rename_i c2
    rw[if_neg c2]at k
    rw[if_neg c1,if_neg c2];exact cb_zero h k
theorem kv_zero {k0:Int} {a b:Val} (h:¬kv k0 a b<0) (k:¬kv k0 b a<0):kv k0 a b=0:=by
 unfold kv at*
 split at h
 ·rename_i e;rw[if_pos e]at k⊢;exact cb_zero h k
 ·rename_i e;rw[if_neg e]at k⊢;rw[ci_lt]at*;exact cmpI_zero.2 (by omega)
variable {k0:Int} {l:List PP} {p0:PP}
def RR (l:List PP) (p0:PP) (x:Nat):Row:=pairRow (l.getD x p0)
def KK (k0:Int) (l:List PP) (p0:PP) (x:Nat):Int:=rank k0 (l.map Prod.fst) (l.getD x p0).1
theorem mem_getD (h0:p0∈l) (x:Nat):l.getD x p0∈l:=by
 rw[List.getD_eq_getElem?_getD]
 by_cases c:x<l.length
 ·rw[List.getElem?_eq_getElem c];exact List.getElem_mem c
 ·rw[List.getElem?_eq_none (by omega)];exact h0
theorem getD_at (x:Nat) (h:x<l.length):l.getD x p0=l[x]:=by simp[h]
theorem row_fst (p:PP):([at_ (pairRow p) 0,at_ (pairRow p) 1,at_ (pairRow p) 2,at_ (pairRow p) 3]:Row)=p.1.row:=rfl
theorem cmp_pair (ho:Ord k0 l) (p q:PP) (hp:p∈l) (hq:q∈l):(lim T).pc n_value_Cmp [[at_ (pairRow p) 0,at_ (pairRow p) 1,at_ (pairRow p) 2,at_ (pairRow p) 3],[at_ (pairRow q) 0,at_ (pairRow q) 1,at_ (pairRow q) 2,at_ (pairRow q) 3]]=some [[.int (kv k0 p.1 q.1)]]:=by
 rw[row_fst,row_fst,cmp_spec p.1 q.1 (ho.ok.wf p hp 0) (ho.ok.wf q hq 0) (ho.ok.bulk p hp 0),good_cmp (ho.good p hp) (ho.good q hq)]
theorem KK_lt (h0:p0∈l) (x y:Nat):kv k0 (l.getD x p0).1 (l.getD y p0).1<0↔KK k0 l p0 x<KK k0 l p0 y:=
 rank_lt (List.mem_map_of_mem (mem_getD h0 x))
theorem srt_cm (ho:Ord k0 l) (h0:p0∈l):Cm (RR l p0) (KK k0 l p0) (.fn n_dict_sorted_1 []) (fun x y=>kv k0 (l.getD x p0).1 (l.getD y p0).1):=by
 refine ⟨fun x y=> ?_,fun x y=>KK_lt h0 x y⟩
 show (lim T).pc n_dict_sorted_1 [RR l p0 x,RR l p0 y]=_
 rw[dict_sorted_1_pc];unfold dict_sorted_1 RR
 rw[cmp_pair ho _ _ (mem_getD h0 x) (mem_getD h0 y)]
 rfl
theorem KK_inj (ho:Ord k0 l) (h0:p0∈l):∀i j,i<l.length→j<l.length→KK k0 l p0 i=KK k0 l p0 j→i=j:=by
 have key:∀i j,i<l.length→j<l.length→i<j→KK k0 l p0 i≠KK k0 l p0 j:=fun i j hi hj hij e=>by
  have a1:¬kv k0 (l.getD j p0).1 (l.getD i p0).1<0:=fun h=>by have:=(KK_lt h0 j i).1 h;omega
  have a2:¬kv k0 (l.getD i p0).1 (l.getD j p0).1<0:=fun h=>by have:=(KK_lt h0 i j).1 h;omega
  have z:=kv_zero a1 a2
  rw[getD_at i hi,getD_at j hj]at z
  rw[←good_cmp (ho.good _ (List.getElem_mem hj)) (ho.good _ (List.getElem_mem hi))]at z
  have:=(Val.cmp_zero _ _ (ho.ok.wf _ (List.getElem_mem hj) 0) (ho.ok.wf _ (List.getElem_mem hi) 0)).1 z
  rw[show pk l[j] 0=l[j].1 from rfl,show pk l[i] 0=l[i].1 from rfl]at*
  rw[ho.dist i j hi hj hij]at this
  exact absurd this (by decide)
 intro i j hi hj e
 rcases Nat.lt_trichotomy i j with c |c |c
 ·exact absurd e (key i j hi hj c)
 ·exact c
 ·exact absurd e.symm (key j i hj hi c)
theorem arr_succ (R:Nat→Row) (g:Nat→Nat) (n:Nat):arr R g (n+1)=arr R g n++[R (g n)]:=by simp[arr,List.range_succ]
def outQ (l:List PP) (p0:PP):Nat→C
 |0=> .nils
 |i+1=> .sl (arr (RR l p0) id (i+1))
theorem outQ_rows (i:Nat):(outQ l p0 i).rows=arr (RR l p0) id i:=by cases i<;>rfl
theorem ds_l (c:C) (hc:c.rows=l.map pairRow) (hl:PairsOk l):∀(j i:Nat),i+j=l.length→
 dict_sorted_l0 (lim T) c (l.length:Int) (i:Int) (outQ l p0 i)=some (0,[.r [outQ l p0 l.length]])
 |0,i,h=>by
  rw[dict_sorted_l0_eq];unfold dict_sorted_b0
  obtain rfl:i=l.length:=by omega
  simp
 |j+1,i,h=>by
  have ih:=ds_l c hc hl j (i+1) (by omega)
  rw[dict_sorted_l0_eq];unfold dict_sorted_b0
  have hN:=hl.len
  have hi:i<l.length:=by omega
  have hll:c.rows.length=l.length:=by rw[hc,List.length_map]
  have hr:rowsAt c.rows i=pairRow l[i]:=by rw[hc];exact rowsAt_map _ _ _ hi
  have hm:=List.getElem_mem hi
  have b1:=hl.bulk _ hm 0
  have b2:=hl.bulk _ hm 1
  have c1:=copy1_spec l[i].1 b1
  have c2:=copy1_spec l[i].2 b2
  have hg:(i+1)*112≤140737488355328:=by unfold big at hN;omega
  have ha:appC (outQ l p0 i) [pairRow l[i]]=outQ l p0 (i+1):=by
   have e:RR l p0 (id i)=pairRow l[i]:=by simp[RR,hi]
   rw[outQ,arr_succ,e,←outQ_rows]
   cases i<;>rfl
  have f0:(at_ (pairRow l[i]) 0).toI=l[i].1.k:=rfl
  have f1:(at_ (pairRow l[i]) 1).toI=l[i].1.n:=rfl
  have f2:(at_ (pairRow l[i]) 2).toS=l[i].1.s:=rfl
  have f3:at_ (pairRow l[i]) 3=l[i].1.fc:=rfl
  have f4:(at_ (pairRow l[i]) 4).toI=l[i].2.k:=rfl
  have f5:(at_ (pairRow l[i]) 5).toI=l[i].2.n:=rfl
  have f6:(at_ (pairRow l[i]) 6).toS=l[i].2.s:=rfl
  have f7:at_ (pairRow l[i]) 7=l[i].2.fc:=rfl
  have g1:([gC 0 [PV.r l[i].1.row],at_ (gR 0 [PV.r l[i].1.row]) 1,at_ (gR 0 [PV.r l[i].1.row]) 2,at_ (gR 0 [PV.r l[i].1.row]) 3,gC 0 [PV.r l[i].2.row],at_ (gR 0 [PV.r l[i].2.row]) 1,at_ (gR 0 [PV.r l[i].2.row]) 2,at_ (gR 0 [PV.r l[i].2.row]) 3]:Row)=pairRow l[i]:=rfl
  simp only[Int.natCast_nonneg,Int.ofNat_lt,hi,hll,and_self,decide_true,if_true,Int.toNat_natCast,hr,f0,f1,f2,f3,f4,f5,f6,f7,c1,c2,Option.bind_some,g1,outQ_rows,arr_len,List.length_cons,List.length_nil,Nat.zero_add,hg,ha,wrap_nat (show i≤big by omega),ih]
theorem ds_spec (c:C) (hc:c.rows=l.map pairRow) (ho:Ord k0 l) (h0:p0∈l) (hn:l.length<50):∃(d:C) (g:Nat→Nat),(lim T).pc n_dict_sorted [[c]]=some [[d]]∧d.rows=arr (RR l p0) g l.length∧Sub g id 0 l.length∧Wsr (KK k0 l p0) g 0 l.length:=by
 rw[dict_sorted_pc];unfold dict_sorted
 have hll:c.rows.length=l.length:=by rw[hc,List.length_map]
 have e:=ds_l (p0:=p0) c hc ho.ok _ 0 (Nat.zero_add _)
 rw[show ((0:Nat):Int)=0 from rfl,show outQ l p0 0= .nils from rfl]at e
 obtain ⟨m,hm⟩:∃m,l.length=m+1:=by
  cases l with
  |nil=>simp at h0
  |cons a r=>exact ⟨r.length,rfl⟩
 obtain ⟨g,s1,s2,s3⟩:=sort_ic hn (srt_cm ho h0) id
 refine ⟨.sl (arr (RR l p0) g l.length),g, ?_,rfl,s2,s3⟩
 rw[hll,e]
 have ho':outQ l p0 l.length= .sl (arr (RR l p0) id l.length):=by rw[hm];rfl
 rw[ho']
 simp only[evs,List.length_set,and_self,and_true,true_and,ne_eq,not_false_eq_true,Option.bind_some,decide_eq_true_eq,Bool.not_eq_true',decide_eq_false_iff_not,not_true_eq_false,Bool.not_true,Bool.not_false,Bool.false_eq_true,decide_true,decide_false,if_true,if_false,ge_iff_le,gt_iff_lt,s1]
end Go.Ev.Zzj
