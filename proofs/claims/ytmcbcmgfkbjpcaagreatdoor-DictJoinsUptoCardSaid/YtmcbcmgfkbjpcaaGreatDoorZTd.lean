/-
  A part of the proof: what the functions of the program compute.
-/
import Derived.Test.YtmcbcmgfkbjpcaaGreatDoorZTc
import Derived.Lib.ItoaLen
set_option linter.all false
set_option maxRecDepth 100000
namespace Go.Ev.Zzj
theorem ceq_s (a b:Bytes):ceq lS.ks [.str a] [.str b]=(a==b):=by simp[L.ks,ceq]
theorem find_set (a b:Bytes) (v:Row):∀m:List (Row×Row),(∀p∈m,∃s,p.1=[C.str s])→findE lS [.str b] (setE lS [.str a] v m)=if b=a then some v else findE lS [.str b] m
 |[],_=>by
  simp only[setE,findE,ceq_s,beq_iff_eq]
 |(k,u)::r,h=>by
  obtain ⟨s,hs⟩:=h (k,u) (by simp)
  simp only at hs
  subst hs
  have ih:=find_set a b v r fun p hp=>h p (by simp[hp])
  simp only[setE,ceq_s,beq_iff_eq]
  by_cases e:a=s
  ·subst e
   simp only[if_true,findE,ceq_s,beq_iff_eq]
   by_cases e2:b=a<;>simp[e2]
  ·simp only[e,if_false,findE,ceq_s,beq_iff_eq,ih]
   by_cases e2:b=s
   ·subst e2;simp[Ne.symm e]
   ·simp[e2]
theorem keys_set (a:Bytes) (v:Row):∀m:List (Row×Row),(∀p∈m,∃s,p.1=[C.str s])→∀p∈setE lS [.str a] v m,∃s,p.1=[C.str s]
 |[],_,p,hp=>by simp only[setE,List.mem_singleton]at hp;subst hp;exact ⟨a,rfl⟩
 |(k,u)::r,h,p,hp=>by
  simp only[setE]at hp
  split at hp
  ·rcases List.mem_cons.1 hp with e |e
   ·subst e;exact h (k,u) (by simp)
   ·exact h p (by simp[e])
  ·rcases List.mem_cons.1 hp with e |e
   ·subst e;exact h (k,u) (by simp)
   ·exact keys_set a v r (fun p hp=>h p (by simp[hp])) p e
structure SetM (zero one:C) (pre:List Bytes) (m:List (Row×Row)):Prop where
 keys:∀p∈m,∃s,p.1=[C.str s]
 look:∀s,(findE lS [.str s] m).getD [zero]=[if s∈pre then one else zero]
theorem SetM.nil {zero one:C}:SetM zero one [] []:=⟨fun p h=>absurd h (by simp),fun s=>by simp[findE]⟩
theorem SetM.add {zero one:C} {pre:List Bytes} {m:List (Row×Row)} (h:SetM zero one pre m) (s:Bytes):SetM zero one (pre++[s]) (setE lS [.str s] [one] m):=by
 refine ⟨keys_set s _ m h.keys,fun b=> ?_⟩
 rw[find_set s b _ m h.keys]
 by_cases e:b=s
 ·subst e;simp
 ·simp only[e,if_false,h.look b,List.mem_append,List.mem_singleton,or_false]
def valD (l:List UInt8):Nat:=l.foldl (fun a d=>10*a+(d.toNat - 48)) 0
theorem dig48 {k:Nat} (h:k<10):(UInt8.ofNat (48+k)).toNat=48+k:=by simp;omega
theorem valD_dec (u:Nat):valD (Lib.decDigits u)=u:=by
 rw[Lib.decDigits]
 split
 ·rename_i h;simp only[valD,List.foldl_cons,List.foldl_nil,dig48 h];omega
 ·rename_i h
  have ih:=valD_dec (u/10)
  unfold valD at ih⊢
  rw[List.foldl_append,ih,List.foldl_cons,List.foldl_nil,dig48 (by omega)]
  omega
 termination_by u
 decreasing_by omega
theorem dec_mem (u:Nat):∀d∈Lib.decDigits u,48≤d.toNat:=by
 rw[Lib.decDigits]
 split
 ·rename_i h;intro d hd;simp only[List.mem_singleton]at hd;rw[hd,dig48 h];omega
 ·rename_i h
  intro d hd
  rcases List.mem_append.1 hd with e |e
  ·exact dec_mem (u/10) d e
  ·simp only[List.mem_singleton]at e;rw[e,dig48 (by omega)];omega
 termination_by u
 decreasing_by omega
theorem dec_inj {u v:Nat} (h:Lib.decDigits u=Lib.decDigits v):u=v:=by rw[←valD_dec u,h,valD_dec]
theorem itoa_inj {a b:Int} (h:Lib.itoa a=Lib.itoa b):a=b:=by
 unfold Lib.itoa at h
 split at h<;>split at h
 ·have:=dec_inj (List.cons.inj h).2;omega
 ·have:=dec_mem b.toNat 45 (by rw[←h];simp)
  exact absurd this (by decide)
 ·have:=dec_mem a.toNat 45 (by rw[h];simp)
  exact absurd this (by decide)
 ·have:=dec_inj h;omega
noncomputable def chkE (v:Val):Int:=match (lim T).pc n_value_Check [v.row]with
 |some [[.int n]]=>n
 |_=>0
theorem chk_spec (v:Val) (hN:v.bulk≤big):(lim T).pc n_value_Check [v.row]=some [[.int (chkE v)]]∧(chkE v=0→unusedB v=false):=by
 obtain ⟨n,h,h2⟩:=vcheck_tot v hN
 have e:chkE v=n:=by unfold chkE;rw[h]
 rw[e];exact ⟨h,h2⟩
def plainB (k:Int):Bool:=k==1 ||k==2 ||k==4 ||k==5
theorem plain_spec (k:Int):(lim T).pc n_lens_Plain [[.int k]]=some [[.bool (plainB k)]]:=by
 rw[lens_Plain_pc];unfold lens_Plain plainB
 cases (k==1)<;>cases (k==2)<;>cases (k==4)<;>rfl
theorem rplain_spec (k:Int):(lim T).pc n_clapref3_plain [[.int k]]=some [[.bool (plainB k)]]:=by
 rw[clapref3_plain_pc];unfold clapref3_plain plainB
 cases (k==1)<;>cases (k==2)<;>cases (k==4)<;>cases (k==5)<;>rfl
noncomputable def oneE (k0:Int) (seen:List Val) (v:Val):Int:=if chkE v≠0 then chkE v else if (!plainB v.k ||v.k !=k0)=true then 8 else if seen.any (fun q=>v.eqv q)=true then 5 else 0
noncomputable def pairsGo (k0 k1:Int):List (Val×Val)→List (Val×Val)→Int
 |_,[]=>0
 |pre,p::r=>if oneE k0 (pre.map Prod.fst) p.1≠0 then oneE k0 (pre.map Prod.fst) p.1 else if oneE k1 (pre.map Prod.snd) p.2≠0 then oneE k1 (pre.map Prod.snd) p.2 else pairsGo k0 k1 (pre++[p]) r
noncomputable def pairsE:List (Val×Val)→Int
 |[]=>3
 |p::r=>if r.length≥40 then 2 else pairsGo p.1.k p.2.k [] (p::r)
def pk (p:Val×Val):Nat→Val
 |0=>p.1
 |_=>p.2
theorem pk_row (p:Val×Val) {k:Nat} (hk:k<2):([at_ (pairRow p) ((k:Int).toNat*4),at_ (pairRow p) ((k:Int).toNat*4+1),at_ (pairRow p) ((k:Int).toNat*4+2),at_ (pairRow p) ((k:Int).toNat*4+3)]:Row)=(pk p k).row:=by
 match k,hk with
 |0,_=>rfl
 |1,_=>rfl
theorem pk_k (p:Val×Val) {k:Nat} (hk:k<2):(at_ (pairRow p) ((k:Int).toNat*4)).toI=(pk p k).k:=by
 match k,hk with
 |0,_=>rfl
 |1,_=>rfl
structure PairsOk (l:List (Val×Val)):Prop where
 wf:∀p∈l,∀k,(pk p k).wf
 bulk:∀p∈l,∀k,(pk p k).bulk≤big
 len:l.length≤big
theorem slcP_rows {c:C} {l:List (Val×Val)} (hc:c.rows=l.map pairRow) (i:Nat):(slcC c 0 (i:Int)).rows=(l.take i).map pairRow:=by
 cases c<;>simp[slcC,C.rows]at hc⊢<;>simp[←List.map_take,hc]
theorem lpairs_l2 (v0 v4:C) (v1 v5 v6 v7:Int) (p:Val×Val) (k:Nat) (hk:k<2) (c:C) (l:List (Val×Val)) (hc:c.rows=l.map pairRow) (hp:(pk p k).wf∧(pk p k).bulk≤big) (hl:PairsOk l):∀(j i:Nat),i+j=l.length→
 lens_pairs_l2 (lim T) v0 v1 (.dp (pairRow p)) (k:Int) v4 v5 v6 v7 c (l.length:Int) (i:Int)=some (if (l.drop i).any (fun q=>(pk p k).eqv (pk q k))=true then (1,[.r [.int 5]])else (0,[.r [v0], .r [.int v1], .r [.dp (pairRow p)], .r [v4], .r [.int v5], .r [.int v6], .r [.int v7]]))
 |0,i,h=>by
  rw[lens_pairs_l2_eq];unfold lens_pairs_b2
  obtain rfl:i=l.length:=by omega
  simp
 |j+1,i,h=>by
  rw[lens_pairs_l2_eq];unfold lens_pairs_b2
  have hi:i<l.length:=by omega
  have ih:=lpairs_l2 v0 v4 v1 v5 v6 v7 p k hk c l hc hp hl j (i+1) (by omega)
  refine Tot.eq ?_
  refine .pos (dec_lt hi) (.pos (ix_ok (by rw[hc];simpa using hi)) ?_)
  refine .pos ⟨by omega,by omega,rfl⟩ (.pos ⟨by omega,by omega,rfl⟩ ?_)
  rw[show rowsAt c.rows (i:Int).toNat=pairRow l[i]from (by rw[hc,Int.toNat_natCast];exact rowsAt_map _ _ _ hi),wrap_nat (show i≤big by have:=hl.len;omega)]
  have e:(lim T).pc n_value_Same [(pk p k).row,(pk l[i] k).row]=some [[.bool ((pk p k).eqv (pk l[i] k))]]:=same_spec _ _ hp.1 (hl.wf _ (List.getElem_mem hi) k) hp.2
  rw[←pk_row p hk,←pk_row l[i] hk]at e
  refine .eqbind e ?_
  rw[ih,List.drop_eq_getElem_cons hi,List.any_cons]
  simp only[rowsAt_zero,at_zero,toB_bool]
  cases (pk p k).eqv (pk l[i] k)with
  |true=>simp only[if_true,Bool.true_or];exact .some rfl
  |false=>simp only[Bool.false_eq_true,if_false,Bool.false_or];exact .some rfl
theorem map_any {α β:Type} (f:α→β) (g:β→Bool) (l:List α):(l.map f).any g=l.any (fun a=>g (f a)):=by simp[List.any_map,Function.comp_def]
theorem lpairs_l1 (c:C) (l:List (Val×Val)) (hc:c.rows=l.map pairRow) (hl:PairsOk l) (i:Nat) (hi:i<l.length) (k:Nat) (hk:k<2):
 lens_pairs_l1 (lim T) c (i:Int) (.dp (pairRow l[i])) c (l.length:Int) (i:Int) (k:Int)=
  if oneE (pk (l[0]'(by omega)) k).k ((l.take i).map (fun p=>pk p k)) (pk l[i] k)≠0 then some (1,[.r [.int (oneE (pk (l[0]'(by omega)) k).k ((l.take i).map (fun p=>pk p k)) (pk l[i] k))]])
  else lens_pairs_l1 (lim T) c (i:Int) (.dp (pairRow l[i])) c (l.length:Int) (i:Int) ((k+1:Nat):Int):=by
 rw[lens_pairs_l1_eq];unfold lens_pairs_b1
 have hmem:=List.getElem_mem hi
 have hb:=hl.bulk _ hmem k
 obtain ⟨hcs, -⟩:=chk_spec _ hb
 rw[←pk_row _ hk]at hcs
 have hgu:(0:Int)≤(k:Int)∧(k:Int)<2∧(C.dp (pairRow l[i])).isDp=true:=⟨by omega,by omega,rfl⟩
 rw[if_pos (show decide ((k:Int)<2)=true by simp;omega),if_pos hgu]
 simp only[dpRow_dp]
 rw[hcs]
 simp only[Option.bind_some,rowsAt_zero,at_zero,toI_int]
 by_cases h0:chkE (pk l[i] k)=0
 ·have hne:¬(chkE (pk l[i] k) !=0)=true:=by simp[h0]
  simp only[hne,if_false,if_pos hgu,pk_k _ hk,plain_spec,Option.bind_some,rowsAt_zero,at_zero,toB_bool]
  have hr0:rowsAt c.rows 0=pairRow (l[0]'(by omega)):=by rw[hc];exact rowsAt_map _ _ _ (by omega)
  have hlen:(0:Int)≤0∧(0:Int)<(c.rows.length:Int):=⟨by omega,by rw[hc,List.length_map];omega⟩
  have hgu0:(0:Int)≤(k:Int)∧(k:Int)<2∧(C.dp (pairRow (l[0]'(by omega)))).isDp=true:=⟨by omega,by omega,rfl⟩
  simp only[if_pos hlen,if_pos hgu0,hr0,pk_k _ hk]
  have hguS:(0:Int)≤0∧(0:Int)≤(i:Int)∧(i:Int)≤(c.rows.length:Int):=⟨by omega,by omega,by rw[hc,List.length_map];omega⟩
  have h2:=lpairs_l2 c c (i:Int) (l.length:Int) (i:Int) (k:Int) l[i] k hk (slcC c 0 (i:Int)) (l.take i) (slcP_rows hc i) ⟨hl.wf _ hmem k,hb⟩ ⟨fun p hp=>hl.wf p (List.mem_of_mem_take hp),fun p hp=>hl.bulk p (List.mem_of_mem_take hp),by have:=hl.len;simp;omega⟩ (l.take i).length 0 (by omega)
  rw[List.drop_zero,show ((0:Nat):Int)=0 from rfl]at h2
  have hsl:((slcC c 0 (i:Int)).rows.length:Int)=((l.take i).length:Int):=by rw[slcP_rows hc i,List.length_map]
  unfold oneE
  simp only[h0,ne_eq,not_true_eq_false,if_false]
  rw[map_any]
  cases hpl:plainB (pk l[i] k).k with
  |false=>simp
  |true=>
   cases hkk:(pk l[i] k).k !=(pk (l[0]'(by omega)) k).k with
   |true=>rfl
   |false=>
    simp only[Bool.not_true,Bool.false_eq_true,if_false,Option.bind_some,gB_s,gB_z,gI_s,gI_z,gC_s,gC_z,Bool.false_or,if_pos hguS,hsl]
    rw[h2]
    cases (l.take i).any fun q=>(pk l[i] k).eqv (pk q k)with
    |true=>simp
    |false=>
     simp only[Bool.false_eq_true,if_false,Option.bind_some,gI_s,gI_z,gC_s,gC_z,wrap_nat (show k≤big by unfold big;omega)]
     simp
 ·have hne:(chkE (pk l[i] k) !=0)=true:=by simp[h0]
  unfold oneE
  simp[hne,h0]
theorem lpairs_l1e (c:C) (l:List (Val×Val)) (hc:c.rows=l.map pairRow) (hl:PairsOk l) (i:Nat) (hi:i<l.length):
 lens_pairs_l1 (lim T) c (i:Int) (.dp (pairRow l[i])) c (l.length:Int) (i:Int) 2=some (0,[.r [c], .r [c], .r [.int (l.length:Int)], .r [.int (i:Int)]]):=by
 rw[lens_pairs_l1_eq];unfold lens_pairs_b1
 rfl
theorem lpairs_l0 (c:C) (p0:Val×Val) (r0:List (Val×Val)) (hc:c.rows=(p0::r0).map pairRow) (hl:PairsOk (p0::r0)):∀(j i:Nat),i+j=(p0::r0).length→
 lens_pairs_l0 (lim T) c c ((p0::r0).length:Int) (i:Int)=some (if pairsGo p0.1.k p0.2.k ((p0::r0).take i) ((p0::r0).drop i)=0 then (0,[])else (1,[.r [.int (pairsGo p0.1.k p0.2.k ((p0::r0).take i) ((p0::r0).drop i))]]))
 |0,i,h=>by
  rw[lens_pairs_l0_eq];unfold lens_pairs_b0
  obtain rfl:i=(p0::r0).length:=by omega
  rw[List.drop_length]
  simp[pairsGo]
 |j+1,i,h=>by
  rw[lens_pairs_l0_eq];unfold lens_pairs_b0
  generalize hL:p0::r0=L at hc hl h⊢
  have hi:i<L.length:=by omega
  have ih:=lpairs_l0 c p0 r0 (by rw[hL];exact hc) (by rw[hL];exact hl) j (i+1) (by rw[hL];omega)
  rw[hL,List.take_add_one,List.getElem?_eq_getElem hi,Option.toList_some]at ih
  have e0:L[0]'(by omega)=p0:=by subst hL;rfl
  have l1:=lpairs_l1 c L hc hl i hi 0 (by omega)
  have l2:=lpairs_l1 c L hc hl i hi 1 (by omega)
  rw[e0]at l1 l2
  refine Tot.eq ?_
  refine .pos (dec_lt hi) (.pos (ix_ok (by rw[hc];simpa using hi)) ?_)
  rw[show rowsAt c.rows (i:Int).toNat=pairRow L[i]from (by rw[hc,Int.toNat_natCast];exact rowsAt_map _ _ _ hi),List.drop_eq_getElem_cons hi,pairsGo]
  rw[show ((0:Nat):Int)=0 from rfl]at l1
  rw[l1,l2]
  simp only[show (((1+1:Nat)):Int)=2 from rfl,lpairs_l1e c L hc hl i hi]
  show Tot (fun r=>r=(if (if oneE p0.1.k ((L.take i).map Prod.fst) L[i].1≠0 then oneE p0.1.k ((L.take i).map Prod.fst) L[i].1 else if oneE p0.2.k ((L.take i).map Prod.snd) L[i].2≠0 then oneE p0.2.k ((L.take i).map Prod.snd) L[i].2 else pairsGo p0.1.k p0.2.k (L.take i++[L[i]]) (L.drop (i+1)))=0 then (0,[])else _)) (Option.bind (if oneE p0.1.k ((L.take i).map Prod.fst) L[i].1≠0 then some (1,[PV.r [C.int (oneE p0.1.k ((L.take i).map Prod.fst) L[i].1)]])else if oneE p0.2.k ((L.take i).map Prod.snd) L[i].2≠0 then some (1,[PV.r [C.int (oneE p0.2.k ((L.take i).map Prod.snd) L[i].2)]])else _) _)
  by_cases h1:oneE p0.1.k ((L.take i).map Prod.fst) L[i].1=0
  ·by_cases h2:oneE p0.2.k ((L.take i).map Prod.snd) L[i].2=0
   ·simp only[h1,h2,ne_eq,not_true_eq_false,if_false,Option.bind_some,gI_s,gI_z,gC_s,gC_z,wrap_nat (show i≤big by have:=hl.len;omega),ih]
    exact .some rfl
   ·simp only[h1,h2,ne_eq,not_true_eq_false,not_false_eq_true,if_false,if_true,Option.bind_some,gI_z]
    exact .some rfl
  ·simp only[h1,ne_eq,not_false_eq_true,if_false,if_true,Option.bind_some,gI_z]
   exact .some rfl
theorem lpairs_spec (c:C) (l:List (Val×Val)) (hc:c.rows=l.map pairRow) (hl:PairsOk l):(lim T).pc n_lens_pairs [[c]]=some [[.int (pairsE l)]]:=by
 rw[lens_pairs_pc];unfold lens_pairs
 rw[hc,List.length_map]
 cases l with
 |nil=>rfl
 |cons p r=>
  rw[pairsE]
  have h0:¬(((p::r).length:Int)==0)=true:=by simp;omega
  rw[if_neg h0]
  by_cases h1:r.length≥40
  ·rw[if_pos (show decide (((p::r).length:Int)>40)=true by simp;omega),if_pos h1]
  ·rw[if_neg (show ¬decide (((p::r).length:Int)>40)=true by simp;omega),if_neg h1]
   have:=lpairs_l0 c p r hc hl (p::r).length 0 (by omega)
   rw[List.take_zero,List.drop_zero,show ((0:Nat):Int)=0 from rfl]at this
   rw[this]
   by_cases h2:pairsGo p.1.k p.2.k [] (p::r)=0<;>simp[h2]
def idB (v:Val):Bytes:=Lib.itoa v.n++[32]++v.s
structure GoodV (k0:Int) (v:Val):Prop where
 u:unusedB v=false
 p:plainB v.k=true
 k:v.k=k0
theorem id_eqv {k0:Int} {v q:Val} (hv:GoodV k0 v) (hq:GoodV k0 q):idB v=idB q↔v.eqv q=true:=by
 have hk:=hv.k.trans hq.k.symm
 have hp:=hv.p
 have fs0:∀{x:Val},unusedB x=false→plainB x.k=true→x.fs=[]:=by
  intro x hu hp
  unfold unusedB at hu
  have hs:scaK x.k=true:=by
   unfold plainB at hp;unfold scaK
   simp at hp⊢;omega
  simp[hs]at hu
  exact hu.2
 have s0:∀{x:Val},unusedB x=false→x.k≠5→x.s=[]:=by
  intro x hu h5
  unfold unusedB at hu
  simp[h5]at hu
  exact hu.1.2
 have n0:∀{x:Val},unusedB x=false→x.k=5→x.n=0:=by
  intro x hu h5
  unfold unusedB at hu
  have:numK x.k=false:=by rw[h5];rfl
  simp[this]at hu
  exact hu.1.1
 rw[Val.eqv_eq,fs0 hv.u hv.p,fs0 hq.u hq.p]
 have hkk:(v.k==q.k)=true:=by simp[hk]
 simp only[hkk,all2,Bool.true_and,Bool.and_true,Bool.and_eq_true,beq_iff_eq]
 unfold idB
 by_cases h5:v.k=5
 ·rw[n0 hv.u h5,n0 hq.u (hk▸h5)]
  constructor
  ·intro h;exact ⟨rfl,List.append_cancel_left h⟩
  ·intro h;rw[h.2]
 ·rw[s0 hv.u h5,s0 hq.u (hk▸h5)]
  constructor
  ·intro h
   rw[List.append_nil,List.append_nil]at h
   exact ⟨itoa_inj (List.append_cancel_right h),rfl⟩
  ·intro h;rw[h.1]
theorem id_mem {k0:Int} {v:Val} (hv:GoodV k0 v):∀{pre:List Val},(∀q∈pre,GoodV k0 q)→decide (idB v∈pre.map idB)=pre.any (fun q=>v.eqv q)
 |[],_=>by simp
 |q::r,h=>by
  have ih:=id_mem hv (pre:=r) fun x hx=>h x (by simp[hx])
  have e:=id_eqv hv (h q (by simp))
  rw[List.any_cons,←ih,List.map_cons]
  cases he:v.eqv q with
  |true=>simp[e.2 he]
  |false=>
   have:¬idB v=idB q:=fun h=>by rw[e.1 h]at he;cases he
   simp[this]
theorem one_good {k0:Int} {seen:List Val} {v:Val} (hb:v.bulk≤big) (h:oneE k0 seen v=0):GoodV k0 v:=by
 unfold oneE at h
 by_cases h0:chkE v=0
 ·simp only[h0,ne_eq,not_true_eq_false,if_false]at h
  split at h
  ·omega
  ·rename_i hn
   refine ⟨(chk_spec v hb).2 h0, ?_, ?_⟩
   ·cases hp:plainB v.k
    ·simp[hp]at hn
    ·rfl
   ·simp at hn;exact hn.2
 ·simp only[ne_eq,h0,not_false_eq_true,if_true]at h
theorem itoa_spec {n:Int} (h:inI64 n):(lim T).pc n_strconv_Itoa [[.int n]]=some [[.str (Lib.itoa n)]]:=by
 refine (lim_given T (rfl:T n_strconv_Itoa= .given _ _ itoaG) _).trans ?_
 obtain ⟨h1,h2⟩:=h
 exact if_pos ⟨by omega,by omega⟩
theorem rpairs_l1_0 (c:C) (len i:Int) (p p0:Val×Val) (hc:rowsAt c.rows 0=pairRow p0) (hc0:0<c.rows.length) (m0 m1:List (Row×Row)) (pre:List Val) (hm:SetM (.bool false) (.bool true) (pre.map idB) m0) (hpre:∀q∈pre,GoodV p0.1.k q) (hb:p.1.bulk≤big) (hw:p.1.wf):
 clapref3_Pairs_l1 (lim T) c c len i (pairRow p) 0 m0 m1=if oneE p0.1.k pre p.1≠0 then some (1,[PV.r [C.int (oneE p0.1.k pre p.1)]])else clapref3_Pairs_l1 (lim T) c c len i (pairRow p) 1 (setE lS [.str (idB p.1)] [.bool true] m0) m1:=by
 rw[clapref3_Pairs_l1_eq];unfold clapref3_Pairs_b1
 obtain ⟨hcs, -⟩:=chk_spec _ hb
 have hrow:([at_ (pairRow p) ((0:Int).toNat*4),at_ (pairRow p) ((0:Int).toNat*4+1),at_ (pairRow p) ((0:Int).toNat*4+2),at_ (pairRow p) ((0:Int).toNat*4+3)]:Row)=p.1.row:=rfl
 have hkk:(at_ (pairRow p) ((0:Int).toNat*4)).toI=p.1.k:=rfl
 have hkk0:(at_ (pairRow p0) ((0:Int).toNat*4)).toI=p0.1.k:=rfl
 rw[if_pos (show decide ((0:Int)<2)=true from rfl),if_pos (show (0:Int)≤0∧(0:Int)<2 by omega)]
 have hlen:(0:Int)≤0∧(0:Int)<(c.rows.length:Int):=⟨by omega,by omega⟩
 have hg2:(0:Int)≤0∧(0:Int)<2∧(C.dp (pairRow p0)).isDp=true:=⟨by omega,by omega,rfl⟩
 simp only[hrow,hcs,Option.bind_some,rowsAt_zero,at_zero,toI_int,hkk,rplain_spec,toB_bool,if_pos hlen,hc,if_pos hg2,hkk0]
 by_cases h0:chkE p.1=0
 ·have hne:¬(chkE p.1 !=0)=true:=by simp[h0]
  simp only[hne,if_false]
  cases hp:plainB p.1.k with
  |false=>
   unfold oneE
   simp[h0,hp]
  |true=>
   cases hk:(p.1.k !=p0.1.k)with
   |true=>
    have hone:oneE p0.1.k pre p.1=8:=by unfold oneE;simp only[h0,ne_eq,not_true_eq_false,if_false,hp,hk,Bool.not_true,Bool.false_or,if_true]
    rw[hone]
    rfl
   |false=>
    have hgood:GoodV p0.1.k p.1:=⟨(chk_spec _ hb).2 h0,hp,by simpa using hk⟩
    have hl1:=Lib.itoa_length_le p.1.n (Val.wf_n hw).1 (by have:=(Val.wf_n hw).2;omega)
    have hl2:p.1.s.length≤big:=by have:=p.1.bulk_eq;omega
    have g1:(Lib.itoa p.1.n).length+([32]:List UInt8).length≤1099511627776:=by simp;omega
    have g2:(Lib.itoa p.1.n++([32]:List UInt8)).length+p.1.s.length≤1099511627776:=by unfold big at hl2;simp;omega
    have a1:at_ p.1.row 1= .int p.1.n:=rfl
    have a2:at_ p.1.row 2= .str p.1.s:=rfl
    have hid:Lib.itoa p.1.n++([32]:List UInt8)++p.1.s=idB p.1:=rfl
    have hone:oneE p0.1.k pre p.1=if pre.any (fun q=>p.1.eqv q)=true then 5 else 0:=by unfold oneE;simp only[h0,ne_eq,not_true_eq_false,if_false,hp,hk,Bool.not_true,Bool.false_or,Bool.false_eq_true]
    have hw1:IntKind.wrap .i64 ((0:Int)+1)=1:=rfl
    rw[hone,←id_mem hgood hpre]
    simp only[Bool.not_true,Bool.false_eq_true,if_false,Option.bind_some,gR_s,gR_z,gB_s,gB_z,gI_s,gI_z,gC_s,gC_z,gM_s,gM_z,a1,a2,toI_int,toS_str,itoa_spec (Val.wf_n hw),rowsAt_zero,at_zero,if_pos g1,if_pos g2,hid,hm.look,toB_bool,if_true,hw1,(by decide:¬(1:Int)=0)]
    by_cases hmem:idB p.1∈pre.map idB
    ·simp[hmem]
    ·simp[hmem]
 ·have hne:(chkE p.1 !=0)=true:=by simp[h0]
  unfold oneE
  simp[hne,h0]
theorem rpairs_l1_1 (c:C) (len i:Int) (p p0:Val×Val) (hc:rowsAt c.rows 0=pairRow p0) (hc0:0<c.rows.length) (m0 m1:List (Row×Row)) (pre:List Val) (hm:SetM (.bool false) (.bool true) (pre.map idB) m1) (hpre:∀q∈pre,GoodV p0.2.k q) (hb:p.2.bulk≤big) (hw:p.2.wf):
 clapref3_Pairs_l1 (lim T) c c len i (pairRow p) 1 m0 m1=if oneE p0.2.k pre p.2≠0 then some (1,[PV.r [C.int (oneE p0.2.k pre p.2)]])else clapref3_Pairs_l1 (lim T) c c len i (pairRow p) 2 m0 (setE lS [.str (idB p.2)] [.bool true] m1):=by
 rw[clapref3_Pairs_l1_eq];unfold clapref3_Pairs_b1
 obtain ⟨hcs, -⟩:=chk_spec _ hb
 have hrow:([at_ (pairRow p) ((1:Int).toNat*4),at_ (pairRow p) ((1:Int).toNat*4+1),at_ (pairRow p) ((1:Int).toNat*4+2),at_ (pairRow p) ((1:Int).toNat*4+3)]:Row)=p.2.row:=rfl
 have hkk:(at_ (pairRow p) ((1:Int).toNat*4)).toI=p.2.k:=rfl
 have hkk0:(at_ (pairRow p0) ((1:Int).toNat*4)).toI=p0.2.k:=rfl
 rw[if_pos (show decide ((1:Int)<2)=true from rfl),if_pos (show (0:Int)≤1∧(1:Int)<2 by omega)]
 have hlen:(0:Int)≤0∧(0:Int)<(c.rows.length:Int):=⟨by omega,by omega⟩
 have hg2:(0:Int)≤1∧(1:Int)<2∧(C.dp (pairRow p0)).isDp=true:=⟨by omega,by omega,rfl⟩
 simp only[hrow,hcs,Option.bind_some,rowsAt_zero,at_zero,toI_int,hkk,rplain_spec,toB_bool,if_pos hlen,hc,if_pos hg2,hkk0]
 by_cases h0:chkE p.2=0
 ·have hne:¬(chkE p.2 !=0)=true:=by simp[h0]
  simp only[hne,if_false]
  cases hp:plainB p.2.k with
  |false=>
   unfold oneE
   simp[h0,hp]
  |true=>
   cases hk:(p.2.k !=p0.2.k)with
   |true=>
    have hone:oneE p0.2.k pre p.2=8:=by unfold oneE;simp only[h0,ne_eq,not_true_eq_false,if_false,hp,hk,Bool.not_true,Bool.false_or,if_true]
    rw[hone]
    rfl
   |false=>
    have hgood:GoodV p0.2.k p.2:=⟨(chk_spec _ hb).2 h0,hp,by simpa using hk⟩
    have hl1:=Lib.itoa_length_le p.2.n (Val.wf_n hw).1 (by have:=(Val.wf_n hw).2;omega)
    have hl2:p.2.s.length≤big:=by have:=p.2.bulk_eq;omega
    have g1:(Lib.itoa p.2.n).length+([32]:List UInt8).length≤1099511627776:=by simp;omega
    have g2:(Lib.itoa p.2.n++([32]:List UInt8)).length+p.2.s.length≤1099511627776:=by unfold big at hl2;simp;omega
    have a1:at_ p.2.row 1= .int p.2.n:=rfl
    have a2:at_ p.2.row 2= .str p.2.s:=rfl
    have hid:Lib.itoa p.2.n++([32]:List UInt8)++p.2.s=idB p.2:=rfl
    have hone:oneE p0.2.k pre p.2=if pre.any (fun q=>p.2.eqv q)=true then 5 else 0:=by unfold oneE;simp only[h0,ne_eq,not_true_eq_false,if_false,hp,hk,Bool.not_true,Bool.false_or,Bool.false_eq_true]
    have hw1:IntKind.wrap .i64 ((1:Int)+1)=2:=rfl
    rw[hone,←id_mem hgood hpre]
    simp only[Bool.not_true,Bool.false_eq_true,if_false,Option.bind_some,gR_s,gR_z,gB_s,gB_z,gI_s,gI_z,gC_s,gC_z,gM_s,gM_z,a1,a2,toI_int,toS_str,itoa_spec (Val.wf_n hw),rowsAt_zero,at_zero,if_pos g1,if_pos g2,hid,hm.look,toB_bool,if_true,hw1,(by decide:¬(1:Int)=0)]
    by_cases hmem:idB p.2∈pre.map idB
    ·simp[hmem]
    ·simp[hmem]
 ·have hne:(chkE p.2 !=0)=true:=by simp[h0]
  unfold oneE
  simp[hne,h0]
theorem rpairs_l0 (c:C) (p0:Val×Val) (r0:List (Val×Val)) (hc:c.rows=(p0::r0).map pairRow) (hl:PairsOk (p0::r0)):∀(j i:Nat) (m0 m1:List (Row×Row)),i+j=(p0::r0).length→
 SetM (.bool false) (.bool true) (((p0::r0).take i).map fun p=>idB p.1) m0→SetM (.bool false) (.bool true) (((p0::r0).take i).map fun p=>idB p.2) m1→(∀p∈(p0::r0).take i,GoodV p0.1.k p.1∧GoodV p0.2.k p.2)→
 clapref3_Pairs_l0 (lim T) c c ((p0::r0).length:Int) (i:Int) m0 m1=some (if pairsGo p0.1.k p0.2.k ((p0::r0).take i) ((p0::r0).drop i)=0 then (0,[])else (1,[.r [.int (pairsGo p0.1.k p0.2.k ((p0::r0).take i) ((p0::r0).drop i))]]))
 |0,i,m0,m1,h,_,_,_=>by
  rw[clapref3_Pairs_l0_eq];unfold clapref3_Pairs_b0
  obtain rfl:i=(p0::r0).length:=by omega
  rw[List.drop_length]
  simp[pairsGo]
 |j+1,i,m0,m1,h,hm0,hm1,hg=>by
  rw[clapref3_Pairs_l0_eq];unfold clapref3_Pairs_b0
  have ih:=fun m0 m1=>rpairs_l0 c p0 r0 hc hl j (i+1) m0 m1 (by omega)
  generalize hL:p0::r0=L at hc hl h hm0 hm1 hg ih⊢
  have hi:i<L.length:=by omega
  rw[List.take_add_one,List.getElem?_eq_getElem hi,Option.toList_some]at ih
  have hc0:rowsAt c.rows 0=pairRow p0:=by rw[hc,←hL];rfl
  have hcl:0<c.rows.length:=by rw[hc,List.length_map];omega
  have hmem:=List.getElem_mem hi
  have e1:((L.take i).map Prod.fst).map idB=(L.take i).map fun p=>idB p.1:=by rw[List.map_map];rfl
  have e2:((L.take i).map Prod.snd).map idB=(L.take i).map fun p=>idB p.2:=by rw[List.map_map];rfl
  have l1:=rpairs_l1_0 c (L.length:Int) (i:Int) L[i] p0 hc0 hcl m0 m1 ((L.take i).map Prod.fst) (e1▸hm0) (fun q hq=>by obtain ⟨p,hp,rfl⟩:=List.mem_map.1 hq;exact (hg p hp).1) (hl.bulk _ hmem 0) (hl.wf _ hmem 0)
  have l2:=rpairs_l1_1 c (L.length:Int) (i:Int) L[i] p0 hc0 hcl (setE lS [.str (idB L[i].1)] [.bool true] m0) m1 ((L.take i).map Prod.snd) (e2▸hm1) (fun q hq=>by obtain ⟨p,hp,rfl⟩:=List.mem_map.1 hq;exact (hg p hp).2) (hl.bulk _ hmem 1) (hl.wf _ hmem 1)
  have l3:clapref3_Pairs_l1 (lim T) c c (L.length:Int) (i:Int) (pairRow L[i]) 2 (setE lS [.str (idB L[i].1)] [.bool true] m0) (setE lS [.str (idB L[i].2)] [.bool true] m1)=some (0,[.r [c], .r [c], .r [.int (L.length:Int)], .r [.int (i:Int)], .m (setE lS [.str (idB L[i].1)] [.bool true] m0), .m (setE lS [.str (idB L[i].2)] [.bool true] m1)]):=by
   rw[clapref3_Pairs_l1_eq];unfold clapref3_Pairs_b1;rfl
  refine Tot.eq ?_
  refine .pos (dec_lt hi) (.pos (ix_ok (by rw[hc];simpa using hi)) ?_)
  rw[show rowsAt c.rows (i:Int).toNat=pairRow L[i]from (by rw[hc,Int.toNat_natCast];exact rowsAt_map _ _ _ hi),List.drop_eq_getElem_cons hi,pairsGo]
  rw[l1,l2,l3]
  by_cases h1:oneE p0.1.k ((L.take i).map Prod.fst) L[i].1=0
  ·by_cases h2:oneE p0.2.k ((L.take i).map Prod.snd) L[i].2=0
   ·simp only[h1,h2,ne_eq,not_true_eq_false,if_false,Option.bind_some,gI_s,gI_z,gC_s,gC_z,gM_s,gM_z,wrap_nat (show i≤big by have:=hl.len;omega)]
    have:=ih (setE lS [.str (idB L[i].1)] [.bool true] m0) (setE lS [.str (idB L[i].2)] [.bool true] m1) (by rw[List.map_append,List.map_cons,List.map_nil];exact hm0.add _) (by rw[List.map_append,List.map_cons,List.map_nil];exact hm1.add _) (by
     intro p hp
     rcases List.mem_append.1 hp with e |e
     ·exact hg p e
     ·simp only[List.mem_singleton]at e
      subst e
      exact ⟨one_good (hl.bulk _ hmem 0) h1,one_good (hl.bulk _ hmem 1) h2⟩)
    exact ⟨_,this,rfl⟩
   ·simp only[h1,h2,ne_eq,not_true_eq_false,not_false_eq_true,if_false,if_true,Option.bind_some,gI_z]
    exact .some rfl
  ·simp only[h1,ne_eq,not_false_eq_true,if_false,if_true,Option.bind_some,gI_z]
   exact .some rfl
theorem rpairs_spec (c:C) (l:List (Val×Val)) (hc:c.rows=l.map pairRow) (hl:PairsOk l):(lim T).pc n_clapref3_Pairs [[c]]=some [[.int (pairsE l)]]:=by
 rw[clapref3_Pairs_pc];unfold clapref3_Pairs
 rw[hc,List.length_map]
 cases l with
 |nil=>rfl
 |cons p r=>
  rw[pairsE]
  have h0:¬(((p::r).length:Int)==0)=true:=by simp;omega
  rw[if_neg h0]
  by_cases h1:r.length≥40
  ·rw[if_pos (show decide (((p::r).length:Int)>40)=true by simp;omega),if_pos h1]
  ·rw[if_neg (show ¬decide (((p::r).length:Int)>40)=true by simp;omega),if_neg h1]
   have:=rpairs_l0 c p r hc hl (p::r).length 0 [] [] (by omega) (by simpa using SetM.nil) (by simpa using SetM.nil) (by simp)
   rw[List.take_zero,List.drop_zero,show ((0:Nat):Int)=0 from rfl]at this
   rw[this]
   by_cases h2:pairsGo p.1.k p.2.k [] (p::r)=0<;>simp[h2]
end Go.Ev.Zzj
