/-
  A part of the proof: what the functions of the program compute.
-/
import Derived.Test.YtmcbcmgfkbjpcaaGreatDoorZTh
set_option linter.all false
set_option maxRecDepth 100000
namespace Go.Ev.Zzj
def idK (v:Val):Bytes:=Lib.itoa v.k++[32]++idB v
theorem itoa_no32 (n:Int):(32:UInt8)∉Lib.itoa n:=by
 have key:∀u,(32:UInt8)∉Lib.decDigits u:=fun u h=>absurd (dec_mem u 32 h) (by decide)
 unfold Lib.itoa
 split
 ·intro h
  rcases List.mem_cons.1 h with e |e
  ·exact absurd e (by decide)
  ·exact key _ e
 ·exact key _
theorem split32:∀{a b x y:Bytes},(32:UInt8)∉a→(32:UInt8)∉b→a++32::x=b++32::y→a=b∧x=y
 |[],[],x,y,_,_,h=>⟨rfl,by simpa using h⟩
 |[],c::b,x,y,_,hb,h=>by simp at h;exact absurd (by simp[h.1]) hb
 |c::a,[],x,y,ha,_,h=>by simp at h;exact absurd (by simp[h.1]) ha
 |c::a,d::b,x,y,ha,hb,h=>by
  simp only[List.cons_append,List.cons.injEq]at h
  obtain ⟨e1,e2⟩:=split32 (fun m=>ha (by simp[m])) (fun m=>hb (by simp[m])) h.2
  exact ⟨by rw[h.1,e1],e2⟩
theorem idK_eqv {k k':Int} {v w:Val} (hv:GoodV k v) (hw:GoodV k' w):idK v=idK w↔v.eqv w=true:=by
 constructor
 ·intro h
  unfold idK at h
  rw[List.append_assoc,List.append_assoc]at h
  obtain ⟨e1,e2⟩:=split32 (itoa_no32 _) (itoa_no32 _) h
  have hk:=itoa_inj e1
  have hw':GoodV k w:=⟨hw.u,hw.p,by rw[←hk,hv.k]⟩
  exact (id_eqv hv hw').1 e2
 ·intro h
  have hk:v.k=w.k:=by
   rw[Val.eqv_eq]at h
   simp only[Bool.and_eq_true,beq_iff_eq]at h
   exact h.1
  have hw':GoodV k w:=⟨hw.u,hw.p,by rw[←hk,hv.k]⟩
  unfold idK
  rw[hk,(id_eqv hv hw').2 h]
theorem rid_spec (v:Val) (hw:v.wf) (hb:v.bulk≤big):(lim T).pc n_clapref3_id [v.row]=some [[.str (idK v)]]:=by
 rw[clapref3_id_pc];unfold clapref3_id
 have wk:inI64 v.k:=by cases v;simp only[Val.wf]at hw;exact hw.1
 have wn:=Val.wf_n hw
 have e1:=itoa_spec wk
 have e2:=itoa_spec wn
 have l1:=Lib.itoa_length_le v.k wk.1 (by have:=wk.2;omega)
 have l2:=Lib.itoa_length_le v.n wn.1 (by have:=wn.2;omega)
 have l3:v.s.length≤big:=by have:=v.bulk_eq;omega
 unfold big at l3
 have a0:at_ v.row 0= .int v.k:=rfl
 have a1:at_ v.row 1= .int v.n:=rfl
 have a2:at_ v.row 2= .str v.s:=rfl
 have g1:(Lib.itoa v.k).length+([32]:List UInt8).length≤1099511627776:=by simp;omega
 have g2:(Lib.itoa v.k++([32]:List UInt8)).length+(Lib.itoa v.n).length≤1099511627776:=by simp;omega
 have g3:(Lib.itoa v.k++([32]:List UInt8)++Lib.itoa v.n).length+([32]:List UInt8).length≤1099511627776:=by simp;omega
 have g4:(Lib.itoa v.k++([32]:List UInt8)++Lib.itoa v.n++([32]:List UInt8)).length+v.s.length≤1099511627776:=by simp;omega
 have hid:Lib.itoa v.k++([32]:List UInt8)++Lib.itoa v.n++([32]:List UInt8)++v.s=idK v:=by unfold idK idB;simp only[List.append_assoc]
 simp only[a0,a1,a2,toI_int,toS_str,e1,e2,Option.bind_some,rowsAt_zero,at_zero,if_pos g1,if_pos g2,if_pos g3,if_pos g4,hid]
structure Od (k0:Int) (l:List PP):Prop where
 ok:PairsOk l
 g:∀p∈l,GoodV k0 p.1
 d:l.Pairwise fun p q=>idK p.1≠idK q.1
theorem Od.ord {k0:Int} {l:List PP} (h:Od k0 l):Ord k0 l:=by
 refine ⟨h.ok,h.g,fun i j hi hj hij=> ?_⟩
 have:=List.pairwise_iff_getElem.1 h.d i j hi hj hij
 cases e:l[j].1.eqv l[i].1 with
 |false=>rfl
 |true=>exact absurd ((idK_eqv (h.g _ (List.getElem_mem hj)) (h.g _ (List.getElem_mem hi))).2 e).symm this
structure Lk (k0 k1:Int) (l:List PP):Prop where
 ok:PairsOk l
 g:∀p∈l,GoodV k0 p.1∧GoodV k1 p.2
 d:l.Pairwise fun p q=>idK p.1≠idK q.1∧idK p.2≠idK q.2
theorem lk_of {l:List PP} (hl:PairsOk l) (h:pairsE l=0):∃(p0:PP) (r:List PP),l=p0::r∧r.length<40∧Lk p0.1.k p0.2.k l:=by
 cases l with
 |nil=>simp[pairsE]at h
 |cons p r=>
  rw[pairsE]at h
  split at h
  ·exact absurd h (by decide)
  ·obtain ⟨a1,a2⟩:=go_good (p::r) [] hl h
   refine ⟨p,r,rfl,by omega,hl,fun q hq=>⟨(a1 q hq).1,(a1 q hq).2.1⟩,List.pairwise_iff_getElem.2 fun i j hi hj hij=> ?_⟩
   obtain ⟨b1,b2⟩:=a2 i j hi hj hij
   have gi:=a1 _ (List.getElem_mem hi)
   have gj:=a1 _ (List.getElem_mem hj)
   constructor
   ·intro e;rw[(idK_eqv gj.1 gi.1).1 e.symm]at b1;cases b1
   ·intro e;rw[(idK_eqv gj.2.1 gi.2.1).1 e.symm]at b2;cases b2
theorem srt_uniq {α:Type} {r:α→α→Prop} (irr:∀a,¬r a a) (asy:∀a b,r a b→¬r b a):∀{s t:List α},s.Pairwise r→t.Pairwise r→(∀a,a∈s↔a∈t)→s=t
 |[],[],_,_,_=>rfl
 |[],b::t,_,_,h=>by have:=(h b).2 (by simp);simp at this
 |a::s,[],_,_,h=>by have:=(h a).1 (by simp);simp at this
 |a::s,b::t,hs,ht,h=>by
  obtain ⟨h1,h2⟩:=List.pairwise_cons.1 hs
  obtain ⟨h3,h4⟩:=List.pairwise_cons.1 ht
  have e:a=b:=by
   rcases List.mem_cons.1 ((h a).1 (by simp))with e |m
   ·exact e
   ·rcases List.mem_cons.1 ((h b).2 (by simp))with e |m2
    ·exact e.symm
    ·exact absurd (h3 _ m) (asy _ _ (h1 _ m2))
  subst e
  rw[srt_uniq irr asy h2 h4 fun x=>⟨fun m=> ?_,fun m=> ?_⟩]
  ·rcases List.mem_cons.1 ((h x).1 (by simp[m]))with e |m2
   ·subst e;exact absurd (h1 _ m) (irr _)
   ·exact m2
  ·rcases List.mem_cons.1 ((h x).2 (by simp[m]))with e |m2
   ·subst e;exact absurd (h3 _ m) (irr _)
   ·exact m2
def StS (k0:Int) (s l:List PP):Prop:=s.Pairwise (fun p q=>kv k0 p.1 q.1<0)∧∀p,p∈s↔p∈l
theorem StS.uniq {k0:Int} {s t l:List PP} (h:StS k0 s l) (h':StS k0 t l):s=t:=
 srt_uniq (r:=fun p q:PP=>kv k0 p.1 q.1<0) (fun a=>kv_irr _ _) (fun a b=>kv_asymm) h.1 h'.1 fun p=>(h.2 p).trans (h'.2 p).symm
theorem StS.ok {k0:Int} {s l:List PP} (h:StS k0 s l) (hl:PairsOk l) (hn:s.length≤big):PairsOk s:=
 ⟨fun p hp=>hl.wf p ((h.2 p).1 hp),fun p hp=>hl.bulk p ((h.2 p).1 hp),hn⟩
theorem sts_of {k0:Int} {l:List PP} {p0:PP} {g:Nat→Nat} (ho:Ord k0 l) (h0:p0∈l) (hs:Srt (KK k0 l p0) g 0 l.length) (g1:∀x,x<l.length→g x<l.length) (g2:∀y,y<l.length→∃x,x<l.length∧g x=y):
 StS k0 ((List.range l.length).map fun q=>l.getD (g q) p0) l:=by
 refine ⟨List.pairwise_iff_getElem.2 fun i j hi hj hij=> ?_,fun p=>⟨fun hp=> ?_,fun hp=> ?_⟩⟩
 ·simp only[List.length_map,List.length_range]at hi hj
  simp only[List.getElem_map,List.getElem_range]
  rw[KK_lt h0]
  rcases hs i j (Nat.zero_le _) hij hj with h |⟨h1,h2⟩
  ·exact h
  ·have:=KK_inj ho h0 _ _ (g1 i hi) (g1 j hj) h1;omega
 ·obtain ⟨q,_,rfl⟩:=List.mem_map.1 hp
  exact mem_getD h0 _
 ·obtain ⟨y,hy,rfl⟩:=List.mem_iff_getElem.1 hp
  obtain ⟨x,hx,e⟩:=g2 y hy
  exact List.mem_map.2 ⟨x,List.mem_range.2 hx,by rw[e];exact getD_at y hy⟩
theorem dsorted (c:C) {k0:Int} {l:List PP} (hc:c.rows=l.map pairRow) (ho:Od k0 l) (h0:l≠[]) (hn:l.length<50):∃(d:C) (s:List PP),(lim T).pc n_dict_sorted [[c]]=some [[d]]∧d.rows=s.map pairRow∧StS k0 s l∧s.length=l.length:=by
 obtain ⟨p0,hp0⟩:=List.exists_mem_of_ne_nil l h0
 obtain ⟨d,g,a1,a2,a3,a4⟩:=ds_spec c hc ho.ord hp0 hn
 have g1:∀x,x<l.length→g x<l.length:=fun x hx=>by obtain ⟨j,j1,j2,j3⟩:=a3.fwd x (Nat.zero_le _) hx;rw[j3];exact j2
 have g2:∀y,y<l.length→∃x,x<l.length∧g x=y:=fun y hy=>by obtain ⟨i,i1,i2,i3⟩:=a3.bwd y (Nat.zero_le _) hy;exact ⟨i,i2,i3⟩
 exact ⟨d,_,a1,by rw[a2,List.map_map];rfl,sts_of ho.ord hp0 (wsr_srt (KK_inj ho.ord hp0) a4 g1 g2) g1 g2,by simp⟩
theorem rsorted (c:C) {k0:Int} {l:List PP} (hc:c.rows=l.map pairRow) (ho:Od k0 l) (h0:l≠[]) (hn:l.length<50):∃(d:C) (s:List PP),(lim T).pc n_clapref3_Sorted [[c]]=some [[d]]∧d.rows=s.map pairRow∧StS k0 s l∧s.length=l.length:=by
 obtain ⟨p0,hp0⟩:=List.exists_mem_of_ne_nil l h0
 obtain ⟨d,h,b1,b2,b3,b4,b5⟩:=sorted_spec c hc ho.ord hp0 hn
 exact ⟨d,_,b1,by rw[b2,List.map_map];rfl,sts_of ho.ord hp0 b3 b4 b5,by simp⟩
def fnd (l:List PP) (k:Nat) (s:Bytes):Option PP:=l.find? fun p=>idK (pk p k)==s
theorem ix_fnd (f:PP→Bool):∀(l:List PP) (i:Nat),(∃(q:Nat) (h:q<l.length),ix f l i=((i+q:Nat):Int)∧l.find? f=some l[q])∨(ix f l i= -1∧l.find? f=none)
 |[],i=> .inr ⟨rfl,rfl⟩
 |p::l,i=>by
  rw[ix]
  by_cases c:f p=true
  ·exact .inl ⟨0,by simp,by rw[if_pos c];rfl,by simp[c]⟩
  ·rw[if_neg c]
   rcases ix_fnd f l (i+1)with ⟨q,h,e1,e2⟩|⟨e1,e2⟩
   ·exact .inl ⟨q+1,by simpa using h,by rw[e1];congr 1;omega,by simp[c,e2]⟩
   ·exact .inr ⟨e1,by simp[c,e2]⟩
theorem fnd_sm {l:List PP} {k:Nat} {v:Val} {kl kv':Int} (hg:∀p∈l,GoodV kl (pk p k)) (hv:GoodV kv' v):l.find? (sm v k)=fnd l k (idK v):=by
 unfold fnd
 induction l with
 |nil=>rfl
 |cons p l ih=>
  have e:sm v k p=(idK (pk p k)==idK v):=by
   unfold sm
   have:=idK_eqv (hg p (by simp)) hv
   cases h:(pk p k).eqv v with
   |true=>exact (beq_iff_eq.2 (this.2 h)).symm
   |false=>
    cases h':idK (pk p k)==idK v with
    |false=>rfl
    |true=>rw[this.1 (beq_iff_eq.1 h')]at h;cases h
  rw[List.find?_cons,List.find?_cons,e,ih fun q hq=>hg q (by simp[hq])]
def lkp:List (Bytes×Row)→Bytes→Option Row
 |[],_=>none
 |(k,v)::r,s=>match lkp r s with
  |some x=>some x
  |none=>if k=s then some v else none
theorem lkp_snoc (k:Bytes) (v:Row) (s:Bytes):∀(l:List (Bytes×Row)),lkp (l++[(k,v)]) s=if s=k then some v else lkp l s
 |[]=>by
  simp only[List.nil_append,lkp]
  by_cases h:k=s
  ·subst h;simp
  ·rw[if_neg h,if_neg (Ne.symm h)]
 |(a,b)::l=>by
  simp only[List.cons_append,lkp,lkp_snoc k v s l]
  by_cases h:s=k
  ·simp[h]
  ·simp[h]
structure MapR (l:List (Bytes×Row)) (m:List (Row×Row)):Prop where
 keys:∀p∈m,∃s,p.1=[C.str s]
 look:∀s,findE lS [.str s] m=lkp l s
theorem MapR.nil:MapR [] []:=⟨fun p h=>absurd h (by simp),fun s=>rfl⟩
theorem MapR.add {l:List (Bytes×Row)} {m:List (Row×Row)} (h:MapR l m) (s:Bytes) (v:Row):MapR (l++[(s,v)]) (setE lS [.str s] v m):=by
 refine ⟨keys_set s _ m h.keys,fun b=> ?_⟩
 rw[find_set s b _ m h.keys,lkp_snoc,h.look]
theorem idx_lt (k:Bytes) (v:Row):∀(m:List (Row×Row)),idxE lS [.str k] m<(setE lS [.str k] v m).length
 |[]=>by simp[idxE,setE]
 |(a,b)::m=>by
  simp only[idxE,setE]
  split
  ·simp
  ·have:=idx_lt k v m;simp;omega
theorem mod_set (k:Bytes) (u v:Row):∀(m:List (Row×Row)),(setE lS [.str k] u m).modify (idxE lS [.str k] m) (fun e=>(e.1,v))=setE lS [.str k] v m
 |[]=>by simp[idxE,setE,List.modify]
 |(a,b)::m=>by
  simp only[idxE,setE]
  split
  ·rfl
  ·rw[List.modify_succ_cons,mod_set k u v m]
theorem lkp_none:∀{l:List (Bytes×Row)} {s:Bytes},(∀e∈l,e.1≠s)→lkp l s=none
 |[],_,_=>rfl
 |(a,b)::l,s,h=>by
  have ih:=lkp_none (l:=l) (s:=s) fun e he=>h e (List.mem_cons_of_mem _ he)
  simp only[lkp,ih]
  rw[if_neg (h (a,b) (by simp))]
theorem lkp_fnd0 (s:Bytes):∀{l:List PP},(l.Pairwise fun p q=>idK p.1≠idK q.1∧idK p.2≠idK q.2)→lkp (l.map fun p=>(idK p.1,p.2.row)) s=(fnd l 0 s).map fun p=>p.2.row
 |[],_=>rfl
 |p::l,h=>by
  obtain ⟨h1,h2⟩:=List.pairwise_cons.1 h
  have ih:=lkp_fnd0 s h2
  unfold fnd at ih⊢
  rw[List.map_cons,lkp,List.find?_cons]
  show _=Option.map _ (match idK p.1==s with |true=>some p |false=>_)
  by_cases c:idK p.1=s
  ·rw[lkp_none]
   ·simp[c]
   ·intro e he
    obtain ⟨q,hq,rfl⟩:=List.mem_map.1 he
    rw[←c];exact fun x=>(h1 q hq).1 x.symm
  ·have:(idK p.1==s)=false:=by simpa using c
   rw[this,ih]
   simp only[c,if_false]
   cases List.find? (fun p=>idK (pk p 0)==s) l<;>rfl
theorem lkp_fnd1 (s:Bytes):∀{l:List PP},(l.Pairwise fun p q=>idK p.1≠idK q.1∧idK p.2≠idK q.2)→lkp (l.map fun p=>(idK p.2,p.1.row)) s=(fnd l 1 s).map fun p=>p.1.row
 |[],_=>rfl
 |p::l,h=>by
  obtain ⟨h1,h2⟩:=List.pairwise_cons.1 h
  have ih:=lkp_fnd1 s h2
  unfold fnd at ih⊢
  rw[List.map_cons,lkp,List.find?_cons]
  show _=Option.map _ (match idK p.2==s with |true=>some p |false=>_)
  by_cases c:idK p.2=s
  ·rw[lkp_none]
   ·simp[c]
   ·intro e he
    obtain ⟨q,hq,rfl⟩:=List.mem_map.1 he
    rw[←c];exact fun x=>(h1 q hq).2 x.symm
  ·have:(idK p.2==s)=false:=by simpa using c
   rw[this,ih]
   simp only[c,if_false]
   cases List.find? (fun p=>idK (pk p 1)==s) l<;>rfl
theorem row_snd (p:PP):([at_ (pairRow p) 4,at_ (pairRow p) 5,at_ (pairRow p) 6,at_ (pairRow p) 7]:Row)=p.2.row:=rfl
theorem maps_l (c:C) (l:List PP) (hc:c.rows=l.map pairRow) (hl:PairsOk l):∀(j i:Nat),i+j=l.length→∀m0 m1:List (Row×Row),MapR ((l.take i).map fun p=>(idK p.1,p.2.row)) m0→MapR ((l.take i).map fun p=>(idK p.2,p.1.row)) m1→
 ∃m0' m1',clapref3_maps_i17_l0 (lim T) c (l.length:Int) (i:Int) m0 m1=some (0,[.m m0', .m m1'])∧MapR (l.map fun p=>(idK p.1,p.2.row)) m0'∧MapR (l.map fun p=>(idK p.2,p.1.row)) m1'
 |0,i,h,m0,m1,h0,h1=>by
  rw[clapref3_maps_i17_l0_eq];unfold clapref3_maps_i17_b0
  obtain rfl:i=l.length:=by omega
  rw[List.take_length]at h0 h1
  exact ⟨m0,m1,by simp,h0,h1⟩
 |j+1,i,h,m0,m1,h0,h1=>by
  rw[clapref3_maps_i17_l0_eq];unfold clapref3_maps_i17_b0
  have hi:i<l.length:=by omega
  have hN:=hl.len
  have hm:=List.getElem_mem hi
  have hlc:c.rows.length=l.length:=by rw[hc,List.length_map]
  have hrc:rowsAt c.rows i=pairRow l[i]:=by rw[hc];exact rowsAt_map _ _ _ hi
  have ht:l.take (i+1)=l.take i++[l[i]]:=by rw[List.take_add_one,List.getElem?_eq_getElem hi];rfl
  have r1:=rid_spec l[i].1 (hl.wf _ hm 0) (hl.bulk _ hm 0)
  have r2:=rid_spec l[i].2 (hl.wf _ hm 1) (hl.bulk _ hm 1)
  obtain ⟨m0',m1',e1,e2,e3⟩:=maps_l c l hc hl j (i+1) (by omega) (setE lS [.str (idK l[i].1)] l[i].2.row m0) (setE lS [.str (idK l[i].2)] l[i].1.row m1) (by rw[ht,List.map_append];exact h0.add _ _) (by rw[ht,List.map_append];exact h1.add _ _)
  refine ⟨m0',m1', ?_,e2,e3⟩
  have gl:=idx_lt (idK l[i].1) ((findE lS [.str (idK l[i].1)] m0).getD [.int 0, .int 0, .str [], .nils]) m0
  simp only[Int.natCast_nonneg,Int.ofNat_lt,hi,hlc,and_self,decide_true,if_true,Int.toNat_natCast,hrc,row_fst,row_snd,r1,r2,Option.bind_some,rowsAt_zero,at_zero,toS_str,gl,mod_set,wrap_nat (show i≤big by omega),e1]
theorem maps_spec (c:C) (l:List PP) (hc:c.rows=l.map pairRow) (hl:PairsOk l):∃m0 m1,(lim T).ic clapref3_maps_i17_n [.r [c]]=some [.m m0, .m m1]∧MapR (l.map fun p=>(idK p.1,p.2.row)) m0∧MapR (l.map fun p=>(idK p.2,p.1.row)) m1:=by
 obtain ⟨m0,m1,e1,e2,e3⟩:=maps_l c l hc hl _ 0 (Nat.zero_add _) [] [] MapR.nil MapR.nil
 rw[show ((0:Nat):Int)=0 from rfl]at e1
 refine ⟨m0,m1, ?_,e2,e3⟩
 rw[clapref3_maps_i17_ic];unfold clapref3_maps_i17
 have hlc:c.rows.length=l.length:=by rw[hc,List.length_map]
 rw[hlc,e1]
 rfl
end Go.Ev.Zzj
