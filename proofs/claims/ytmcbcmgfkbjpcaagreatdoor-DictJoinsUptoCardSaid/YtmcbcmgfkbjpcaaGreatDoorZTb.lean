/-
  A part of the proof: what the functions of the program compute.
-/
import Derived.Test.YtmcbcmgfkbjpcaaGreatDoorZTa
set_option linter.all false
set_option maxRecDepth 100000
namespace Go.Ev.Zzj
theorem wrapS {n:Int} (h0:0≤n) (h1:n≤1000000000000):Go.IntKind.wrap .i64 n=n:=wrap_i64 ⟨by omega,by omega⟩
theorem name_l (s:List UInt8) (hN:s.length≤big):∀(j i:Nat),i+j=s.length→
 Tot (fun r=>r=(0,[])∨r=(1,[.r [.bool false]])) (value_Name_l0 (lim T) (.sl (s.map byteRow)) (s.length:Int) (i:Int))
 |0,i,h=>by
  rw[value_Name_l0_eq];unfold value_Name_b0
  have:¬(i:Int)<(s.length:Int):=by omega
  simp only[this,decide_false,Bool.false_eq_true,if_false]
  exact .some (.inl rfl)
 |j+1,i,h=>by
  rw[value_Name_l0_eq];unfold value_Name_b0
  have hlt:(i:Int)<(s.length:Int):=by omega
  simp only[hlt,decide_true,if_true]
  refine .bind (R:=fun r=>r=(0,[.r [.sl (s.map byteRow)], .r [.int (s.length:Int)], .r [.int (i:Int)]])∨r=(1,[.r [.bool false]])) ?_ ?_
  ·refine .pos ⟨by omega,by simpa[C.rows]using hlt⟩ ?_
   repeat' (first |exact .some (.inl rfl)|exact .some (.inr rfl)|refine .ite (fun _=> ?_) fun _=> ?_)
  ·rintro r (rfl |rfl)
   ·simp only[gC_z,gC_s,gI_z,gI_s]
    rw[wrap_nat (by omega)]
    exact name_l s hN j (i+1) (by omega)
   ·exact .some (.inr rfl)
theorem name_tot (s:List UInt8):∃b:Bool,(lim T).pc n_value_Name [[.str s]]=some [[.bool b]]:=by
 have:Tot (fun r=>∃b:Bool,r=[[.bool b]]) ((lim T).pc n_value_Name [[.str s]]):=by
  rw[value_Name_pc];unfold value_Name
  refine .bind (R:=fun r=>∃q:Bool,(q=false→s.length≤16)∧r=(0,[.r [.str s], .r [.bool q]])) ?_ ?_
  ·refine .ite (fun _=> ?_) fun hne=> ?_
   ·simp only[if_true];exact .some ⟨true,fun h=>(by cases h),rfl⟩
   have hpos:0<s.length:=by
    rcases s with _ |⟨a,s⟩
    ·simp at hne
    ·simp
   refine .ite (fun _=> ?_) fun h=> ?_
   ·simp only[if_true];exact .some ⟨true,fun h=>(by cases h),rfl⟩
   have h16:s.length≤16:=by have:=of_decide_eq_false (by simpa using h:decide ((s.length:Int)>16)=false);omega
   refine .pos ⟨by omega,by omega⟩ ?_
   refine .ite (fun _=> .some ⟨true,fun h=>(by cases h),rfl⟩) fun _=> .pos ⟨by omega,by omega⟩ (.some ⟨_,fun _=>h16,rfl⟩)
  rintro r ⟨q,hq,rfl⟩
  simp only[gB_s,gB_z,gS_z,List.length_map]
  refine .ite (fun _=> .some ⟨_,rfl⟩) fun h=> ?_
  refine .bind (name_l s (by have:=hq (by simpa using h);unfold big;omega) s.length 0 (by omega)) ?_
  rintro r (rfl |rfl)
  ·exact .some ⟨_,rfl⟩
  ·exact .some ⟨_,rfl⟩
 obtain ⟨r,h,b,rfl⟩:=this
 exact ⟨b,h⟩
noncomputable def nm (s:List UInt8):Bool:=(name_tot s).choose
theorem name_spec (s:List UInt8):(lim T).pc n_value_Name [[.str s]]=some [[.bool (nm s)]]:=(name_tot s).choose_spec
theorem fld_val (p:Bytes×Val):([at_ (fldRow p) 1,at_ (fldRow p) 2,at_ (fldRow p) 3,at_ (fldRow p) 4]:Row)=p.2.row:=rfl
theorem dec_lt {i n:Nat} (h:i<n):decide ((i:Int)<(n:Int))=true:=decide_eq_true (by omega)
theorem dec_ge {n:Nat}:¬decide ((n:Int)<(n:Int))=true:=by simp
theorem ix_ok {i:Nat} {rows:List Row} (h:i<rows.length):(0:Int)≤(i:Int)∧(i:Int)<(rows.length:Int):=⟨by omega,by omega⟩
abbrev IntT (x:Option (List Row)):Prop:=Tot (fun r=>∃n:Int,r=[[.int n]]) x
theorem vsize_l (v:Val) (hN:v.fs.length≤big) (hc:∀p∈v.fs,IntT ((lim T).pc n_value_Size [p.2.row])):∀(j i:Nat) (a:Int),i+j=v.fs.length→
 Tot (fun r=>∃n:Int,r=(0,[.r [.int n]])) (value_Size_l0 (lim T) a v.fc (v.fs.length:Int) (i:Int))
 |0,i,a,h=>by
  rw[value_Size_l0_eq];unfold value_Size_b0
  obtain rfl:i=v.fs.length:=by omega
  exact .ite (fun h=>absurd h dec_ge) fun _=> .some ⟨_,rfl⟩
 |j+1,i,a,h=>by
  rw[value_Size_l0_eq];unfold value_Size_b0
  have hi:i<v.fs.length:=by omega
  refine .pos (dec_lt hi) (.pos (ix_ok (by simpa using hi)) ?_)
  rw[v.fc_rows,Int.toNat_natCast,rowsAt_map _ _ _ hi,fld_val,wrap_nat (by omega)]
  refine .bind (hc _ (List.getElem_mem hi)) ?_
  rintro r ⟨n,rfl⟩
  exact vsize_l v hN hc j (i+1) _ (by omega)
theorem vsize_tot (v:Val) (hN:v.bulk≤big):IntT ((lim T).pc n_value_Size [v.row]):=by
 have hrec:∀p∈v.fs,IntT ((lim T).pc n_value_Size [p.2.row]):=fun p hp=>by
  have:=Val.size_lt hp
  have hb:=Val.bulk_mem hp
  exact vsize_tot p.2 (by omega)
 rw[value_Size_pc];unfold value_Size
 simp only[at_val3,Val.fc_rows,List.length_map]
 refine .bind (vsize_l v (by have:=v.bulk_len;omega) hrec v.fs.length 0 1 (by omega)) ?_
 rintro r ⟨n,rfl⟩
 exact .some ⟨_,rfl⟩
 termination_by SizeOf.sizeOf v
theorem vdeep_l (v:Val) (hN:v.fs.length≤big) (hc:∀p∈v.fs,IntT ((lim T).pc n_value_Deep [p.2.row])):∀(j i:Nat) (a:Int),i+j=v.fs.length→
 Tot (fun r=>∃n:Int,r=(0,[.r [.int n]])) (value_Deep_l0 (lim T) a v.fc (v.fs.length:Int) (i:Int))
 |0,i,a,h=>by
  rw[value_Deep_l0_eq];unfold value_Deep_b0
  obtain rfl:i=v.fs.length:=by omega
  exact .ite (fun h=>absurd h dec_ge) fun _=> .some ⟨_,rfl⟩
 |j+1,i,a,h=>by
  rw[value_Deep_l0_eq];unfold value_Deep_b0
  have hi:i<v.fs.length:=by omega
  refine .pos (dec_lt hi) (.pos (ix_ok (by simpa using hi)) ?_)
  rw[v.fc_rows,Int.toNat_natCast,rowsAt_map _ _ _ hi,fld_val,wrap_nat (by omega)]
  refine .bind (hc _ (List.getElem_mem hi)) ?_
  rintro r ⟨n,rfl⟩
  exact vdeep_l v hN hc j (i+1) _ (by omega)
theorem vdeep_tot (v:Val) (hN:v.bulk≤big):IntT ((lim T).pc n_value_Deep [v.row]):=by
 have hrec:∀p∈v.fs,IntT ((lim T).pc n_value_Deep [p.2.row]):=fun p hp=>by
  have:=Val.size_lt hp
  have hb:=Val.bulk_mem hp
  exact vdeep_tot p.2 (by omega)
 rw[value_Deep_pc];unfold value_Deep
 simp only[at_val3,Val.fc_rows,List.length_map]
 refine .bind (vdeep_l v (by have:=v.bulk_len;omega) hrec v.fs.length 0 0 (by omega)) ?_
 rintro r ⟨n,rfl⟩
 exact .some ⟨_,rfl⟩
 termination_by SizeOf.sizeOf v
def numK (k:Int):Bool:=(decide (k≥1)&&decide (k≤4))||k==11
def scaK (k:Int):Bool:=(decide (k≥0)&&decide (k≤5))||k==11
def unusedB (v:Val):Bool:=(!numK v.k&&v.n !=0)||(v.k !=5&& !(v.s==[]))||(scaK v.k&&decide ((v.fs.length:Int)>0))
theorem scalar_spec (k:Int):(lim T).pc n_value_Scalar [[.int k]]=some [[.bool (scaK k)]]:=by
 rw[value_Scalar_pc];unfold value_Scalar scaK
 by_cases h:k≥0
 ·by_cases h2:k≤5
  ·simp[h,h2]
  ·simp[h,h2]
 ·simp[h]
theorem Tot.eq {β:Type} {x:Option β} {y:β} (h:Tot (fun r=>r=y) x):x=Option.some y:=by
 obtain ⟨r,e,rfl⟩:=h;exact e
theorem unused_spec (v:Val):(lim T).pc n_value_unused [v.row]=some [[.bool (unusedB v)]]:=by
 refine Tot.eq ?_
 rw[value_unused_pc];unfold value_unused
 refine .bind (R:=fun r=>r=(0,[.r [.dp v.row], .r [.bool (numK v.k)]])) ?_ ?_
 ·simp only[at_val0,toI_int]
  unfold numK
  by_cases h:v.k≥1
  ·by_cases h2:v.k≤4
   ·simp only[h,h2,decide_true,if_true];exact .some rfl
   ·simp only[h,h2,decide_true,decide_false,if_true,Bool.false_eq_true,if_false];exact .some rfl
  ·simp only[h,decide_false,if_true,Bool.false_eq_true,if_false];exact .some rfl
 rintro r rfl
 simp only[gB_s,gB_z,gC_z,dpRow_dp,isDp_dp,if_true,at_val0,at_val1,at_val2,at_val3,toI_int,toS_str,Val.fc_rows,List.length_map]
 unfold unusedB
 have fin:∀a f:Bool,Tot (fun r:List Row=>r=[[C.bool (a ||(scaK v.k&&f))]]) (if a=true then some [[C.bool true]]else ((lim T).pc n_value_Scalar [[C.int v.k]]).bind fun y12=>if (at_ (rowsAt y12 0) 0).toB=true then some [[C.bool f]]else some [[C.bool false]]):=by
  intro a f
  cases a
  ·refine .eqbind (scalar_spec v.k) ?_
   simp only[rowsAt_zero,at_zero,toB_bool]
   cases scaK v.k
   ·exact .some rfl
   ·exact .some rfl
  ·exact .some rfl
 generalize numK v.k=a
 generalize (v.n !=0)=b
 generalize (v.k !=5)=c
 generalize (v.s==[])=d
 generalize decide ((v.fs.length:Int)>0)=f at fin⊢
 cases a<;>cases b<;>cases c<;>cases d<;>first |exact .some rfl |exact fin false f
theorem number_tot (v:Val):Tot (fun r=>∃b:Bool,r=[[.bool b]]) ((lim T).pc n_value_number [v.row]):=by
 rw[value_number_pc];unfold value_number
 repeat' (first |exact .some ⟨_,rfl⟩|refine .ite (fun _=> ?_) fun _=> ?_)
theorem containsFld_tot (c0:C) (c:Row) (h0:c0.rows.length≤big):Tot (fun r=>∃b:Bool,r=[[.bool b]]) ((lim T).pc n_slices_ContainsFunc_api_Field [[c0],[.fn n_value_names_1 [.dp c]]]):=by
 rw[slices_ContainsFunc_api_Field_pc];unfold slices_ContainsFunc_api_Field
 have:IntT ((lim T).pc n_slices_IndexFunc_api_Field [[c0],[.fn n_value_names_1 [.dp c]]]):=by
  rw[slices_IndexFunc_api_Field_pc];unfold slices_IndexFunc_api_Field
  refine .bind (R:=fun r=>r=(0,[])∨∃n:Int,r=(1,[.r [.int n]])) ?_ ?_
  ·have key:∀(j i:Nat),i+j=c0.rows.length→
    Tot (fun r=>r=(0,[])∨∃n:Int,r=(1,[.r [.int n]])) (slices_IndexFunc_api_Field_l0 (lim T) c0 (.fn n_value_names_1 [.dp c]) (c0.rows.length:Int) (i:Int)):=by
    intro j
    induction j with
    |zero=>
     intro i h
     rw[slices_IndexFunc_api_Field_l0_eq];unfold slices_IndexFunc_api_Field_b0
     obtain rfl:i=c0.rows.length:=by omega
     exact .ite (fun h=>absurd h dec_ge) fun _=> .some (.inl rfl)
    |succ j ih=>
     intro i h
     rw[slices_IndexFunc_api_Field_l0_eq];unfold slices_IndexFunc_api_Field_b0
     have hi:i<c0.rows.length:=by omega
     refine .pos (dec_lt hi) (.pos (ix_ok hi) ?_)
     have e:callC (lim T) (.fn n_value_names_1 [.dp c]) [rowsAt c0.rows (i:Int).toNat]=some [[.bool (((at_ (rowsAt c0.rows (i:Int).toNat) 0).toS)==((at_ c 0).toS))]]:=by
      show (lim T).pc n_value_names_1 [rowsAt c0.rows (i:Int).toNat,[.dp c]]=_
      rw[value_names_1_pc];unfold value_names_1
      simp only[isDp_dp,if_true,dpRow_dp]
     refine .eqbind e ?_
     rw[wrap_nat (show i≤big by omega)]
     exact .ite (fun _=> .some (.inr ⟨_,rfl⟩)) fun _=>ih (i+1) (by omega)
   exact key _ 0 (Nat.zero_add _)
  rintro r (rfl |⟨n,rfl⟩)
  ·exact .some ⟨_,rfl⟩
  ·exact .some ⟨_,rfl⟩
 refine .bind this ?_
 rintro r ⟨n,rfl⟩
 exact .some ⟨_,rfl⟩
theorem slcC_len (c:C) (i:Nat) (h:i≤c.rows.length):(slcC c 0 (i:Int)).rows.length=i:=by
 have h0:(C.rows c).length=c.rows.length:=rfl
 unfold slcC
 split
 ·simp[C.rows]at h⊢;omega
 ·simp[C.rows]at h⊢
  split<;>simp_all
theorem vnames_tot (c:C) (h0:c.rows.length≤big):IntT ((lim T).pc n_value_names [[c]]):=by
 rw[value_names_pc];unfold value_names
 refine .bind (R:=fun r=>r=(0,[])∨∃n:Int,r=(1,[.r [.int n]])) ?_ ?_
 ·have key:∀(j i:Nat),i+j=c.rows.length→Tot (fun r=>r=(0,[])∨∃n:Int,r=(1,[.r [.int n]])) (value_names_l0 (lim T) c c (c.rows.length:Int) (i:Int)):=by
   intro j
   induction j with
   |zero=>
    intro i h
    rw[value_names_l0_eq];unfold value_names_b0
    obtain rfl:i=c.rows.length:=by omega
    exact .ite (fun h=>absurd h dec_ge) fun _=> .some (.inl rfl)
   |succ j ih=>
    intro i h
    rw[value_names_l0_eq];unfold value_names_b0
    have hi:i<c.rows.length:=by omega
    refine .pos (dec_lt hi) (.pos (ix_ok hi) ?_)
    refine .eqbind (name_spec _) ?_
    refine .ite (fun _=> .some (.inr ⟨_,rfl⟩)) fun _=> ?_
    refine .pos ⟨by omega,by omega,by omega⟩ ?_
    refine .bind (containsFld_tot _ _ (by rw[slcC_len c i (by omega)];omega)) ?_
    rintro r ⟨b,rfl⟩
    rw[wrap_nat (show i≤big by omega)]
    exact .ite (fun _=> .some (.inr ⟨_,rfl⟩)) fun _=>ih (i+1) (by omega)
  exact key _ 0 (Nat.zero_add _)
 rintro r (rfl |⟨n,rfl⟩)
 ·exact .some ⟨_,rfl⟩
 ·exact .some ⟨_,rfl⟩
theorem vkeys_tot (p:Row) (h0:(at_ p 3).rows.length≤big):IntT ((lim T).pc n_value_keys [p]):=by
 rw[value_keys_pc];unfold value_keys
 refine .bind (R:=fun r=>r=(0,[])∨∃n:Int,r=(1,[.r [.int n]])) ?_ ?_
 ·have key:∀(j i:Nat),i+j=(at_ p 3).rows.length→Tot (fun r=>r=(0,[])∨∃n:Int,r=(1,[.r [.int n]])) (value_keys_l0 (lim T) (.dp p) (at_ p 3) ((at_ p 3).rows.length:Int) (i:Int)):=by
   intro j
   induction j with
   |zero=>
    intro i h
    rw[value_keys_l0_eq];unfold value_keys_b0
    obtain rfl:i=(at_ p 3).rows.length:=by omega
    exact .ite (fun h=>absurd h dec_ge) fun _=> .some (.inl rfl)
   |succ j ih=>
    intro i h
    rw[value_keys_l0_eq];unfold value_keys_b0
    have hi:i<(at_ p 3).rows.length:=by omega
    refine .pos (dec_lt hi) ?_
    refine .bind (R:=fun r=>r=(0,[.r [.dp p], .r [at_ p 3], .r [.int ((at_ p 3).rows.length:Int)], .r [.int (i:Int)]])∨∃n:Int,r=(1,[.r [.int n]])) ?_ ?_
    ·refine .pos (ix_ok hi) ?_
     refine .bind (R:=fun r=>∃(q:Bool) (w:Row),r=(0,[.r [.dp p], .r [.int (i:Int)], .r [at_ p 3], .r [.int ((at_ p 3).rows.length:Int)], .r [.int (i:Int)], .r [.bool q], .r w])) ?_ ?_
     ·simp only[isDp_dp,if_true]
      exact .ite (fun _=> .some ⟨_,_,rfl⟩) fun _=> .some ⟨_,_,rfl⟩
     rintro r ⟨q,w,rfl⟩
     simp only[gB_s,gB_z,gC_s,gC_z,gI_s,gI_z,isDp_dp,if_true,dpRow_dp]
     refine .ite (fun _=> .some (.inr ⟨_,rfl⟩)) fun _=> .ite (fun _=> .some (.inl rfl)) fun _=> .ite (fun _=> .some (.inr ⟨_,rfl⟩)) fun _=> ?_
     refine .ite (fun hpos=> ?_) fun _=> ?_
     ·have hp:(0:Int)<(i:Int):=of_decide_eq_true hpos
      have ew:IntKind.wrap .i64 ((i:Int) - 1)=(i:Int) - 1:=wrapS (by omega) (by unfold big at h0;omega)
      refine .pos (by rw[ew];omega) ?_
      exact .ite (fun _=> .some (.inr ⟨_,rfl⟩)) fun _=> .some (.inl rfl)
     ·exact .ite (fun _=> .some (.inr ⟨_,rfl⟩)) fun _=> .some (.inl rfl)
    rintro r (rfl |⟨n,rfl⟩)
    ·simp only[gC_s,gC_z,gI_s,gI_z]
     rw[wrap_nat (show i≤big by omega)]
     exact ih (i+1) (by omega)
    ·exact .some (.inr ⟨_,rfl⟩)
  exact key _ 0 (Nat.zero_add _)
 rintro r (rfl |⟨n,rfl⟩)
 ·exact .some ⟨_,rfl⟩
 ·exact .some ⟨_,rfl⟩
theorem vfields_tot (v:Val) (h0:v.fs.length≤big):IntT ((lim T).pc n_value_fields [v.row]):=by
 rw[value_fields_pc];unfold value_fields
 have h1:(at_ v.row 3).rows.length≤big:=by rw[at_val3,Val.fc_rows,List.length_map];exact h0
 have kn:∀{f:List Row→Option (List Row)},(∀r,∃n:Int,f r=some [[.int n]])→IntT (((lim T).pc n_value_names [[at_ v.row 3]]).bind f):=fun hf=> .bind (vnames_tot _ h1) fun r _=>by obtain ⟨n,e⟩:=hf r;rw[e];exact .some ⟨n,rfl⟩
 have kk:∀{f:List Row→Option (List Row)},(∀r,∃n:Int,f r=some [[.int n]])→IntT (((lim T).pc n_value_keys [v.row]).bind f):=fun hf=> .bind (vkeys_tot _ h1) fun r _=>by obtain ⟨n,e⟩:=hf r;rw[e];exact .some ⟨n,rfl⟩
 repeat' (first |exact .some ⟨_,rfl⟩|exact kn fun r=>⟨_,rfl⟩|exact kk fun r=>⟨_,rfl⟩|refine .ite (fun _=> ?_) fun _=> ?_)
theorem vnode_l (v:Val) (hN:v.fs.length≤big) (hc:∀p∈v.fs,IntT ((lim T).pc n_value_node [p.2.row,[.bool false]])):∀(j i:Nat),i+j=v.fs.length→
 Tot (fun r=>r=(0,[])∨∃n:Int,r=(1,[.r [.int n]])) (value_node_l0 (lim T) v.fc (v.fs.length:Int) (i:Int))
 |0,i,h=>by
  rw[value_node_l0_eq];unfold value_node_b0
  obtain rfl:i=v.fs.length:=by omega
  exact .ite (fun h=>absurd h dec_ge) fun _=> .some (.inl rfl)
 |j+1,i,h=>by
  rw[value_node_l0_eq];unfold value_node_b0
  have hi:i<v.fs.length:=by omega
  refine .pos (dec_lt hi) (.pos (ix_ok (by simpa using hi)) ?_)
  rw[v.fc_rows,Int.toNat_natCast,rowsAt_map _ _ _ hi,fld_val,wrap_nat (by omega)]
  refine .bind (hc _ (List.getElem_mem hi)) ?_
  rintro r ⟨n,rfl⟩
  exact .ite (fun _=> .some (.inr ⟨_,rfl⟩)) fun _=>vnode_l v hN hc j (i+1) (by omega)
theorem vnode_tot (v:Val) (b:Bool) (hN:v.bulk≤big):Tot (fun r=>∃n:Int,r=[[.int n]]∧(n=0→unusedB v=false)) ((lim T).pc n_value_node [v.row,[.bool b]]):=by
 have hrec:∀p∈v.fs,IntT ((lim T).pc n_value_node [p.2.row,[.bool false]]):=fun p hp=>by
  have:=Val.size_lt hp
  have hb:=Val.bulk_mem hp
  exact (vnode_tot p.2 false (by omega)).mono fun r ⟨n,e,_⟩=>⟨n,e⟩
 have hlen:v.fs.length≤big:=by have:=v.bulk_len;omega
 rw[value_node_pc];unfold value_node
 refine .bind (R:=fun r=>(r=(0,[.r [.dp v.row]])∧unusedB v=false)∨∃n:Int,n≠0∧r=(1,[.r [.int n]])) ?_ ?_
 ·refine .bind (R:=fun r=>∃q:Bool,r=(0,[.r [.dp v.row], .r [.bool q]])∧(q=false→unusedB v=false)) ?_ ?_
  ·have fin:Tot (fun r=>∃q:Bool,r=(0,[.r [.dp v.row], .r [.bool q]])∧(q=false→unusedB v=false)) (((lim T).pc n_value_unused [v.row]).bind fun y9=>some ((0:Nat),([.r [.dp v.row], .r [.bool (at_ (rowsAt y9 0) 0).toB]]:List PV))):=
    .eqbind (unused_spec v) (.some ⟨unusedB v,rfl,fun h=>h⟩)
   repeat' (first |exact fin |exact .some ⟨true,rfl,fun h=>by cases h⟩|refine .ite (fun _=> ?_) fun _=> ?_)
  rintro r ⟨q,rfl,hq⟩
  simp only[gB_s,gB_z,gC_z,isDp_dp,if_true,dpRow_dp]
  refine .ite (fun _=> .some (.inr ⟨3,by decide,rfl⟩)) fun h=> ?_
  refine .bind (number_tot v) ?_
  rintro r ⟨b',rfl⟩
  exact .ite (fun _=> .some (.inr ⟨11,by decide,rfl⟩)) fun _=> .some (.inl ⟨rfl,hq (by simpa using h)⟩)
 rintro r (⟨rfl,hu⟩|⟨n,hn,rfl⟩)
 ·simp only[gC_z,isDp_dp,if_true,dpRow_dp]
  refine .bind (vfields_tot v hlen) ?_
  rintro r ⟨n,rfl⟩
  refine .ite (fun _=> .some ⟨n,rfl,fun _=>hu⟩) fun _=> ?_
  simp only[at_val3,Val.fc_rows,List.length_map]
  refine .bind (vnode_l v hlen hrec v.fs.length 0 (by omega)) ?_
  rintro r (rfl |⟨n,rfl⟩)
  ·exact .some ⟨_,rfl,fun _=>hu⟩
  ·exact .some ⟨_,rfl,fun _=>hu⟩
 ·exact .some ⟨n,rfl,fun h=>absurd h hn⟩
 termination_by SizeOf.sizeOf v
theorem vcheck_tot (v:Val) (hN:v.bulk≤big):∃n:Int,(lim T).pc n_value_Check [v.row]=some [[.int n]]∧(n=0→unusedB v=false):=by
 have:Tot (fun r=>∃n:Int,r=[[.int n]]∧(n=0→unusedB v=false)) ((lim T).pc n_value_Check [v.row]):=by
  rw[value_Check_pc];unfold value_Check
  refine .bind (vsize_tot v hN) ?_
  rintro r ⟨n,rfl⟩
  have fin:∀q:Bool,Tot (fun r=>∃n:Int,r=[[.int n]]∧(n=0→unusedB v=false)) (if q=true then some [[C.int 2]]else ((lim T).pc n_value_node [v.row,[.bool true]]).bind fun y4=>some [[C.int (at_ (rowsAt y4 0) 0).toI]]):=by
   intro q
   refine .ite (fun _=> .some ⟨2,rfl,fun h=>by cases h⟩) fun _=> .bind (vnode_tot v true hN) ?_
   rintro r ⟨n,rfl,h⟩
   exact .some ⟨n,rfl,h⟩
  refine .ite (fun _=> .some ⟨2,rfl,fun h=>by cases h⟩) fun _=> .bind (vdeep_tot v hN) ?_
  rintro r ⟨n,rfl⟩
  exact fin _
 obtain ⟨r,h,n,rfl,h2⟩:=this
 exact ⟨n,h,h2⟩
end Go.Ev.Zzj
