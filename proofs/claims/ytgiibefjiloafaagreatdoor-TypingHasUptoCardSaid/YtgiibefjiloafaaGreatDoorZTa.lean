/-
  A part of the proof: what the functions of the program compute.
-/
import Derived.Test.YtgiibefjiloafaaGreatDoorZS
import Derived.Test.YtgiibefjiloafaaGreatDoorZDa
set_option linter.all false
set_option maxRecDepth 100000
namespace Go.Ev.Zzt
theorem ixf_def_l (c fc:C) (hN:c.rows.length≤big) (hf:∀i,i<c.rows.length→Tot (fun r=>∃b:Bool,r=[[.bool b]]) (callC (lim T) fc [rowsAt c.rows i])):∀(j i:Nat),i+j=c.rows.length→
 Tot (fun r=>r=(0,[])∨∃n:Nat,r=(1,[.r [.int (n:Int)]])∧n<c.rows.length) (slices_IndexFunc_api_Def_l0 (lim T) c fc (c.rows.length:Int) (i:Int))
 |0,i,h=>by
  rw[slices_IndexFunc_api_Def_l0_eq];unfold slices_IndexFunc_api_Def_b0
  obtain rfl:i=c.rows.length:=by omega
  exact .ite (fun h=>absurd h dec_ge) fun _=> .some (.inl rfl)
 |j+1,i,h=>by
  rw[slices_IndexFunc_api_Def_l0_eq];unfold slices_IndexFunc_api_Def_b0
  have hi:i<c.rows.length:=by omega
  refine .pos (dec_lt hi) (.pos (ix_ok hi) ?_)
  rw[Int.toNat_natCast]
  refine .bind (hf i hi) ?_
  rintro r ⟨b,rfl⟩
  rw[wrap_nat (show i≤big by omega)]
  exact .ite (fun _=> .some (.inr ⟨i,rfl,hi⟩)) fun _=>ixf_def_l c fc hN hf j (i+1) (by omega)
theorem ixf_def (c fc:C) (hN:c.rows.length≤big) (hf:∀i,i<c.rows.length→Tot (fun r=>∃b:Bool,r=[[.bool b]]) (callC (lim T) fc [rowsAt c.rows i])):
 Tot (fun r=>r=[[.int (-1)]]∨∃n:Nat,r=[[.int (n:Int)]]∧n<c.rows.length) ((lim T).pc n_slices_IndexFunc_api_Def [[c],[fc]]):=by
 rw[slices_IndexFunc_api_Def_pc];unfold slices_IndexFunc_api_Def
 refine .bind (ixf_def_l c fc hN hf _ 0 (Nat.zero_add _)) ?_
 rintro r (rfl |⟨n,rfl,hn⟩)
 ·exact .some (.inl rfl)
 ·exact .some (.inr ⟨n,rfl,hn⟩)
theorem ixf_prt_l (c fc:C) (hN:c.rows.length≤big) (hf:∀i,i<c.rows.length→Tot (fun r=>∃b:Bool,r=[[.bool b]]) (callC (lim T) fc [rowsAt c.rows i])):∀(j i:Nat),i+j=c.rows.length→
 Tot (fun r=>r=(0,[])∨∃n:Nat,r=(1,[.r [.int (n:Int)]])∧n<c.rows.length) (slices_IndexFunc_api_Part_l0 (lim T) c fc (c.rows.length:Int) (i:Int))
 |0,i,h=>by
  rw[slices_IndexFunc_api_Part_l0_eq];unfold slices_IndexFunc_api_Part_b0
  obtain rfl:i=c.rows.length:=by omega
  exact .ite (fun h=>absurd h dec_ge) fun _=> .some (.inl rfl)
 |j+1,i,h=>by
  rw[slices_IndexFunc_api_Part_l0_eq];unfold slices_IndexFunc_api_Part_b0
  have hi:i<c.rows.length:=by omega
  refine .pos (dec_lt hi) (.pos (ix_ok hi) ?_)
  rw[Int.toNat_natCast]
  refine .bind (hf i hi) ?_
  rintro r ⟨b,rfl⟩
  rw[wrap_nat (show i≤big by omega)]
  exact .ite (fun _=> .some (.inr ⟨i,rfl,hi⟩)) fun _=>ixf_prt_l c fc hN hf j (i+1) (by omega)
theorem ixf_prt (c fc:C) (hN:c.rows.length≤big) (hf:∀i,i<c.rows.length→Tot (fun r=>∃b:Bool,r=[[.bool b]]) (callC (lim T) fc [rowsAt c.rows i])):
 Tot (fun r=>r=[[.int (-1)]]∨∃n:Nat,r=[[.int (n:Int)]]∧n<c.rows.length) ((lim T).pc n_slices_IndexFunc_api_Part [[c],[fc]]):=by
 rw[slices_IndexFunc_api_Part_pc];unfold slices_IndexFunc_api_Part
 refine .bind (ixf_prt_l c fc hN hf _ 0 (Nat.zero_add _)) ?_
 rintro r (rfl |⟨n,rfl,hn⟩)
 ·exact .some (.inl rfl)
 ·exact .some (.inr ⟨n,rfl,hn⟩)
theorem ixf_fld_l (c fc:C) (hN:c.rows.length≤big) (hf:∀i,i<c.rows.length→Tot (fun r=>∃b:Bool,r=[[.bool b]]) (callC (lim T) fc [rowsAt c.rows i])):∀(j i:Nat),i+j=c.rows.length→
 Tot (fun r=>r=(0,[])∨∃n:Nat,r=(1,[.r [.int (n:Int)]])∧n<c.rows.length) (slices_IndexFunc_api_Field_l0 (lim T) c fc (c.rows.length:Int) (i:Int))
 |0,i,h=>by
  rw[slices_IndexFunc_api_Field_l0_eq];unfold slices_IndexFunc_api_Field_b0
  obtain rfl:i=c.rows.length:=by omega
  exact .ite (fun h=>absurd h dec_ge) fun _=> .some (.inl rfl)
 |j+1,i,h=>by
  rw[slices_IndexFunc_api_Field_l0_eq];unfold slices_IndexFunc_api_Field_b0
  have hi:i<c.rows.length:=by omega
  refine .pos (dec_lt hi) (.pos (ix_ok hi) ?_)
  rw[Int.toNat_natCast]
  refine .bind (hf i hi) ?_
  rintro r ⟨b,rfl⟩
  rw[wrap_nat (show i≤big by omega)]
  exact .ite (fun _=> .some (.inr ⟨i,rfl,hi⟩)) fun _=>ixf_fld_l c fc hN hf j (i+1) (by omega)
theorem ixf_fld (c fc:C) (hN:c.rows.length≤big) (hf:∀i,i<c.rows.length→Tot (fun r=>∃b:Bool,r=[[.bool b]]) (callC (lim T) fc [rowsAt c.rows i])):
 Tot (fun r=>r=[[.int (-1)]]∨∃n:Nat,r=[[.int (n:Int)]]∧n<c.rows.length) ((lim T).pc n_slices_IndexFunc_api_Field [[c],[fc]]):=by
 rw[slices_IndexFunc_api_Field_pc];unfold slices_IndexFunc_api_Field
 refine .bind (ixf_fld_l c fc hN hf _ 0 (Nat.zero_add _)) ?_
 rintro r (rfl |⟨n,rfl,hn⟩)
 ·exact .some (.inl rfl)
 ·exact .some (.inr ⟨n,rfl,hn⟩)
theorem ctf_prt (c fc:C) (hN:c.rows.length≤big) (hf:∀i,i<c.rows.length→Tot (fun r=>∃b:Bool,r=[[.bool b]]) (callC (lim T) fc [rowsAt c.rows i])):
 Tot (fun r=>∃b:Bool,r=[[.bool b]]∧(b=true→0<c.rows.length)) ((lim T).pc n_slices_ContainsFunc_api_Part [[c],[fc]]):=by
 rw[slices_ContainsFunc_api_Part_pc];unfold slices_ContainsFunc_api_Part
 refine .bind (ixf_prt c fc hN hf) ?_
 rintro r (rfl |⟨n,rfl,hn⟩)
 ·exact .some ⟨false,rfl,fun h=>by cases h⟩
 ·exact .some ⟨true,by simp,fun _=>by omega⟩
theorem ctf_fld (c fc:C) (hN:c.rows.length≤big) (hf:∀i,i<c.rows.length→Tot (fun r=>∃b:Bool,r=[[.bool b]]) (callC (lim T) fc [rowsAt c.rows i])):
 Tot (fun r=>∃b:Bool,r=[[.bool b]]∧(b=true→0<c.rows.length)) ((lim T).pc n_slices_ContainsFunc_api_Field [[c],[fc]]):=by
 rw[slices_ContainsFunc_api_Field_pc];unfold slices_ContainsFunc_api_Field
 refine .bind (ixf_fld c fc hN hf) ?_
 rintro r (rfl |⟨n,rfl,hn⟩)
 ·exact .some ⟨false,rfl,fun h=>by cases h⟩
 ·exact .some ⟨true,by simp,fun _=>by omega⟩
theorem prt_row (p:Bytes×Typ):([at_ (prtRow p) 1,at_ (prtRow p) 2,at_ (prtRow p) 3,at_ (prtRow p) 4,at_ (prtRow p) 5,at_ (prtRow p) 6]:Row)=p.2.row:=rfl
theorem tsize_l (v:Typ) (hN:v.ps.length≤big) (hc:∀p∈v.ps,IntT ((lim T).pc n_types_Size [p.2.row])):∀(j i:Nat) (a:Int),i+j=v.ps.length→
 Tot (fun r=>∃a':Int,r=(0,[.r [.int a']])) (types_Size_l0 (lim T) a v.pc (v.ps.length:Int) (i:Int))
 |0,i,a,h=>by
  rw[types_Size_l0_eq];unfold types_Size_b0
  obtain rfl:i=v.ps.length:=by omega
  exact .ite (fun h=>absurd h dec_ge) fun _=> .some ⟨_,rfl⟩
 |j+1,i,a,h=>by
  rw[types_Size_l0_eq];unfold types_Size_b0
  have hi:i<v.ps.length:=by omega
  refine .pos (dec_lt hi) (.pos (ix_ok (by simpa using hi)) ?_)
  rw[v.pc_rows,Int.toNat_natCast,rowsAt_map _ _ _ hi,prt_row,wrap_nat (by omega)]
  refine .bind (hc _ (List.getElem_mem hi)) ?_
  rintro r ⟨n,rfl⟩
  exact tsize_l v hN hc j (i+1) _ (by omega)
theorem tsize_tot (v:Typ) (hN:v.bulk≤big):IntT ((lim T).pc n_types_Size [v.row]):=by
 have hrec:∀p∈v.ps,IntT ((lim T).pc n_types_Size [p.2.row]):=fun p hp=>by
  have:=Typ.size_lt hp
  have hb:=Typ.bulk_mem hp
  exact tsize_tot p.2 (by omega)
 have hlen:v.ps.length≤big:=by have:=v.bulk_len;omega
 rw[types_Size_pc];unfold types_Size
 have e5:at_ v.row 5=v.pc:=rfl
 rw[e5,v.pc_rows,List.length_map]
 refine .bind (tsize_l v hlen hrec _ 0 _ (Nat.zero_add _)) ?_
 rintro r ⟨a,rfl⟩
 exact .some ⟨_,rfl⟩
 termination_by SizeOf.sizeOf v
theorem tdeep_l (v:Typ) (hN:v.ps.length≤big) (hc:∀p∈v.ps,IntT ((lim T).pc n_types_Deep [p.2.row])):∀(j i:Nat) (a:Int),i+j=v.ps.length→
 Tot (fun r=>∃a':Int,r=(0,[.r [.int a']])) (types_Deep_l0 (lim T) a v.pc (v.ps.length:Int) (i:Int))
 |0,i,a,h=>by
  rw[types_Deep_l0_eq];unfold types_Deep_b0
  obtain rfl:i=v.ps.length:=by omega
  exact .ite (fun h=>absurd h dec_ge) fun _=> .some ⟨_,rfl⟩
 |j+1,i,a,h=>by
  rw[types_Deep_l0_eq];unfold types_Deep_b0
  have hi:i<v.ps.length:=by omega
  refine .pos (dec_lt hi) (.pos (ix_ok (by simpa using hi)) ?_)
  rw[v.pc_rows,Int.toNat_natCast,rowsAt_map _ _ _ hi,prt_row,wrap_nat (by omega)]
  refine .bind (hc _ (List.getElem_mem hi)) ?_
  rintro r ⟨n,rfl⟩
  exact tdeep_l v hN hc j (i+1) _ (by omega)
theorem tdeep_tot (v:Typ) (hN:v.bulk≤big):IntT ((lim T).pc n_types_Deep [v.row]):=by
 have hrec:∀p∈v.ps,IntT ((lim T).pc n_types_Deep [p.2.row]):=fun p hp=>by
  have:=Typ.size_lt hp
  have hb:=Typ.bulk_mem hp
  exact tdeep_tot p.2 (by omega)
 have hlen:v.ps.length≤big:=by have:=v.bulk_len;omega
 rw[types_Deep_pc];unfold types_Deep
 have e5:at_ v.row 5=v.pc:=rfl
 rw[e5,v.pc_rows,List.length_map]
 refine .bind (tdeep_l v hlen hrec _ 0 _ (Nat.zero_add _)) ?_
 rintro r ⟨a,rfl⟩
 exact .some ⟨_,rfl⟩
 termination_by SizeOf.sizeOf v
theorem find_tot (cs:C) (hN:cs.rows.length≤big) (nm:Bytes):Tot (fun r=>r=[[.int (-1)]]∨∃n:Nat,r=[[.int (n:Int)]]∧n<cs.rows.length) ((lim T).pc n_types_find [[cs],[.str nm]]):=by
 rw[types_find_pc];unfold types_find
 refine .bind (ixf_def cs _ hN fun i hi=> ?_) ?_
 ·show Tot _ ((lim T).pc n_types_find_1 [rowsAt cs.rows i,[.dp [.str nm]]])
  rw[types_find_1_pc];unfold types_find_1
  exact .pos rfl (.some ⟨_,rfl⟩)
 rintro r (rfl |⟨n,rfl,hn⟩)
 ·exact .some (.inl rfl)
 ·exact .some (.inr ⟨n,rfl,hn⟩)
theorem bounds_tot (k:Int):Tot (fun r=>∃a b:Int,r=[[.int a],[.int b]]) ((lim T).pc n_types_bounds [[.int k]]):=by
 rw[types_bounds_pc];unfold types_bounds
 repeat' (first |exact .some ⟨_,_,rfl⟩|refine .ite (fun _=> ?_) fun _=> ?_)
theorem tunused_tot (t:Typ):Tot (fun r=>∃b:Bool,r=[[.bool b]]) ((lim T).pc n_types_unused [t.row]):=by
 rw[types_unused_pc];unfold types_unused
 refine .bind (R:=fun r=>∃q:Bool,r=(0,[.r [.dp t.row], .r [.bool q]])) ?_ ?_
 ·repeat' (first |exact .some ⟨_,rfl⟩|refine .ite (fun _=> ?_) fun _=> ?_)
 rintro r ⟨q,rfl⟩
 refine .bind (R:=fun r=>∃q1 q2:Bool,r=(0,[.r [.dp t.row], .r [.bool q1], .r [.bool q2]])) ?_ ?_
 ·repeat' (first |exact .some ⟨_,_,rfl⟩|refine .pos rfl ?_ |refine .ite (fun _=> ?_) fun _=> ?_)
 rintro r ⟨q1,q2,rfl⟩
 repeat' (first |exact .some ⟨_,rfl⟩|refine .pos rfl ?_ |refine .ite (fun _=> ?_) fun _=> ?_)
theorem parts_l (v:Typ) (hN:v.ps.length≤big):∀(j i:Nat),i+j=v.ps.length→
 Tot (fun r=>r=(0,[])∨∃n:Int,r=(1,[.r [.int n]])) (types_parts_l0 (lim T) (.dp v.row) v.pc (v.ps.length:Int) (i:Int))
 |0,i,h=>by
  rw[types_parts_l0_eq];unfold types_parts_b0
  obtain rfl:i=v.ps.length:=by omega
  exact .ite (fun h=>absurd h dec_ge) fun _=> .some (.inl rfl)
 |j+1,i,h=>by
  rw[types_parts_l0_eq];unfold types_parts_b0
  have hi:i<v.ps.length:=by omega
  have hl:v.pc.rows.length=v.ps.length:=by rw[v.pc_rows,List.length_map]
  refine .pos (dec_lt hi) (.pos (ix_ok (by rw[hl];exact hi)) ?_)
  refine .eqbind (name_spec _) ?_
  refine .ite (fun _=> .some (.inr ⟨_,rfl⟩)) fun _=> ?_
  refine .pos rfl ?_
  have e5:at_ (C.dp v.row).dpRow 5=v.pc:=rfl
  rw[e5]
  refine .pos ⟨by omega,by omega,by rw[hl];omega⟩ ?_
  have hls:=slcC_len v.pc i (by rw[hl];omega)
  refine .bind (ctf_prt _ _ (by rw[hls];omega) fun q hq=> ?_) ?_
  ·show Tot _ ((lim T).pc n_types_parts_1 [_,[.dp _]])
   rw[types_parts_1_pc];unfold types_parts_1
   exact .pos rfl (.some ⟨_,rfl⟩)
  rintro r ⟨b,rfl,_⟩
  rw[wrap_nat (show i≤big by omega)]
  exact .ite (fun _=> .some (.inr ⟨_,rfl⟩)) fun _=>parts_l v hN j (i+1) (by omega)
inductive TOk:Typ→Prop where
 |mk {t:Typ}:(t.k=8∨t.k=9→t.ps.length=1)→(∀p∈t.ps,TOk p.2)→TOk t
theorem parts_tot (v:Typ) (hN:v.ps.length≤big):Tot (fun r=>∃n:Int,r=[[.int n]]∧(n=0→v.k=8∨v.k=9→v.ps.length=1)) ((lim T).pc n_types_parts [v.row]):=by
 rw[types_parts_pc];unfold types_parts
 have e5:at_ v.row 5=v.pc:=rfl
 have e0:(at_ v.row 0).toI=v.k:=rfl
 have hl:v.pc.rows.length=v.ps.length:=by rw[v.pc_rows,List.length_map]
 refine .bind (R:=fun r=>(r=(0,[])∧(v.k=8∨v.k=9→v.ps.length=1))∨∃n:Int,r=(1,[.r [.int n]])∧(n=0→v.k=8∨v.k=9→v.ps.length=1)) ?_ ?_
 ·rw[e0,e5,hl]
  refine .bind (R:=fun r=>∃q:Bool,r=(0,[.r [.dp v.row], .r [.int (v.ps.length:Int)], .r [.int v.k], .r [.bool q]])∧(q=false→¬(v.k=8∨v.k=9))) ?_ ?_
  ·refine .ite (fun h=> .some ⟨_,rfl,fun h'=>by rw[h]at h';cases h'⟩) fun h=> .some ⟨_,rfl,fun h'=> ?_⟩
   have h1:v.k≠8:=by simpa using h
   have h2:v.k≠9:=by simpa using h'
   omega
  rintro r ⟨q,rfl,hq⟩
  refine .ite (fun _=> ?_) fun hb=> ?_
  ·refine .ite (fun c=> ?_) fun c=> ?_
   ·exact .some (.inr ⟨3,rfl,fun h=>by cases h⟩)
   ·have c1:v.ps.length=1:=by
     have:¬((v.ps.length:Int) !=1)=true:=c
     have:(v.ps.length:Int)=1:=by simpa using this
     omega
    refine .pos rfl (.pos ⟨by omega, ?_⟩ ?_)
    ·show (0:Int)<(v.pc.rows.length:Int);rw[hl];omega
    ·exact .ite (fun _=> .some (.inr ⟨3,rfl,fun h=>by cases h⟩)) fun _=> .some (.inl ⟨rfl,fun _=>c1⟩)
  ·have hn:¬(v.k=8∨v.k=9):=hq (by cases q;rfl;exact absurd rfl hb)
   refine .bind (R:=fun r=>∃q:Bool,r=(0,[.r [.dp v.row], .r [.int (v.ps.length:Int)], .r [.bool q]])) ?_ ?_
   ·exact .ite (fun _=> .some ⟨_,rfl⟩) fun _=> .some ⟨_,rfl⟩
   rintro r ⟨q2,rfl⟩
   refine .ite (fun _=> ?_) fun _=> .some (.inl ⟨rfl,fun h=>absurd h hn⟩)
   refine .ite (fun _=> .some (.inr ⟨_,rfl,fun _ h=>absurd h hn⟩)) fun _=> ?_
   refine .bind (R:=fun r=>∃q:Bool,r=(0,[.r [.dp v.row], .r [.bool q]])) ?_ ?_
   ·exact .pos rfl (.ite (fun _=> .some ⟨_,rfl⟩) fun _=> .some ⟨_,rfl⟩)
   rintro r ⟨q3,rfl⟩
   refine .ite (fun _=> .some (.inr ⟨_,rfl,fun _ h=>absurd h hn⟩)) fun _=> .pos rfl ?_
   refine .bind (R:=fun r=>r=(0,[])∨∃n:Int,r=(1,[.r [.int n]])) ?_ ?_
   ·show Tot _ (types_parts_l0 (lim T) (.dp v.row) v.pc (v.pc.rows.length:Int) 0)
    rw[hl];exact parts_l v hN _ 0 (Nat.zero_add _)
   rintro r (rfl |⟨n,rfl⟩)
   ·exact .some (.inl ⟨rfl,fun h=>absurd h hn⟩)
   ·exact .some (.inr ⟨_,rfl,fun _ h=>absurd h hn⟩)
 rintro r (⟨rfl,h⟩|⟨n,rfl,h⟩)
 ·exact .some ⟨_,rfl,fun _=>h⟩
 ·exact .some ⟨_,rfl,h⟩
theorem own_tot (cs:C) (hS:cs.rows.length≤big) (v:Typ) (hN:v.ps.length≤big):Tot (fun r=>∃n:Int,r=[[.int n]]∧(n=0→v.k=8∨v.k=9→v.ps.length=1)) ((lim T).pc n_types_own [[cs],v.row]):=by
 have e:(lim T).pc n_types_own [[cs],v.row]=types_own (lim T) cs v.row:=types_own_pc cs v.row
 rw[e];unfold types_own
 refine .bind (bounds_tot _) ?_
 rintro y ⟨a,b,rfl⟩
 refine .bind (R:=fun r=>r=(0,[.r [.dp v.row]])∨∃n:Int,n≠0∧r=(1,[.r [.int n]])) ?_ ?_
 ·refine .bind (R:=fun r=>∃q:Bool,r=(0,[.r [cs], .r [.dp v.row], .r [.int a], .r [.int b], .r [.bool q]])) ?_ ?_
  ·have fin:Tot (fun r=>∃q:Bool,r=(0,[.r [cs], .r [.dp v.row], .r [.int a], .r [.int b], .r [.bool q]])) (((lim T).pc n_types_unused [v.row]).bind fun y6=>some ((0:Nat),([.r [cs], .r [.dp v.row], .r [.int a], .r [.int b], .r [.bool (at_ (rowsAt y6 0) 0).toB]]:List PV))):= .bind (tunused_tot v) fun r ⟨q,hq⟩=>by subst hq;exact .some ⟨q,rfl⟩
   repeat' (first |exact fin |exact .some ⟨_,rfl⟩|refine .ite (fun _=> ?_) fun _=> ?_)
  rintro r ⟨q,rfl⟩
  refine .ite (fun _=> .some (.inr ⟨3,by decide,rfl⟩)) fun _=> ?_
  refine .bind (R:=fun r=>∃q:Bool,r=(0,[.r [cs], .r [.dp v.row], .r [.bool q]])) ?_ ?_
  ·repeat' (first |exact .some ⟨_,rfl⟩|refine .pos rfl ?_ |refine .ite (fun _=> ?_) fun _=> ?_)
  rintro r ⟨q,rfl⟩
  refine .ite (fun _=> .some (.inr ⟨11,by decide,rfl⟩)) fun _=> ?_
  refine .bind (R:=fun r=>∃q:Bool,r=(0,[.r [cs], .r [.dp v.row], .r [.bool q]])) ?_ ?_
  ·repeat' (first |exact .some ⟨_,rfl⟩|refine .pos rfl ?_ |refine .ite (fun _=> ?_) fun _=> ?_)
  rintro r ⟨q,rfl⟩
  refine .ite (fun _=> .pos rfl ?_) fun _=> .pos rfl ?_
  ·obtain ⟨n,hn⟩:=patCheck_tot v.pat
   refine .eqbind hn ?_
   exact .ite (fun c=> .some (.inr ⟨n,by simpa using c,rfl⟩)) fun _=> .some (.inl rfl)
  ·refine .ite (fun _=> .pos rfl ?_) fun _=> .some (.inl rfl)
   refine .bind (find_tot cs hS v.name) ?_
   rintro r (rfl |⟨n,rfl,_⟩)
   ·exact .some (.inr ⟨15,by decide,rfl⟩)
   ·exact .ite (fun _=> .some (.inr ⟨15,by decide,rfl⟩)) fun _=> .some (.inl rfl)
 rintro r (rfl |⟨n,hn,rfl⟩)
 ·refine .pos rfl (.bind (parts_tot v hN) ?_)
  rintro r ⟨n,rfl,h⟩
  exact .some ⟨n,rfl,h⟩
 ·exact .some ⟨n,rfl,fun h=>absurd h hn⟩
theorem tnode_l (cs:C) (v:Typ) (hN:v.ps.length≤big) (hc:∀p∈v.ps,Tot (fun r=>∃n:Int,r=[[.int n]]∧(n=0→TOk p.2)) ((lim T).pc n_types_node [[cs],p.2.row])):∀(j i:Nat),i+j=v.ps.length→
 Tot (fun r=>(r=(0,[])∧∀p∈v.ps.drop i,TOk p.2)∨∃n:Int,n≠0∧r=(1,[.r [.int n]])) (types_node_l0 (lim T) cs v.pc (v.ps.length:Int) (i:Int))
 |0,i,h=>by
  rw[types_node_l0_eq];unfold types_node_b0
  obtain rfl:i=v.ps.length:=by omega
  exact .ite (fun h=>absurd h dec_ge) fun _=> .some (.inl ⟨rfl,fun p hp=>by simp at hp⟩)
 |j+1,i,h=>by
  rw[types_node_l0_eq];unfold types_node_b0
  have hi:i<v.ps.length:=by omega
  refine .pos (dec_lt hi) (.pos (ix_ok (by simpa using hi)) ?_)
  rw[v.pc_rows,Int.toNat_natCast,rowsAt_map _ _ _ hi,prt_row,wrap_nat (by omega)]
  refine .bind (hc _ (List.getElem_mem hi)) ?_
  rintro r ⟨n,rfl,hn⟩
  refine .ite (fun c=> .some (.inr ⟨n,by simpa using c,rfl⟩)) fun c=>(tnode_l cs v hN hc j (i+1) (by omega)).mono ?_
  rintro r (⟨rfl,hr⟩|hr)
  ·refine .inl ⟨rfl,fun p hp=> ?_⟩
   rw[List.drop_eq_getElem_cons hi]at hp
   rcases List.mem_cons.1 hp with rfl |hp
   ·exact hn (by simpa using c)
   ·exact hr p hp
  ·exact .inr hr
theorem tnode_tot (cs:C) (hS:cs.rows.length≤big) (v:Typ) (hN:v.bulk≤big):Tot (fun r=>∃n:Int,r=[[.int n]]∧(n=0→TOk v)) ((lim T).pc n_types_node [[cs],v.row]):=by
 have hrec:∀p∈v.ps,Tot (fun r=>∃n:Int,r=[[.int n]]∧(n=0→TOk p.2)) ((lim T).pc n_types_node [[cs],p.2.row]):=fun p hp=>by
  have:=Typ.size_lt hp
  have hb:=Typ.bulk_mem hp
  exact tnode_tot cs hS p.2 (by omega)
 have hlen:v.ps.length≤big:=by have:=v.bulk_len;omega
 have e:(lim T).pc n_types_node [[cs],v.row]=types_node (lim T) cs v.row:=types_node_pc cs v.row
 rw[e];unfold types_node
 refine .bind (own_tot cs hS v hlen) ?_
 rintro r ⟨n,rfl,hn⟩
 refine .ite (fun c=> .some ⟨n,rfl,fun h=>by subst h;simp at c⟩) fun c=> ?_
 have e5:at_ v.row 5=v.pc:=rfl
 rw[e5,v.pc_rows,List.length_map]
 refine .bind (tnode_l cs v hlen hrec _ 0 (Nat.zero_add _)) ?_
 rintro r (⟨rfl,hr⟩|⟨m,hm,rfl⟩)
 ·exact .some ⟨_,rfl,fun _=> .mk (hn (by simpa using c)) hr⟩
 ·exact .some ⟨_,rfl,fun h=>absurd h hm⟩
 termination_by SizeOf.sizeOf v
theorem right_tot (cs:C) (hS:cs.rows.length≤big) (v:Typ) (hN:v.bulk≤big):Tot (fun r=>∃n:Int,r=[[.int n]]∧(n=0→TOk v)) ((lim T).pc n_types_right [[cs],v.row]):=by
 have e:(lim T).pc n_types_right [[cs],v.row]=types_right (lim T) cs v.row:=types_right_pc cs v.row
 rw[e];unfold types_right
 refine .bind (tsize_tot v hN) ?_
 rintro r ⟨n,rfl⟩
 have fin:∀q:Bool,Tot (fun r=>∃n:Int,r=[[.int n]]∧(n=0→TOk v)) (if q=true then some [[C.int 2]]else ((lim T).pc n_types_node [[cs],v.row]).bind fun y4=>some [[C.int (at_ (rowsAt y4 0) 0).toI]]):=by
  intro q
  refine .ite (fun _=> .some ⟨2,rfl,fun h=>by cases h⟩) fun _=> .bind (tnode_tot cs hS v hN) ?_
  rintro r ⟨n,rfl,h⟩
  exact .some ⟨n,rfl,h⟩
 refine .ite (fun _=> .some ⟨2,rfl,fun h=>by cases h⟩) fun _=> .bind (tdeep_tot v hN) ?_
 rintro r ⟨n,rfl⟩
 exact fin _
end Go.Ev.Zzt
