/-
  A part of the proof: what the functions of the program compute.
-/
import Derived.Test.YtgiibefjiloafaaGreatDoorZTb
set_option linter.all false
set_option maxRecDepth 100000
namespace Go.Ev.Zzt
theorem itoa_tot {n:Int} (h:inI64 n):∃s:Bytes,(lim T).pc n_strconv_Itoa [[.int n]]=some [[.str s]]:=by
 refine ⟨Lib.itoa n,(lim_given T (rfl:T n_strconv_Itoa= .given _ _ itoaG) _).trans ?_⟩
 obtain ⟨h1,h2⟩:=h
 exact if_pos ⟨by omega,by omega⟩
def HasR (v:Val) (r:List PV):Prop:=∃(b:Bool) (c:C),r=[.r [.bool b], .r [c]]∧c.rows.length≤v.bulk
theorem fit_pos {t:Typ} {v:Val} (ht:TOk t) (hv:VOk v) (hQ:FitQ t v) (h:0<v.fs.length):0<t.ps.length∧(t.k=6→t.ps.length=v.fs.length):=by
 obtain ⟨q1,q2,q3⟩:=hQ
 refine ⟨?_,fun h6=>q2 (by omega)⟩
 cases hv with
 |mk a1 a2 a3 a4 a5 a6=>
  unfold unusedB at a4
  simp only[Bool.or_eq_false_iff]at a4
  have hs:scaK v.k=false:=by
   cases hk:scaK v.k with
   |false=>rfl
   |true=>
    have:=a4.2
    rw[hk,Bool.true_and]at this
    have:=of_decide_eq_false this
    omega
  have hk:¬((0≤v.k∧v.k≤5)∨v.k=11):=fun hh=>by
   have:scaK v.k=true:=by
    unfold scaK
    simp only[Bool.or_eq_true,Bool.and_eq_true,decide_eq_true_eq,beq_iff_eq]
    omega
   rw[this]at hs;cases hs
  cases ht with
  |mk b1 b2=>
   by_cases c6:v.k=6
   ·have:=q2 c6;omega
   ·by_cases c7:v.k=7
    ·exact q3 c7
    ·have:=b1 (by omega);omega
theorem has_l (cs:C) (s:List (Bytes×Typ)) (hS:ScOk cs s) (hd:∀d∈s,TOk d.2) (t:Typ) (v:Val) (ht:TOk t) (tb:t.bulk≤big) (hQ:FitQ t v) (hok:VOk v) (hv:v.bulk≤big)
 (hc:∀p∈v.fs,∀t':Typ,TOk t'→t'.bulk≤big→Tot (HasR p.2) ((lim T).ic types_has_i28_n [.r [cs], .r t'.row, .r p.2.row])):∀(j i:Nat),i+j=v.fs.length→
 Tot (fun r=>r=(0,[])∨∃c:C,r=(1,[.r [.bool false], .r [c]])∧c.rows.length≤v.bulk) (types_has_i28_l0 (lim T) cs v.fc (v.fs.length:Int) (i:Int) t.row)
 |0,i,h=>by
  rw[types_has_i28_l0_eq];unfold types_has_i28_b0
  obtain rfl:i=v.fs.length:=by omega
  exact .ite (fun h=>absurd h dec_ge) fun _=> .some (.inl rfl)
 |j+1,i,h=>by
  rw[types_has_i28_l0_eq];unfold types_has_i28_b0
  have hi:i<v.fs.length:=by omega
  obtain ⟨hp,h6⟩:=fit_pos ht hok hQ (by omega)
  obtain ⟨_,hfl,hfs⟩:=bulks_len' v hv
  have hm:=List.getElem_mem hi
  have hvl:v.fc.rows.length=v.fs.length:=by rw[v.fc_rows,List.length_map]
  have e5:at_ t.row 5=t.pc:=rfl
  have e0:(at_ t.row 0).toI=t.k:=rfl
  have hpl:t.pc.rows.length=t.ps.length:=by rw[t.pc_rows,List.length_map]
  have hra:rowsAt v.fc.rows i=fldRow v.fs[i]:=by rw[v.fc_rows];exact rowsAt_map _ _ _ hi
  have hpr:∀q (hq:q<t.ps.length),rowsAt t.pc.rows q=prtRow t.ps[q]:=fun q hq=>by rw[t.pc_rows];exact rowsAt_map _ _ _ hq
  have hpb:∀q (hq:q<t.ps.length),TOk t.ps[q].2∧t.ps[q].2.bulk≤big:=fun q hq=>by
   have:=Typ.bulk_mem (List.getElem_mem hq)
   cases ht with |mk _ h2=>exact ⟨h2 _ (List.getElem_mem hq),by omega⟩
  have h0:=hpr 0 hp
  refine .pos (dec_lt hi) (.pos (ix_ok (by rw[hvl];exact hi)) ?_)
  rw[e5,Int.toNat_natCast,hra]
  refine .pos ⟨by omega,by omega⟩ ?_
  refine .bind (R:=fun r=>∃(st:Bytes) (t':Typ),r=(0,[.r [cs], .r [.str st], .r [v.fc], .r [.int (v.fs.length:Int)], .r [.int (i:Int)], .r t.row, .r (fldRow v.fs[i]), .r t'.row])∧TOk t'∧t'.bulk≤big) ?_ ?_
  ·rw[e0]
   refine .ite (fun c=> ?_) fun _=> .ite (fun c=> ?_) fun _=> .ite (fun c=> ?_) fun _=> ?_
   ·have hl6:=h6 (by simpa using c)
    refine .pos ⟨by omega,by omega⟩ ?_
    have hi':i<t.ps.length:=by omega
    rw[hpr i hi',prt_row]
    exact .some ⟨_,t.ps[i].2,rfl,hpb i hi'⟩
   ·refine .bind (part_tot t tb _) ?_
    rintro r ⟨t',b,rfl,hb,ho⟩
    exact .some ⟨_,t',rfl,ho ht,hb⟩
   ·obtain ⟨st,e⟩:=itoa_tot (n:=(i:Int)) ⟨by omega,by unfold big at hfl;omega⟩
    refine .eqbind e ?_
    rw[h0,prt_row]
    exact .some ⟨st,t.ps[0].2,rfl,hpb 0 hp⟩
   ·rw[h0,prt_row]
    exact .some ⟨_,t.ps[0].2,rfl,hpb 0 hp⟩
  rintro r ⟨st,t',rfl,ho,hb⟩
  simp only[gC_s,gC_z,gI_s,gI_z,gR_s,gR_z,gS_s,gS_z,fld_val]
  refine .bind (hc _ hm t' ho hb) ?_
  rintro r ⟨b,c,rfl,hcl⟩
  have hpb2:=(hfs _ hm).2
  simp only[gB_z,gC_s,gC_z]
  refine .ite (fun _=> .pos (by unfold big at hv;simp;omega) (.some (.inr ⟨_,rfl,by rw[appC_rows];simp;omega⟩))) fun _=> ?_
  rw[wrap_nat (by omega)]
  exact has_l cs s hS hd t v ht tb hQ hok hv hc j (i+1) (by omega)
theorem has_tot (cs:C) (s:List (Bytes×Typ)) (hS:ScOk cs s) (hd:∀d∈s,TOk d.2) (v:Val) (hok:VOk v) (hv:v.bulk≤big) (t:Typ) (ht:TOk t) (tb:t.bulk≤big):Tot (HasR v) ((lim T).ic types_has_i28_n [.r [cs], .r t.row, .r v.row]):=by
 have hrec:∀p∈v.fs,∀t':Typ,TOk t'→t'.bulk≤big→Tot (HasR p.2) ((lim T).ic types_has_i28_n [.r [cs], .r t'.row, .r p.2.row]):=fun p hp t' ho hb=>by
  have:=Val.size_lt hp
  have hpb:=Val.bulk_mem hp
  exact has_tot cs s hS hd p.2 (by cases hok with |mk _ _ _ _ _ h=>exact h p hp) (by omega) t' ho hb
 have e:(lim T).ic types_has_i28_n [.r [cs], .r t.row, .r v.row]=types_has_i28 (lim T) cs t.row v.row:=types_has_i28_ic cs t.row v.row
 rw[e];unfold types_has_i28
 refine .bind (resolve_tot cs s hS t tb) ?_
 rintro r ⟨e,t',rfl,hb',ho'⟩
 have ht':=ho' ht hd
 rw[rowsAt_zero]
 refine .bind (fits_tot t' v hb' hv hok) ?_
 rintro r ⟨b,rfl,hQ⟩
 refine .ite (fun _=> .some ⟨false, .nils,rfl,Nat.zero_le _⟩) fun hbt=> ?_
 have hQ':=hQ (by cases b;exact absurd rfl hbt;rfl)
 show Tot _ ((types_has_i28_l0 (lim T) cs v.fc (v.fc.rows.length:Int) 0 t'.row).bind _)
 rw[show v.fc.rows.length=v.fs.length by rw[v.fc_rows,List.length_map]]
 refine .bind (has_l cs s hS hd t' v ht' hb' hQ' hok hv hrec _ 0 (Nat.zero_add _)) ?_
 rintro r (rfl |⟨c,rfl,hc⟩)
 ·exact .some ⟨true, .nils,rfl,Nat.zero_le _⟩
 ·exact .some ⟨false,c,rfl,hc⟩
 termination_by SizeOf.sizeOf v
theorem rev_l (n:Nat) (hn:n≤big):∀(m:Nat) (i j:Int) (c:C),c.rows.length=n→0≤i→j<(n:Int)→j - i≤m→
 Tot (fun r=>∃c':C,r=(0,[.r [c', .int (n:Int)]])∧c'.rows.length=n) (slices_Reverse_string_i29_l0 (lim T) i j [c, .int (n:Int)])
 |0,i,j,c,hc,h0,hj,hm=>by
  rw[slices_Reverse_string_i29_l0_eq];unfold slices_Reverse_string_i29_b0
  exact .ite (fun h=>absurd (of_decide_eq_true h) (by omega)) fun _=> .some ⟨c,rfl,hc⟩
 |m+1,i,j,c,hc,h0,hj,hm=>by
  rw[slices_Reverse_string_i29_l0_eq];unfold slices_Reverse_string_i29_b0
  unfold big at hn
  refine .ite (fun h=> ?_) fun _=> .some ⟨c,rfl,hc⟩
  have hij:=of_decide_eq_true h
  have a0:at_ [c, .int (n:Int)] 0=c:=rfl
  have a1:(at_ [c, .int (n:Int)] 1).toI.toNat=n:=rfl
  rw[a0,a1]
  refine .pos ⟨by omega,by omega⟩ (.pos ⟨by omega,by omega⟩ (.pos ⟨by omega,by omega⟩ (.pos ⟨by omega,by omega⟩ (.pos ⟨by omega,by omega⟩ (.pos ⟨by omega,by omega⟩ ?_)))))
  refine .pos ⟨by omega,by rw[List.length_set];omega⟩ (.pos ⟨by rw[List.length_set];omega,by rw[List.length_set];omega⟩ ?_)
  rw[wrapS (show 0≤i+1 by omega) (show i+1≤1000000000000 by omega),wrapS (show 0≤j - 1 by omega) (show j - 1≤1000000000000 by omega)]
  exact rev_l n (by unfold big;omega) m (i+1) (j - 1) _ (by rw[rows_sl,List.length_set,List.length_set];exact hc) (by omega) (by omega) (by omega)
theorem rev_tot (c:C) (n:Nat) (hc:c.rows.length=n) (hn:n≤big):Tot (fun r=>∃c':C,r=[.r [c', .int (n:Int)]]∧c'.rows.length=n) ((lim T).ic slices_Reverse_string_i29_n [.r [c, .int (n:Int)]]):=by
 have e:(lim T).ic slices_Reverse_string_i29_n [.r [c, .int (n:Int)]]=slices_Reverse_string_i29 (lim T) [c, .int (n:Int)]:=slices_Reverse_string_i29_ic [c, .int (n:Int)]
 rw[e];unfold slices_Reverse_string_i29
 unfold big at hn
 have a0:at_ [c, .int (n:Int)] 0=c:=rfl
 have a1:(at_ [c, .int (n:Int)] 1).toI.toNat=n:=rfl
 have hw:Go.IntKind.wrap .i64 ((c.rows.length:Int) - 1)=(n:Int) - 1:=by rw[hc];exact wrap_i64 ⟨by omega,by omega⟩
 rw[a0,a1,hw]
 refine .bind (rev_l n (by unfold big;omega) n 0 ((n:Int) - 1) c hc (by omega) (by omega) (by omega)) ?_
 rintro r ⟨c',rfl,hc'⟩
 exact .some ⟨c',rfl,hc'⟩
theorem Has_tot (cs:C) (s:List (Bytes×Typ)) (hS:ScOk cs s) (t:Typ) (tb:t.bulk≤big) (v:Val) (hv:v.bulk≤big):∃(b:Bool) (c:C) (e:Int),(lim T).pc n_types_Has [[cs],t.row,v.row]=some [[.bool b],[c],[.int e]]:=by
 have:Tot (fun r=>∃(b:Bool) (c:C) (e:Int),r=[[.bool b],[c],[.int e]]) ((lim T).pc n_types_Has [[cs],t.row,v.row]):=by
  have e:(lim T).pc n_types_Has [[cs],t.row,v.row]=types_Has (lim T) cs t.row v.row:=types_Has_pc cs t.row v.row
  rw[e];unfold types_Has
  refine .bind (Right_tot cs s hS t tb) ?_
  rintro r ⟨n,rfl,hn⟩
  refine .ite (fun _=> .some ⟨_,_,_,rfl⟩) fun c=> ?_
  obtain ⟨hd,ht⟩:=hn (by simpa using c)
  obtain ⟨m,hm,hok⟩:=vcheck_tot v hv
  refine .eqbind hm (.ite (fun _=> .some ⟨_,_,_,rfl⟩) fun c2=> ?_)
  have hok':=hok (by simpa using c2)
  refine .bind (has_tot cs s hS hd v hok' hv t ht tb) ?_
  rintro r ⟨b,c3,rfl,hl⟩
  simp only[gC_s,gC_z,gB_z]
  refine .bind (rev_tot c3 _ rfl (by omega)) ?_
  rintro r ⟨c',rfl,hc'⟩
  have a1:(at_ (gR 0 [PV.r [c',C.int (c3.rows.length:Int)]]) 1).toI.toNat=c3.rows.length:=rfl
  have a0:gC 0 [PV.r [c',C.int (c3.rows.length:Int)]]=c':=rfl
  rw[a1,a0]
  exact .pos (by omega) (.some ⟨_,_,_,rfl⟩)
 obtain ⟨r,h,b,c,e,rfl⟩:=this
 exact ⟨b,c,e,h⟩
theorem viewed_true:(lim T).pc n_claplaw3_viewed []=some [[.bool true]]:=(lim_pc T).2 ⟨80,by kernel_rfl⟩
theorem digit_has:(lim T).pc n_typing_Has [[.nils],[.int 2, .str [], .int 0, .int 9, .str [], .nils],[.int 2, .int 3, .str [], .nils]]=some [[.bool true]]:=(lim_pc T).2 ⟨80,by kernel_rfl⟩
theorem law (cs:C) (s:List (Bytes×Typ)) (hS:ScOk cs s) (t:Typ) (tb:t.bulk≤big) (v:Val) (hv:v.bulk≤big):(lim T).pc n_claplaw3_TypingHas [[cs],t.row,v.row]=some [[.bool true]]:=by
 have e:(lim T).pc n_claplaw3_TypingHas [[cs],t.row,v.row]=claplaw3_TypingHas (lim T) cs t.row v.row:=claplaw3_TypingHas_pc cs t.row v.row
 rw[e];unfold claplaw3_TypingHas
 obtain ⟨b,c,er,hH⟩:=Has_tot cs s hS t tb v hv
 obtain ⟨m,hm,_⟩:=vcheck_tot v hv
 have hT:(lim T).pc n_typing_Has [[cs],t.row,v.row]=some [[.bool (m==0&&(b&&er==0))]]:=by
  have e:(lim T).pc n_typing_Has [[cs],t.row,v.row]=typing_Has (lim T) cs t.row v.row:=typing_Has_pc cs t.row v.row
  rw[e];unfold typing_Has
  rw[hm]
  by_cases h0:m=0
  ·cases b<;>simp[h0,hH]
  ·have:(m==0)=false:=by simp[h0]
   simp[h0,this]
 have d1:(lim T).pc n_claplaw3_digit []=some [[.int 2, .str [], .int 0, .int 9, .str [], .nils]]:=by rw[claplaw3_digit_pc];rfl
 have d2:(lim T).pc n_claplaw3_num [[.int 3]]=some [[.int 2, .int 3, .str [], .nils]]:=by rw[claplaw3_num_pc];rfl
 rw[viewed_true,d1,d2]
 simp only[Option.bind_some,rowsAt_zero,at_zero,toB_bool,Bool.not_true,Bool.false_eq_true,if_false,digit_has,gB_s,gB_z,gC_s,gC_z,isDp_dp,if_true,dpRow_dp,hH,hT,hm,toI_int,rowsAt_succ]
 by_cases h0:m=0
 ·cases b<;>simp[h0]
 ·have:(m==0)=false:=by simp[h0]
  simp[this]
end Go.Ev.Zzt
