/-
  A part of the proof: what the functions of the program compute.
-/
import Derived.Test.YtgiibefjiloafaaGreatDoorZTa
set_option linter.all false
set_option maxRecDepth 100000
namespace Go.Ev.Zzt
structure ScOk (cs:C) (s:List (Bytes×Typ)):Prop where
 rows:cs.rows=s.map prtRow
 len:s.length≤big
 bulk:∀d∈s,d.2.bulk≤big
theorem ScOk.rl {cs:C} {s:List (Bytes×Typ)} (h:ScOk cs s):cs.rows.length=s.length:=by rw[h.rows,List.length_map]
theorem ScOk.at {cs:C} {s:List (Bytes×Typ)} (h:ScOk cs s) {i:Nat} (hi:i<s.length):rowsAt cs.rows i=prtRow s[i]:=by rw[h.rows];exact rowsAt_map _ _ _ hi
def tz:Typ:= .mk 0 [] 0 0 [] true []
theorem tz_ok:TOk tz:= .mk (fun h=>by rcases h with h |h<;>cases h) fun p hp=>by simp[tz,Typ.ps]at hp
theorem tz_bulk:tz.bulk≤big:=by decide
def Rs (s:List (Bytes×Typ)) (t t':Typ):Prop:=t'.bulk≤big∧(TOk t→(∀d∈s,TOk d.2)→TOk t')
theorem resolve_l (cs:C) (s:List (Bytes×Typ)) (hS:ScOk cs s) (m:Int) (hm:m≤1000000000000) (z:Row):∀(j:Nat) (i:Int) (t:Typ),0≤i→m≤i+j→t.bulk≤big→
 Tot (fun r=>r=(0,[.r z])∨∃(e:Int) (t':Typ),r=(1,[.r [.int e], .r t'.row])∧Rs s t t') (types_resolve_l0 (lim T) cs m i t.row z)
 |0,i,t,h0,h,hb=>by
  rw[types_resolve_l0_eq];unfold types_resolve_b0
  have:¬i<m:=by omega
  exact .ite (fun c=>absurd (of_decide_eq_true c) this) fun _=> .some (.inl rfl)
 |j+1,i,t,h0,h,hb=>by
  rw[types_resolve_l0_eq];unfold types_resolve_b0
  refine .ite (fun c=> ?_) fun _=> .some (.inl rfl)
  have hlt:=of_decide_eq_true c
  refine .ite (fun _=> .some (.inr ⟨0,t,rfl,hb,fun h _=>h⟩)) fun _=> ?_
  refine .bind (find_tot cs (by rw[hS.rl];exact hS.len) t.name) ?_
  rintro r (rfl |⟨n,rfl,hn⟩)
  ·exact .some (.inr ⟨15,tz,rfl,tz_bulk,fun _ _=>tz_ok⟩)
  ·simp only[rowsAt_zero,at_zero,toI_int,Int.toNat_natCast]
   refine .ite (fun _=> .some (.inr ⟨15,tz,rfl,tz_bulk,fun _ _=>tz_ok⟩)) fun _=> ?_
   refine .pos ⟨by omega,by omega⟩ ?_
   have hn':n<s.length:=by rw[hS.rl]at hn;exact hn
   rw[hS.at hn',prt_row,wrapS (show 0≤i+1 by omega) (show i+1≤1000000000000 by omega)]
   have hmem:=List.getElem_mem hn'
   refine (resolve_l cs s hS m hm z j (i+1) s[n].2 (by omega) (by omega) (hS.bulk _ hmem)).mono ?_
   rintro r (rfl |⟨e,t',rfl,h1,h2⟩)
   ·exact .inl rfl
   ·exact .inr ⟨e,t',rfl,h1,fun _ hd=>h2 (hd _ hmem) hd⟩
theorem resolve_tot (cs:C) (s:List (Bytes×Typ)) (hS:ScOk cs s) (t:Typ) (hb:t.bulk≤big):Tot (fun r=>∃(e:Int) (t':Typ),r=[t'.row,[.int e]]∧Rs s t t') ((lim T).pc n_types_resolve [[cs],t.row]):=by
 have e:(lim T).pc n_types_resolve [[cs],t.row]=types_resolve (lim T) cs t.row:=types_resolve_pc cs t.row
 rw[e];unfold types_resolve
 have hl:=hS.len
 unfold big at hl
 have hw:Go.IntKind.wrap .i64 ((cs.rows.length:Int)+1)=(s.length:Int)+1:=by rw[hS.rl];exact wrapS (by omega) (by omega)
 rw[hw]
 refine .bind (resolve_l cs s hS _ (by omega) _ (s.length+1) 0 t (by omega) (by omega) hb) ?_
 rintro r (rfl |⟨e,t',rfl,h⟩)
 ·exact .some ⟨10,tz,rfl,tz_bulk,fun _ _=>tz_ok⟩
 ·exact .some ⟨e,t',rfl,h⟩
theorem check0 (cs:C) (s:List (Bytes×Typ)) (hS:ScOk cs s):∀(j i:Nat),i+j=s.length→
 Tot (fun r=>r=(0,[.r [cs]])∨∃n:Int,n≠0∧r=(1,[.r [.int n]])) (types_Check_l0 (lim T) cs cs (s.length:Int) (i:Int))
 |0,i,h=>by
  rw[types_Check_l0_eq];unfold types_Check_b0
  obtain rfl:i=s.length:=by omega
  exact .ite (fun h=>absurd h dec_ge) fun _=> .some (.inl rfl)
 |j+1,i,h=>by
  rw[types_Check_l0_eq];unfold types_Check_b0
  have hi:i<s.length:=by omega
  have hl:=hS.len
  refine .pos (dec_lt hi) (.pos (ix_ok (by rw[hS.rl];exact hi)) ?_)
  refine .eqbind (name_spec _) (.ite (fun _=> .some (.inr ⟨15,by decide,rfl⟩)) fun _=> ?_)
  refine .bind (find_tot cs (by rw[hS.rl];exact hl) _) ?_
  rw[wrap_nat (by omega)]
  have ih:=check0 cs s hS j (i+1) (by omega)
  rintro r (rfl |⟨n,rfl,hn⟩)
  ·exact .ite (fun _=> .some (.inr ⟨5,by decide,rfl⟩)) fun _=>ih
  ·exact .ite (fun _=> .some (.inr ⟨5,by decide,rfl⟩)) fun _=>ih
theorem check1 (cs:C) (s:List (Bytes×Typ)) (hS:ScOk cs s):∀(j i:Nat),i+j=s.length→
 Tot (fun r=>(r=(0,[.r [cs]])∧∀d∈s.drop i,TOk d.2)∨∃n:Int,n≠0∧r=(1,[.r [.int n]])) (types_Check_l1 (lim T) cs cs (s.length:Int) (i:Int))
 |0,i,h=>by
  rw[types_Check_l1_eq];unfold types_Check_b1
  obtain rfl:i=s.length:=by omega
  exact .ite (fun h=>absurd h dec_ge) fun _=> .some (.inl ⟨rfl,fun p hp=>by simp at hp⟩)
 |j+1,i,h=>by
  rw[types_Check_l1_eq];unfold types_Check_b1
  have hi:i<s.length:=by omega
  have hl:=hS.len
  refine .pos (dec_lt hi) (.pos (ix_ok (by rw[hS.rl];exact hi)) ?_)
  rw[Int.toNat_natCast,hS.at hi,prt_row,wrap_nat (by omega)]
  refine .bind (right_tot cs (by rw[hS.rl];exact hl) s[i].2 (hS.bulk _ (List.getElem_mem hi))) ?_
  rintro r ⟨n,rfl,hn⟩
  refine .ite (fun c=> .some (.inr ⟨n,by simpa using c,rfl⟩)) fun c=>(check1 cs s hS j (i+1) (by omega)).mono ?_
  rintro r (⟨rfl,hr⟩|hr)
  ·refine .inl ⟨rfl,fun p hp=> ?_⟩
   rw[List.drop_eq_getElem_cons hi]at hp
   rcases List.mem_cons.1 hp with rfl |hp
   ·exact hn (by simpa using c)
   ·exact hr p hp
  ·exact .inr hr
theorem check2 (cs:C) (s:List (Bytes×Typ)) (hS:ScOk cs s):∀(j i:Nat),i+j=s.length→
 Tot (fun r=>r=(0,[])∨∃n:Int,n≠0∧r=(1,[.r [.int n]])) (types_Check_l2 (lim T) cs cs (s.length:Int) (i:Int))
 |0,i,h=>by
  rw[types_Check_l2_eq];unfold types_Check_b2
  obtain rfl:i=s.length:=by omega
  exact .ite (fun h=>absurd h dec_ge) fun _=> .some (.inl rfl)
 |j+1,i,h=>by
  rw[types_Check_l2_eq];unfold types_Check_b2
  have hi:i<s.length:=by omega
  have hl:=hS.len
  refine .pos (dec_lt hi) (.pos (ix_ok (by rw[hS.rl];exact hi)) ?_)
  rw[Int.toNat_natCast,hS.at hi,prt_row,wrap_nat (by omega)]
  refine .bind (resolve_tot cs s hS s[i].2 (hS.bulk _ (List.getElem_mem hi))) ?_
  rintro r ⟨n,t',rfl,_⟩
  exact .ite (fun c=> .some (.inr ⟨n,by simpa using c,rfl⟩)) fun c=>check2 cs s hS j (i+1) (by omega)
theorem check_tot (cs:C) (s:List (Bytes×Typ)) (hS:ScOk cs s):Tot (fun r=>∃n:Int,r=[[.int n]]∧(n=0→∀d∈s,TOk d.2)) ((lim T).pc n_types_Check [[cs]]):=by
 rw[types_Check_pc];unfold types_Check
 refine .ite (fun _=> .some ⟨2,rfl,fun h=>by cases h⟩) fun _=> ?_
 rw[hS.rl]
 refine .bind (check0 cs s hS _ 0 (Nat.zero_add _)) ?_
 rintro r (rfl |⟨n,hn,rfl⟩)
 ·show Tot _ ((types_Check_l1 (lim T) cs cs (cs.rows.length:Int) 0).bind _)
  rw[hS.rl]
  refine .bind (check1 cs s hS _ 0 (Nat.zero_add _)) ?_
  rintro r (⟨rfl,hr⟩|⟨n,hn,rfl⟩)
  ·show Tot _ ((types_Check_l2 (lim T) cs cs (cs.rows.length:Int) 0).bind _)
   rw[hS.rl]
   refine .bind (check2 cs s hS _ 0 (Nat.zero_add _)) ?_
   rintro r (rfl |⟨n,hn,rfl⟩)
   ·exact .some ⟨_,rfl,fun _=>hr⟩
   ·exact .some ⟨n,rfl,fun h=>absurd h hn⟩
  ·exact .some ⟨n,rfl,fun h=>absurd h hn⟩
 ·exact .some ⟨n,rfl,fun h=>absurd h hn⟩
theorem Right_tot (cs:C) (s:List (Bytes×Typ)) (hS:ScOk cs s) (t:Typ) (hb:t.bulk≤big):Tot (fun r=>∃n:Int,r=[[.int n]]∧(n=0→(∀d∈s,TOk d.2)∧TOk t)) ((lim T).pc n_types_Right [[cs],t.row]):=by
 have e:(lim T).pc n_types_Right [[cs],t.row]=types_Right (lim T) cs t.row:=types_Right_pc cs t.row
 rw[e];unfold types_Right
 refine .bind (check_tot cs s hS) ?_
 rintro r ⟨n,rfl,hn⟩
 refine .ite (fun c=> .some ⟨n,rfl,fun h=>by subst h;simp at c⟩) fun c=> ?_
 refine .bind (right_tot cs (by rw[hS.rl];exact hS.len) t hb) ?_
 rintro r ⟨m,rfl,hm⟩
 exact .some ⟨m,rfl,fun h=>⟨hn (by simpa using c),hm h⟩⟩
theorem clone_parts (v:Typ) (hN:v.ps.length≤big):(lim T).ic slices_Clone_api_Part_i23_n [.r [v.pc]]=some [.r [v.pc]]:=by
 rw[slices_Clone_api_Part_i23_ic];unfold slices_Clone_api_Part_i23
 have hl:v.pc.rows.length=v.ps.length:=by rw[v.pc_rows,List.length_map]
 by_cases h:v.pc.isNil=true
 ·have:v.pc= .nils:=by cases hq:v.pc<;>rw[hq]at h<;>first |rfl |simp[C.isNil]at h
  rw[if_pos h,this]
 ·have hg:(([]:List Row).length+v.pc.rows.length)*96≤140737488355328:=by rw[hl];unfold big at hN;simp;omega
  rw[if_neg h,if_pos hg]
  have:appC (.sl ([]:List Row)) v.pc.rows=v.pc:=by
   rw[v.pc_eq]at h⊢
   cases hb:v.nil<;>cases hp:v.ps<;>simp[hb,hp,slC,appC,C.rows,C.isNil]at h⊢
  rw[this]
theorem putPrt (p:Bytes×Typ):put (prtRow p) 1 6 p.2.row 0 7=prtRow p:=rfl
theorem tcopy_l (v:Typ) (x y z:Int) (s u:Bytes) (w:Row) (hN:v.ps.length≤big) (hc:∀p∈v.ps,(lim T).ic types_Copy_i24_n [.r p.2.row]=some [.r p.2.row]):∀(j i:Nat),i+j=v.ps.length→
 ∀c:C,c.rows=v.ps.map prtRow→(c=v.pc∨c= .sl (v.ps.map prtRow))→∃c':C,types_Copy_i24_l0 (lim T) (v.ps.length:Int) (i:Int) x s y z u w c=some (0,[.r [.int x], .r [.str s], .r [.int y], .r [.int z], .r [.str u], .r w, .r [c']])∧(c'=v.pc∨c'= .sl (v.ps.map prtRow))∧(v.ps=[]→c'=c)
 |0,i,h,c,hr,hcc=>by
  rw[types_Copy_i24_l0_eq];unfold types_Copy_i24_b0
  obtain rfl:i=v.ps.length:=by omega
  exact ⟨c,by simp,hcc,fun _=>rfl⟩
 |j+1,i,h,c,hr,hcc=>by
  rw[types_Copy_i24_l0_eq];unfold types_Copy_i24_b0
  have hi:i<v.ps.length:=by omega
  have hl:c.rows.length=v.ps.length:=by rw[hr,List.length_map]
  have hra:rowsAt c.rows i=prtRow v.ps[i]:=by rw[hr];exact rowsAt_map _ _ _ hi
  have hset:c.rows.set i (prtRow v.ps[i])=v.ps.map prtRow:=by
   rw[hr]
   have:prtRow v.ps[i]=(v.ps.map prtRow)[i]'(by simpa using hi):=by simp
   rw[this,List.set_getElem_self]
  obtain ⟨c',e1,e2,e3⟩:=tcopy_l v x y z s u w hN hc j (i+1) (by omega) (.sl (v.ps.map prtRow)) rfl (.inr rfl)
  refine ⟨c', ?_,e2,fun h0=>by rw[h0]at hi;simp at hi⟩
  have hcc':=hc _ (List.getElem_mem hi)
  simp only[Int.natCast_nonneg,Int.ofNat_lt,hi,hl,and_self,decide_true,if_true,Int.toNat_natCast,hra,prt_row,hcc',Option.bind_some,gR_z,putPrt,hset,wrap_nat (show i≤big by omega),e1]
theorem tcopy_spec (v:Typ) (hN:v.bulk≤big):(lim T).ic types_Copy_i24_n [.r v.row]=some [.r v.row]:=by
 have hrec:∀p∈v.ps,(lim T).ic types_Copy_i24_n [.r p.2.row]=some [.r p.2.row]:=fun p hp=>by
  have:=Typ.size_lt hp
  have hb:=Typ.bulk_mem hp
  exact tcopy_spec p.2 (by omega)
 have hlen:v.ps.length≤big:=by have:=v.bulk_len;omega
 have e:(lim T).ic types_Copy_i24_n [.r v.row]=types_Copy_i24 (lim T) v.row:=types_Copy_i24_ic v.row
 rw[e];unfold types_Copy_i24
 have e0:(at_ v.row 0).toI=v.k:=rfl
 have e1:(at_ v.row 1).toS=v.name:=rfl
 have e2:(at_ v.row 2).toI=v.low:=rfl
 have e3:(at_ v.row 3).toI=v.high:=rfl
 have e4:(at_ v.row 4).toS=v.pat:=rfl
 have e5:at_ v.row 5=v.pc:=rfl
 have hl:v.pc.rows.length=v.ps.length:=by rw[v.pc_rows,List.length_map]
 obtain ⟨c',f1,f2,f3⟩:=tcopy_l v v.k v.low v.high v.name v.pat [.int 0, .str [], .int 0, .int 0, .str [], .nils] hlen hrec _ 0 (Nat.zero_add _) v.pc v.pc_rows (.inl rfl)
 rw[show ((0:Nat):Int)=0 from rfl]at f1
 have hc':c'=v.pc:=by
  rcases f2 with h |h
  ·exact h
  ·cases hp:v.ps with
   |nil=>exact f3 hp
   |cons a r=>rw[h,v.pc_eq,hp];cases v.nil<;>rfl
 rw[e5,clone_parts v hlen]
 simp only[Option.bind_some,gC_z,hl,e0,e1,e2,e3,e4,f1,gI_s,gI_z,gS_s,gS_z,gC_s,hc']
 rfl
 termination_by SizeOf.sizeOf v
theorem part_tot (v:Typ) (hN:v.bulk≤big) (nm:Bytes):Tot (fun r=>∃(t':Typ) (b:Bool),r=[t'.row,[.bool b]]∧t'.bulk≤big∧(TOk v→TOk t')) ((lim T).pc n_types_Part [v.row,[.str nm]]):=by
 have e:(lim T).pc n_types_Part [v.row,[.str nm]]=types_Part (lim T) v.row nm:=types_Part_pc v.row nm
 rw[e];unfold types_Part
 have hlen:v.ps.length≤big:=by have:=v.bulk_len;omega
 have e5:at_ v.row 5=v.pc:=rfl
 have hl:v.pc.rows.length=v.ps.length:=by rw[v.pc_rows,List.length_map]
 rw[e5]
 refine .bind (ixf_prt v.pc _ (by rw[hl];exact hlen) fun i hi=> ?_) ?_
 ·show Tot _ ((lim T).pc n_types_Part_1 [rowsAt v.pc.rows i,[.dp [.str nm]]])
  rw[types_Part_1_pc];unfold types_Part_1
  exact .pos rfl (.some ⟨_,rfl⟩)
 rintro r (rfl |⟨n,rfl,hn⟩)
 ·exact .some ⟨tz,false,rfl,tz_bulk,fun _=>tz_ok⟩
 ·have hn':n<v.ps.length:=by omega
  have hra:rowsAt v.pc.rows n=prtRow v.ps[n]:=by rw[v.pc_rows];exact rowsAt_map _ _ _ hn'
  have hmem:=List.getElem_mem hn'
  have hb:=Typ.bulk_mem hmem
  simp only[rowsAt_zero,at_zero,toI_int,Int.toNat_natCast]
  refine .ite (fun c=>absurd (of_decide_eq_true c) (by omega)) fun _=> .pos ⟨by omega,by omega⟩ ?_
  rw[hra,prt_row]
  refine .eqbind (tcopy_spec _ (by omega)) ?_
  exact .some ⟨v.ps[n].2,true,rfl,by omega,fun h=>by cases h with |mk _ h2=>exact h2 _ hmem⟩
theorem eqf_l (c d:C) (hN:c.rows.length≤big) (hd:d.rows.length=c.rows.length):∀(j i:Nat),i+j=c.rows.length→
 Tot (fun r=>r=(0,[])∨r=(1,[.r [.bool false]])) (slices_EqualFunc_api_Field_l0 (lim T) d (.fn n_types_fits_1 []) c (c.rows.length:Int) (i:Int))
 |0,i,h=>by
  rw[slices_EqualFunc_api_Field_l0_eq];unfold slices_EqualFunc_api_Field_b0
  obtain rfl:i=c.rows.length:=by omega
  exact .ite (fun h=>absurd h dec_ge) fun _=> .some (.inl rfl)
 |j+1,i,h=>by
  rw[slices_EqualFunc_api_Field_l0_eq];unfold slices_EqualFunc_api_Field_b0
  have hi:i<c.rows.length:=by omega
  refine .pos (dec_lt hi) (.pos (ix_ok hi) (.pos (ix_ok (by omega)) ?_))
  have hcall:∀x y:Row,callC (lim T) (.fn n_types_fits_1 []) [x,y]=types_fits_1 (lim T) x y:=fun x y=>types_fits_1_pc x y
  rw[hcall,wrap_nat (show i≤big by omega)]
  exact .ite (fun _=> .some (.inr rfl)) fun _=>eqf_l c d hN hd j (i+1) (by omega)
theorem eqf_tot (c d:C) (hN:c.rows.length≤big):Tot (fun r=>∃b:Bool,r=[[.bool b]]∧(b=true→d.rows.length=c.rows.length)) ((lim T).pc n_slices_EqualFunc_api_Field [[c],[d],[.fn n_types_fits_1 []]]):=by
 rw[slices_EqualFunc_api_Field_pc];unfold slices_EqualFunc_api_Field
 refine .ite (fun _=> .some ⟨false,rfl,fun h=>by cases h⟩) fun h=> ?_
 have hd:d.rows.length=c.rows.length:=by
  have:(c.rows.length:Int)=(d.rows.length:Int):=by simpa using h
  omega
 refine .bind (eqf_l c d hN hd _ 0 (Nat.zero_add _)) ?_
 rintro r (rfl |rfl)
 ·exact .some ⟨true,rfl,fun _=>hd⟩
 ·exact .some ⟨false,rfl,fun h=>by cases h⟩
theorem bulks_len' (v:Val) (hv:v.bulk≤big):v.s.length≤big∧v.fs.length≤big∧∀p∈v.fs,p.1.length≤big∧p.2.bulk<v.bulk:=by
 refine ⟨by have:=v.bulk_eq;omega,by have:=v.bulk_len;omega,fun p hp=> ?_⟩
 have:=Val.bulk_mem hp
 exact ⟨by omega,by omega⟩
def FitQ (t:Typ) (v:Val):Prop:=t.k=v.k∧(v.k=6→t.ps.length=v.fs.length)∧(v.k=7→0<t.ps.length)
theorem fits_tot (t:Typ) (v:Val) (ht:t.bulk≤big) (hv:v.bulk≤big) (hok:VOk v):Tot (fun r=>∃b:Bool,r=[[.bool b]]∧(b=true→FitQ t v)) ((lim T).pc n_types_fits [t.row,v.row]):=by
 have e:(lim T).pc n_types_fits [t.row,v.row]=types_fits (lim T) t.row v.row:=types_fits_pc t.row v.row
 rw[e];unfold types_fits
 obtain ⟨hs,hf,hfs⟩:=bulks_len' v hv
 have htl:t.ps.length≤big:=by have:=t.bulk_len;omega
 have e0:(at_ t.row 0).toI=t.k:=rfl
 have e0':(at_ v.row 0).toI=v.k:=rfl
 have hpl:t.pc.rows.length=t.ps.length:=by rw[t.pc_rows,List.length_map]
 have hfl:v.fc.rows.length=v.fs.length:=by rw[v.fc_rows,List.length_map]
 rw[e0,e0']
 refine .ite (fun _=> .some ⟨false,rfl,fun h=>by cases h⟩) fun hk=> ?_
 have hk':t.k=v.k:=by simpa using hk
 refine .bind (R:=fun r=>∃q:Bool,r=(0,[.r [.dp t.row], .r [.dp v.row], .r [.int t.k], .r [.bool q]])∧(q=true→v.k≠6∧v.k≠7)) ?_ ?_
 ·refine .ite (fun h=> .some ⟨_,rfl,fun _=>by simp at h;omega⟩) fun _=> .ite (fun h=> .some ⟨_,rfl,fun _=>by simp at h;omega⟩) fun _=> .some ⟨_,rfl,fun h=>by simp at h;omega⟩
 rintro r ⟨q,rfl,hq⟩
 refine .ite (fun hqt=> ?_) fun _=> .ite (fun h5=> .pos rfl (.pos rfl ?_)) fun _=> .ite (fun h6=> .pos rfl (.pos rfl ?_)) fun h6n=> .ite (fun h7=> .pos rfl ?_) fun h7=> ?_
 ·have hn:=hq (by simpa using hqt)
  have hQ:∀b:Bool,b=true→FitQ t v:=fun b _=>⟨hk',fun h=>absurd h hn.1,fun h=>absurd h hn.2⟩
  repeat' (first |exact .some ⟨_,rfl,hQ _⟩|refine .pos rfl ?_ |refine .ite (fun _=> ?_) fun _=> ?_)
 ·have h5':t.k=5:=by simpa using h5
  refine .bind (matches_tot t.pat v.s hs) ?_
  rintro r ⟨b,rfl⟩
  exact .some ⟨b,rfl,fun _=>⟨hk',fun h=>by omega,fun h=>by omega⟩⟩
 ·have h6':t.k=6:=by simpa using h6
  refine .bind (eqf_tot t.pc v.fc (by rw[hpl];exact htl)) ?_
  rintro r ⟨b,rfl,hb⟩
  exact .some ⟨b,rfl,fun h=>⟨hk',fun _=>by have:=hb h;omega,fun h=>by omega⟩⟩
 ·have h7':t.k=7:=by simpa using h7
  have hf1:v.fs.length=1:=by cases hok with |mk _ _ _ _ h _=>exact h (by omega)
  refine .bind (ctf_prt t.pc _ (by rw[hpl];exact htl) fun i hi=> ?_) ?_
  ·show Tot _ ((lim T).pc n_types_fits_2 [rowsAt t.pc.rows i,[.dp v.row]])
   rw[types_fits_2_pc];unfold types_fits_2
   refine .pos rfl (.pos ⟨by omega, ?_⟩ (.some ⟨_,rfl⟩))
   show (0:Int)<(v.fc.rows.length:Int)
   rw[hfl];omega
  rintro r ⟨b,rfl,hb⟩
  exact .some ⟨b,rfl,fun h=>⟨hk',fun h=>by omega,fun _=>by have:=hb h;omega⟩⟩
 ·have h7':t.k≠7:=by simpa using h7
  have h6':t.k≠6:=by simpa using h6n
  have hQ:∀b:Bool,b=true→FitQ t v:=fun b _=>⟨hk',fun h=>by omega,fun h=>by omega⟩
  have hcf:Tot (fun r=>∃b:Bool,r=[[.bool b]]) ((lim T).pc n_slices_ContainsFunc_api_Field [[v.fc],[.fn n_types_fits_3 [.dp t.row]]]):=by
   refine .mono (ctf_fld v.fc _ (by rw[hfl];exact hf) fun i hi=> ?_) fun r ⟨b,h,_⟩=>⟨b,h⟩
   show Tot _ ((lim T).pc n_types_fits_3 [rowsAt v.fc.rows i,[.dp t.row]])
   rw[types_fits_3_pc];unfold types_fits_3
   have hi':i<v.fs.length:=by omega
   have hra:rowsAt v.fc.rows i=fldRow v.fs[i]:=by rw[v.fc_rows];exact rowsAt_map _ _ _ hi'
   rw[hra]
   refine .pos rfl (.bind (matches_tot t.pat v.fs[i].1 (hfs _ (List.getElem_mem hi')).1) ?_)
   rintro r ⟨b,rfl⟩
   exact .some ⟨_,rfl⟩
  have kc:∀{f:List Row→Option (List Row)},(∀r,∃b:Bool,f r=some [[.bool b]])→Tot (fun r=>∃b:Bool,r=[[.bool b]]∧(b=true→FitQ t v)) (((lim T).pc n_slices_ContainsFunc_api_Field [[v.fc],[.fn n_types_fits_3 [.dp t.row]]]).bind f):=fun hf=> .bind hcf fun r _=>by obtain ⟨b,e⟩:=hf r;rw[e];exact .some ⟨b,rfl,hQ b⟩
  repeat' (first |exact .some ⟨_,rfl,hQ _⟩|exact kc fun r=>⟨_,rfl⟩|refine .pos rfl ?_ |refine .ite (fun _=> ?_) fun _=> ?_)
end Go.Ev.Zzt
