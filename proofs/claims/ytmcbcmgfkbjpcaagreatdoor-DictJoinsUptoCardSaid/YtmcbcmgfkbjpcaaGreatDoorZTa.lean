/-
  A part of the proof: what the functions of the program compute.
-/
import Derived.Test.YtmcbcmgfkbjpcaaGreatDoorZS
import Derived.Test.YtmcbcmgfkbjpcaaGreatDoorEvDa
set_option linter.all false
set_option maxRecDepth 100000
namespace Go.Ev.Zzj
theorem Tot.eqbind {α β:Type} {Q:β→Prop} {x:Option α} {y:α} {f:α→Option β} (h:x=Option.some y) (k:Tot Q (f y)):Tot Q (x.bind f):=by rw[h];exact k
theorem Tot.ite {β:Type} {c:Prop} [Decidable c] {Q:β→Prop} {x y:Option β} (h:c→Tot Q x) (k:¬c→Tot Q y):Tot Q (if c then x else y):=by
 split
 ·exact h ‹_›
 ·exact k ‹_›
theorem Tot.pos {β:Type} {c:Prop} [Decidable c] {Q:β→Prop} {x y:Option β} (h:c) (k:Tot Q x):Tot Q (if c then x else y):=by rw[if_pos h];exact k
theorem Tot.mono {β:Type} {R Q:β→Prop} {x:Option β} (h:Tot R x) (k:∀r,R r→Q r):Tot Q x:=by
 obtain ⟨r,h1,h2⟩:=h;exact ⟨r,h1,k r h2⟩
theorem wrap_nat {i:Nat} (h:i≤big):IntKind.wrap .i64 ((i:Int)+1)=((i+1:Nat):Int):=wr_succ h
theorem isNaN_int (a:Int):(lim T).pc n_cmp_isNaN_int [[.int a]]=some [[.bool false]]:=by
 rw[cmp_isNaN_int_pc];simp[cmp_isNaN_int]
theorem compare_int (a b:Int):(lim T).pc n_cmp_Compare_int [[.int a],[.int b]]=some [[.int (cmpI a b)]]:=by
 rw[cmp_Compare_int_pc]
 unfold cmp_Compare_int cmpI
 simp only[isNaN_int,Option.bind_some,rowsAt_zero,at_zero,toB_bool,Bool.false_eq_true,if_false,decide_eq_true_eq]
 split
 ·rfl
 ·split<;>rfl
theorem compare_str (a b:Bytes):(lim T).pc n_strings_Compare [[.str a],[.str b]]=some [[.int (cmpBytes a b)]]:=by
 rw[strings_Compare_pc]
 unfold strings_Compare
 rw[internal_bytealg_CompareString_pc]
 simp[internal_bytealg_CompareString]
def intRow (n:Int):Row:=[.int n]
theorem or_int_l (l:List Int) (hN:l.length≤big):∀(j i:Nat),i+j=l.length→
 cmp_Or_int_l0 (lim T) 0 (.sl (l.map intRow)) (l.length:Int) (i:Int)=if orI (l.drop i)=0 then some (0,[.r [.int 0]])else some (1,[.r [.int (orI (l.drop i))]])
 |0,i,h=>by
  rw[cmp_Or_int_l0_eq]
  unfold cmp_Or_int_b0
  have:¬(i:Int)<(l.length:Int):=by omega
  rw[List.drop_eq_nil_of_le (by omega)]
  simp[this,orI]
 |j+1,i,h=>by
  rw[cmp_Or_int_l0_eq]
  unfold cmp_Or_int_b0
  have h1:i<l.length:=by omega
  have ih:=or_int_l l hN j (i+1) (by omega)
  rw[List.drop_eq_getElem_cons h1]
  simp only[rows_sl,rowsAt_map,List.length_map,Int.toNat_natCast,h1,wrap_nat (show i≤big by omega),ih,orI,intRow,at_zero,toI_int]
  have g1:(i:Int)<(l.length:Int):=by omega
  have g0:(0:Int)≤(i:Int):=by omega
  simp only[g1,g0,decide_true,and_self,if_true]
  by_cases hc:l[i]=0<;>simp[hc]
theorem or_int (l:List Int) (hN:l.length≤big):(lim T).pc n_cmp_Or_int [[.sl (l.map intRow)]]=some [[.int (orI l)]]:=by
 rw[cmp_Or_int_pc]
 unfold cmp_Or_int
 simp only[rows_sl,List.length_map]
 have:=or_int_l l hN l.length 0 (by omega)
 simp only[Int.ofNat_zero,Int.natCast_zero]at this
 rw[this,List.drop_zero]
 by_cases h:orI l=0<;>simp[h]
theorem order_spec (n:Int) (h:inI64 n):(lim T).pc n_value_order [[.int n]]=some [[.int (ordI n)]]:=by
 rw[value_order_pc]
 unfold value_order ordI
 by_cases hn:n<0
 ·have h':=h
  obtain ⟨h1,h2⟩:=h'
  simp only[hn,decide_true,if_true,and_max h hn]
  rw[wrap_i64 ⟨by omega,by omega⟩]
 ·simp only[hn,decide_false,Bool.false_eq_true,if_false]
theorem compare_flds_l (b b':Bool) (l r:List (Bytes×Val)) (hN:l.length≤big) (hc:∀p∈l,∀q∈r,(lim T).pc n_value_Cmp_1 [fldRow p,fldRow q]=some [[.int (fldCmp p q)]]):∀(j i:Nat),i+j=l.length→i≤r.length→
 slices_CompareFunc_api_Field_l0 (lim T) (slC b (l.map fldRow)) (slC b' (r.map fldRow)) (.fn n_value_Cmp_1 []) (slC b (l.map fldRow)) (l.length:Int) (i:Int)=
  if lexL fldCmp (l.drop i) (r.drop i)=0 then some (0,[.r [slC b (l.map fldRow)], .r [slC b' (r.map fldRow)]])else some (1,[.r [.int (lexL fldCmp (l.drop i) (r.drop i))]])
 |0,i,h,_=>by
  rw[slices_CompareFunc_api_Field_l0_eq]
  unfold slices_CompareFunc_api_Field_b0
  have:¬(i:Int)<(l.length:Int):=by omega
  rw[List.drop_eq_nil_of_le (by omega)]
  simp[this,lexL]
 |j+1,i,h,hir=>by
  rw[slices_CompareFunc_api_Field_l0_eq]
  unfold slices_CompareFunc_api_Field_b0
  have h1:i<l.length:=by omega
  have g1:(i:Int)<(l.length:Int):=by omega
  have g0:(0:Int)≤(i:Int):=by omega
  rw[List.drop_eq_getElem_cons h1]
  by_cases h2:i<r.length
  ·have ih:=compare_flds_l b b' l r hN hc j (i+1) (by omega) (by omega)
   rw[List.drop_eq_getElem_cons h2]
   have g2:(i:Int)<(r.length:Int):=by omega
   have g3:¬(i:Int)≥(r.length:Int):=by omega
   have hcc:=hc l[i] (List.getElem_mem h1) r[i] (List.getElem_mem h2)
   have hcc':callC (lim T) (.fn n_value_Cmp_1 []) [fldRow l[i],fldRow r[i]]=some [[.int (fldCmp l[i] r[i])]]:=hcc
   simp only[slC_rows,rowsAt_map,List.length_map,Int.toNat_natCast,h1,h2,wrap_nat (show i≤big by omega),ih,lexL,g1,g2,g0,g3,decide_true,decide_false,Bool.false_eq_true,if_false,and_self,if_true,hcc',Option.bind_some,rowsAt_zero,at_zero,toI_int]
   by_cases hz:fldCmp l[i] r[i]=0<;>simp[hz]
  ·have g3:(i:Int)≥(r.length:Int):=by omega
   rw[List.drop_eq_nil_of_le (show r.length≤i by omega)]
   simp only[slC_rows,List.length_map,g1,g0,g3,decide_true,and_self,if_true,lexL]
   simp
theorem compare_flds (b b':Bool) (l r:List (Bytes×Val)) (hN:l.length≤big) (hc:∀p∈l,∀q∈r,(lim T).pc n_value_Cmp_1 [fldRow p,fldRow q]=some [[.int (fldCmp p q)]]):
 (lim T).pc n_slices_CompareFunc_api_Field [[slC b (l.map fldRow)],[slC b' (r.map fldRow)],[.fn n_value_Cmp_1 []]]=some [[.int (lexI fldCmp l r)]]:=by
 rw[slices_CompareFunc_api_Field_pc]
 unfold slices_CompareFunc_api_Field
 have:=compare_flds_l b b' l r hN hc l.length 0 (by omega) (by omega)
 simp only[Int.ofNat_zero,Int.natCast_zero,List.drop_zero]at this
 simp only[slC_rows,List.length_map]
 rw[this,lexI_lexL]
 by_cases h:lexL fldCmp l r=0
 ·by_cases h':l.length<r.length<;>simp[h,h']
 ·simp[h]
theorem cmp_spec (v w:Val) (hv:v.wf) (hw:w.wf) (hN:v.bulk≤big):(lim T).pc n_value_Cmp [v.row,w.row]=some [[.int (v.cmp w)]]:=by
 have hrec:∀p∈v.fs,∀q∈w.fs,(lim T).pc n_value_Cmp_1 [fldRow p,fldRow q]=some [[.int (fldCmp p q)]]:=by
  intro p hp q hq
  have:=Val.size_lt hp
  have hb:=Val.bulk_mem hp
  have ih:=cmp_spec p.2 q.2 (Val.wf_mem hv hp) (Val.wf_mem hw hq) (by omega)
  rw[value_Cmp_1_pc]
  unfold value_Cmp_1
  have ho:=or_int [cmpBytes p.1 q.1,p.2.cmp q.2] (by simp[big])
  simp only[List.map_cons,List.map_nil,intRow]at ho
  simp only[at_fld0,at_fld1,at_fld2,at_fld3,at_fld4,toS_str,val_fold,compare_str,ih,Option.bind_some,rowsAt_zero,at_zero,toI_int,ho,fldCmp]
 rw[value_Cmp_pc]
 unfold value_Cmp
 have hf:=compare_flds v.nil w.nil v.fs w.fs (by have:=v.bulk_len;omega) hrec
 rw[←v.fc_eq,←w.fc_eq]at hf
 have ho:=or_int [cmpI v.k w.k,cmpI (if v.k=3 then ordI v.n else v.n) (if v.k=3 then ordI w.n else w.n),cmpBytes v.s w.s] (by simp[big])
 simp only[List.map_cons,List.map_nil,intRow]at ho
 rw[v.cmp_eq]
 by_cases k3:v.k=3
 ·simp only[k3,if_true]at ho
  simp only[at_val0,at_val1,at_val2,at_val3,toI_int,toS_str,k3,beq_self_eq_true,if_true,order_spec _ (Val.wf_n hv),order_spec _ (Val.wf_n hw),Option.bind_some,rowsAt_zero,at_zero,gR_s,gC_s,gI_s,gB_s,gS_s,gM_s,gR_z,gC_z,gI_z,gB_z,gS_z,gM_z,hd_r,List.tail_cons,isDp_dp,dpRow_dp,compare_int,compare_str,ho,hf]
  generalize orI _=c
  by_cases hc:c=0<;>simp[hc]
 ·simp only[k3,if_false]at ho
  have k3':(v.k==3)=false:=by simp[k3]
  simp only[at_val0,at_val1,at_val2,at_val3,toI_int,toS_str,k3,k3',Bool.false_eq_true,if_false,Option.bind_some,rowsAt_zero,at_zero,gR_s,gC_s,gI_s,gB_s,gS_s,gM_s,gR_z,gC_z,gI_z,gB_z,gS_z,gM_z,hd_r,List.tail_cons,isDp_dp,dpRow_dp,compare_int,compare_str,ho,hf,if_true]
  generalize orI _=c
  by_cases hc:c=0<;>simp[hc]
 termination_by SizeOf.sizeOf v
theorem same_spec (v w:Val) (hv:v.wf) (hw:w.wf) (hN:v.bulk≤big):(lim T).pc n_value_Same [v.row,w.row]=some [[.bool (v.eqv w)]]:=by
 rw[value_Same_pc]
 unfold value_Same
 simp only[cmp_spec v w hv hw hN,Option.bind_some,rowsAt_zero,at_zero,toI_int]
 have:=Val.cmp_zero v w hv hw
 cases he:v.eqv w with
 |true=>rw[this.2 he];rfl
 |false=>
  have hne:¬v.cmp w=0:=fun h=>by rw[this.1 h]at he;cases he
  simp[hne]
end Go.Ev.Zzj
