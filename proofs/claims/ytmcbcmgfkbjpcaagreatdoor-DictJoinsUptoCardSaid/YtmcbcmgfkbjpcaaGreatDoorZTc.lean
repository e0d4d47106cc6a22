/-
  A part of the proof: what the functions of the program compute.
-/
import Derived.Test.YtmcbcmgfkbjpcaaGreatDoorZTb
set_option linter.all false
set_option maxRecDepth 100000
namespace Go.Ev.Zzj
theorem clone_spec (v:Val) (hN:v.bulk≤big):(lim T).ic slices_Clone_api_Field_i1_n [.r [v.fc]]=some [.r [v.fc]]:=by
 rw[slices_Clone_api_Field_i1_ic]
 unfold slices_Clone_api_Field_i1
 rw[Val.fc_eq,slC_rows]
 have hl:=v.bulk_len
 cases hn:v.nil with
 |true=>
  cases hf:v.fs with
  |nil=>simp[slC,C.isNil]
  |cons p r=>
   rw[hf]at hl
   have:(0+(r.length+1))*72≤140737488355328:=by simp only[List.length_cons]at hl;unfold big at hN;omega
   simp[slC,C.isNil,appC,this]
   omega
 |false=>
  have:(0+v.fs.length)*72≤140737488355328:=by unfold big at hN;omega
  simp[slC_false,C.isNil,appC]
  omega
theorem putRow (p:Bytes×Val):put (fldRow p) 1 4 p.2.row 0 5=fldRow p:=rfl
theorem set_same {α:Type} (l:List α) (i:Nat) (h:i<l.length):l.set i l[i]=l:=by simp
theorem copy_l1 (v:Val) (x y:Int) (s:Bytes) (r:Row) (b:Bool) (hN:v.fs.length≤big) (hc:∀p∈v.fs,(lim T).ic value_Copy_i0_n [.r p.2.row]=some [.r p.2.row]):∀(j i:Nat),i+j=v.fs.length→
 value_Copy_i2_l0 (lim T) (v.fs.length:Int) (i:Int) x y s r v.fc=some (0,[.r [.int x], .r [.int y], .r [.str s], .r r, .r [v.fc]])
 |0,i,h=>by
  rw[value_Copy_i2_l0_eq]
  unfold value_Copy_i2_b0
  have:¬(i:Int)<(v.fs.length:Int):=by omega
  simp[this]
 |j+1,i,h=>by
  rw[value_Copy_i2_l0_eq]
  unfold value_Copy_i2_b0
  have h1:i<v.fs.length:=by omega
  have ih:=copy_l1 v x y s r b hN hc j (i+1) (by omega)
  have hcc:=hc _ (List.getElem_mem h1)
  have g1:(i:Int)<(v.fs.length:Int):=by omega
  have g0:(0:Int)≤(i:Int):=by omega
  have hne:C.sl (v.fs.map fldRow)=v.fc:=by
   rw[v.fc_eq]
   cases hf:v.fs with
   |nil=>rw[hf]at h1;simp at h1
   |cons p r=>cases v.nil<;>rfl
  have hset:(v.fs.map fldRow).set i (fldRow v.fs[i])=v.fs.map fldRow:=by
   rw[show fldRow v.fs[i]=(v.fs.map fldRow)[i]'(by simpa using h1) by simp]
   exact set_same _ _ _
  simp only[Val.fc_rows,rowsAt_map,List.length_map,Int.toNat_natCast,h1,at_fld1,at_fld2,at_fld3,at_fld4,val_fold,hcc,wrap_nat (show i≤big by omega),g1,g0,decide_true,and_self,if_true,Option.bind_some,gR_s,gC_s,gI_s,gB_s,gS_s,gM_s,gR_z,gC_z,gI_z,gB_z,gS_z,gM_z,hd_r,putRow,hset,hne,ih]
theorem copy_l3 (v:Val) (x y:Int) (s:Bytes) (r:Row) (b:Bool) (hN:v.fs.length≤big) (hc:∀p∈v.fs,(lim T).ic value_Copy_i0_n [.r p.2.row]=some [.r p.2.row]):∀(j i:Nat),i+j=v.fs.length→
 value_Copy_i0_l0 (lim T) (v.fs.length:Int) (i:Int) x y s r v.fc=some (0,[.r [.int x], .r [.int y], .r [.str s], .r r, .r [v.fc]])
 |0,i,h=>by
  rw[value_Copy_i0_l0_eq]
  unfold value_Copy_i0_b0
  have:¬(i:Int)<(v.fs.length:Int):=by omega
  simp[this]
 |j+1,i,h=>by
  rw[value_Copy_i0_l0_eq]
  unfold value_Copy_i0_b0
  have h1:i<v.fs.length:=by omega
  have ih:=copy_l3 v x y s r b hN hc j (i+1) (by omega)
  have hcc:=hc _ (List.getElem_mem h1)
  have g1:(i:Int)<(v.fs.length:Int):=by omega
  have g0:(0:Int)≤(i:Int):=by omega
  have hne:C.sl (v.fs.map fldRow)=v.fc:=by
   rw[v.fc_eq]
   cases hf:v.fs with
   |nil=>rw[hf]at h1;simp at h1
   |cons p r=>cases v.nil<;>rfl
  have hset:(v.fs.map fldRow).set i (fldRow v.fs[i])=v.fs.map fldRow:=by
   rw[show fldRow v.fs[i]=(v.fs.map fldRow)[i]'(by simpa using h1) by simp]
   exact set_same _ _ _
  simp only[Val.fc_rows,rowsAt_map,List.length_map,Int.toNat_natCast,h1,at_fld1,at_fld2,at_fld3,at_fld4,val_fold,hcc,wrap_nat (show i≤big by omega),g1,g0,decide_true,and_self,if_true,Option.bind_some,gR_s,gC_s,gI_s,gB_s,gS_s,gM_s,gR_z,gC_z,gI_z,gB_z,gS_z,gM_z,hd_r,putRow,hset,hne,ih]
theorem copy3_spec (v:Val) (hN:v.bulk≤big):(lim T).ic value_Copy_i0_n [.r v.row]=some [.r v.row]:=by
 have hrec:∀p∈v.fs,(lim T).ic value_Copy_i0_n [.r p.2.row]=some [.r p.2.row]:=by
  intro p hp
  have:=Val.size_lt hp
  have hb:=Val.bulk_mem hp
  exact copy3_spec p.2 (by omega)
 rw[value_Copy_i0_ic]
 unfold value_Copy_i0
 have hl:=copy_l3 v v.k v.n v.s [.int 0, .int 0, .str [], .nils] true (by have:=v.bulk_len;omega) hrec v.fs.length 0 (by omega)
 simp only[Int.ofNat_zero,Int.natCast_zero]at hl
 simp only[at_val0,at_val1,at_val2,at_val3,toI_int,toS_str,clone_spec v hN,Option.bind_some,gR_s,gC_s,gI_s,gB_s,gS_s,gM_s,gR_z,gC_z,gI_z,gB_z,gS_z,gM_z,hd_r,at_zero,Val.fc_rows,List.length_map,hl,List.tail_cons,val_fold]
 termination_by SizeOf.sizeOf v
theorem copy1_spec (v:Val) (hN:v.bulk≤big):(lim T).ic value_Copy_i2_n [.r [.int v.k], .r [.int v.n], .r [.str v.s], .r [v.fc]]=some [.r v.row]:=by
 rw[value_Copy_i2_ic]
 unfold value_Copy_i2
 have hl:=copy_l1 v v.k v.n v.s [.int 0, .int 0, .str [], .nils] true (by have:=v.bulk_len;omega) (fun p hp=>copy3_spec p.2 (by have:=Val.bulk_mem hp;omega)) v.fs.length 0 (by omega)
 simp only[Int.ofNat_zero,Int.natCast_zero]at hl
 simp only[clone_spec v hN,Option.bind_some,gR_s,gC_s,gI_s,gB_s,gS_s,gM_s,gR_z,gC_z,gI_z,gB_z,gS_z,gM_z,hd_r,at_zero,Val.fc_rows,List.length_map,hl,List.tail_cons,toI_int,toS_str,val_fold]
end Go.Ev.Zzj
