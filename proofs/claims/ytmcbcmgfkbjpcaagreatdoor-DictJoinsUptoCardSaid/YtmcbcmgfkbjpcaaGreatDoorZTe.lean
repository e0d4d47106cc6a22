/-
  A part of the proof: what the functions of the program compute.
-/
import Derived.Test.YtmcbcmgfkbjpcaaGreatDoorZTd
set_option linter.all false
set_option maxRecDepth 100000
namespace Go.Ev.Zzj
def lr (c:C):Row:=[.int 11, .str [], .str [], .nils, .int 0, .int 0, .int 0, .int 0, .int 0, .int 0, .str [], .nils,c, .nils]
theorem table_look:(lim T).pc n_lens_table [[.int 11]]=some [[.bool false, .bool false, .bool false, .bool false, .bool false, .bool false, .bool false, .bool true, .int 0]]:=(lim_pc T).2 ⟨12,by kernel_rfl⟩
theorem same_zero:(lim T).pc n_value_Same [[.int 0, .int 0, .str [], .nils],[.int 0, .int 0, .str [], .nils]]=some [[.bool true]]:=(lim_pc T).2 ⟨20,by kernel_rfl⟩
theorem node_look (c:C) (e:Int) (h:(lim T).pc n_lens_pairs [[c]]=some [[.int e]]):(lim T).pc n_lens_Node [lr c]=some [[.int e]]:=by
 have hs:(lim T).pc n_lens_special [lr c]=some [[.int e]]:=by
  rw[lens_special_pc];unfold lens_special
  simp[lr,h]
 rw[lens_Node_pc];unfold lens_Node
 have h0:at_ (lr c) 0= .int 11:=rfl
 have h1:at_ (lr c) 1= .str []:=rfl
 have h2:at_ (lr c) 2= .str []:=rfl
 have h3:at_ (lr c) 3= .nils:=rfl
 have h4:at_ (lr c) 4= .int 0:=rfl
 have h5:at_ (lr c) 5= .int 0:=rfl
 have h6:at_ (lr c) 6= .int 0:=rfl
 have h7:at_ (lr c) 7= .int 0:=rfl
 have h8:at_ (lr c) 8= .int 0:=rfl
 have h9:at_ (lr c) 9= .int 0:=rfl
 have h10:at_ (lr c) 10= .str []:=rfl
 have h11:at_ (lr c) 11= .nils:=rfl
 have h12:at_ (lr c) 12=c:=rfl
 have h13:at_ (lr c) 13= .nils:=rfl
 simp[h0,h1,h2,h3,h4,h5,h6,h7,h8,h9,h10,h11,h12,h13,table_look,same_zero,hs]
theorem walk_look (c:C) (e:Int) (h:(lim T).pc n_lens_pairs [[c]]=some [[.int e]]):(lim T).pc n_lens_walk [lr c]=some [[.int e]]:=by
 rw[lens_walk_pc];unfold lens_walk
 rw[node_look c e h]
 have h13:at_ (lr c) 13= .nils:=rfl
 by_cases he:e=0
 ·subst he
  simp[h13,lens_walk_l0_eq,lens_walk_b0]
 ·simp[he]
theorem dcheck_spec (c:C) (l:List (Val×Val)) (hc:c.rows=l.map pairRow) (hl:PairsOk l):(lim T).pc n_dict_Check [[c]]=some [[.int (pairsE l)]]:=by
 have hw:=walk_look c _ (lpairs_spec c l hc hl)
 have h13:at_ (lr c) 13= .nils:=rfl
 have hs:(lim T).pc n_lens_Size [lr c]=some [[.int 1]]:=by
  rw[lens_Size_pc];unfold lens_Size
  simp[h13,lens_Size_l0_eq,lens_Size_b0]
 have hd:(lim T).pc n_lens_Deep [lr c]=some [[.int 1]]:=by
  rw[lens_Deep_pc];unfold lens_Deep
  have w:IntKind.wrap .i64 ((0:Int)+1)=1:=by decide
  have w':IntKind.wrap .i64 (1:Int)=1:=by decide
  simp[h13,lens_Deep_l0_eq,lens_Deep_b0,w,w']
 rw[dict_Check_pc];unfold dict_Check
 show ((lim T).pc n_lens_Check [lr c]).bind _=_
 rw[lens_Check_pc];unfold lens_Check
 simp[hs,hd,hw]
def ix (f:Val×Val→Bool):List (Val×Val)→Nat→Int
 |[],_=> -1
 |p::l,i=>if f p=true then (i:Int)else ix f l (i+1)
theorem if1_l (c fc:C) (f:Val×Val→Bool) (l:List (Val×Val)) (hc:c.rows=l.map pairRow) (hN:l.length≤big) (hf:∀p∈l,callC (lim T) fc [pairRow p]=some [[.bool (f p)]]):∀(j i:Nat),i+j=l.length→
 slices_IndexFunc_2_api_Value_l0 (lim T) c fc (l.length:Int) (i:Int)=if ix f (l.drop i) i<0 then some (0,[])else some (1,[.r [.int (ix f (l.drop i) i)]])
 |0,i,h=>by
  rw[slices_IndexFunc_2_api_Value_l0_eq];unfold slices_IndexFunc_2_api_Value_b0
  obtain rfl:i=l.length:=by omega
  simp[ix]
 |j+1,i,h=>by
  rw[slices_IndexFunc_2_api_Value_l0_eq];unfold slices_IndexFunc_2_api_Value_b0
  have ih:=if1_l c fc f l hc hN hf j (i+1) (by omega)
  have hi:i<l.length:=by omega
  have hl:c.rows.length=l.length:=by rw[hc,List.length_map]
  have hr:rowsAt c.rows i=pairRow l[i]:=by rw[hc];exact rowsAt_map _ _ _ hi
  have hq:=hf _ (List.getElem_mem hi)
  rw[List.drop_eq_getElem_cons hi,ix]
  by_cases c1:f l[i]=true
  ·have:¬(i:Int)<0:=by omega
   simp only[c1,if_true,this,if_false,Int.natCast_nonneg,Int.ofNat_lt,hi,hl,and_self,decide_true,Int.toNat_natCast,hr,hq,Option.bind_some,rowsAt_zero,at_zero,toB_bool]
  ·simp only[c1,if_false,Bool.false_eq_true,Int.natCast_nonneg,Int.ofNat_lt,hi,hl,and_self,decide_true,if_true,Int.toNat_natCast,hr,hq,Option.bind_some,rowsAt_zero,at_zero,toB_bool,wrap_nat (show i≤big by omega),ih]
theorem if1_spec (c fc:C) (f:Val×Val→Bool) (l:List (Val×Val)) (hc:c.rows=l.map pairRow) (hN:l.length≤big) (hf:∀p∈l,callC (lim T) fc [pairRow p]=some [[.bool (f p)]]):(lim T).pc n_slices_IndexFunc_2_api_Value [[c],[fc]]=some [[.int (ix f l 0)]]:=by
 rw[slices_IndexFunc_2_api_Value_pc];unfold slices_IndexFunc_2_api_Value
 have hl:c.rows.length=l.length:=by rw[hc,List.length_map]
 have e:=if1_l c fc f l hc hN hf _ 0 (Nat.zero_add _)
 rw[show ((0:Nat):Int)=0 from rfl,List.drop_zero]at e
 rw[hl,e]
 by_cases h:ix f l 0<0
 ·have:ix f l 0= -1:=by
   clear e hf hc hN
   have key:∀(l:List (Val×Val)) (i:Nat),ix f l i<0→ix f l i= -1:=by
    intro l
    induction l with
    |nil=>intro i _;rfl
    |cons p l ih=>intro i h;rw[ix]at h⊢;split at h<;>rename_i c
                  ·omega
                  ·rw[if_neg c];exact ih _ h
   exact key l 0 h
  rw[if_pos h,this];rfl
 ·rw[if_neg h];rfl
def sm (v:Val) (k:Nat) (p:Val×Val):Bool:=(pk p k).eqv v
theorem find1_call (v:Val) (hv:v.wf) (k:Nat) (hk:k<2) (p:Val×Val) (hp:∀k,(pk p k).wf∧(pk p k).bulk≤big):callC (lim T) (.fn n_dict_find_1 [.dp [.int (k:Int)], .dp v.row]) [pairRow p]=some [[.bool (sm v k p)]]:=by
 show (lim T).pc n_dict_find_1 [pairRow p,[.dp [.int (k:Int)]],[.dp v.row]]=_
 rw[dict_find_1_pc];unfold dict_find_1
 have h2:(k:Int)<2:=by omega
 have:=pk_row p hk
 have hs:=same_spec (pk p k) v (hp k).1 hv (hp k).2
 simp only[Int.toNat_natCast]at this
 simp only[isDp_dp,if_true,dpRow_dp,at_zero,toI_int,Int.natCast_nonneg,h2,and_self,Int.toNat_natCast,this,hs,Option.bind_some,rowsAt_zero,toB_bool,sm]
theorem find_spec (c:C) (l:List (Val×Val)) (hc:c.rows=l.map pairRow) (hl:PairsOk l) (v:Val) (hv:v.wf) (k:Nat) (hk:k<2):(lim T).pc n_dict_find [[c],[.int (k:Int)],v.row]=some [[.int (ix (sm v k) l 0)]]:=by
 have h:=if1_spec c _ (sm v k) l hc hl.len (fun p hp=>find1_call v hv k hk p fun k=>⟨hl.wf p hp k,hl.bulk p hp k⟩)
 have e:(lim T).pc n_dict_find [[c],[.int (k:Int)],v.row]=dict_find (lim T) c (k:Int) v.row:=dict_find_pc c (k:Int) v.row
 rw[e];unfold dict_find
 rw[h];rfl
end Go.Ev.Zzj
