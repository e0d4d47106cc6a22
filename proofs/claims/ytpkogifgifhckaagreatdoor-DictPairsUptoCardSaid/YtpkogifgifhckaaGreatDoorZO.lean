/-
  A part of the proof: what the functions of the program compute.
-/
import Derived.Test.YtpkogifgifhckaaGreatDoorZTab
import Derived.Test.YtpkogifgifhckaaGreatDoorProg
set_option linter.all false
set_option maxRecDepth 100000
namespace Go.Ev.Zzd
theorem ok_30:okFun Go.Proofs.Tryz.prog T 30 value_order_a=true:=by kernel_rfl
theorem ok_31:okFun Go.Proofs.Tryz.prog T 31 cmp_Or_int_a=true:=by kernel_rfl
theorem ok_48:okFun Go.Proofs.Tryz.prog T 48 cmp_isNaN_int_a=true:=by kernel_rfl
theorem ok_32:okFun Go.Proofs.Tryz.prog T 32 cmp_Compare_int_a=true:=by kernel_rfl
theorem ok_49:okFun Go.Proofs.Tryz.prog T 49 internal_bytealg_CompareString_a=true:=by kernel_rfl
theorem ok_33:okFun Go.Proofs.Tryz.prog T 33 strings_Compare_a=true:=by kernel_rfl
theorem ok_34:okFun Go.Proofs.Tryz.prog T 34 slices_CompareFunc_api_Field_a=true:=by kernel_rfl
theorem ok_35:okFun Go.Proofs.Tryz.prog T 35 value_Cmp_1_a=true:=by kernel_rfl
theorem ok_19:okFun Go.Proofs.Tryz.prog T 19 value_Cmp_a=true:=by kernel_rfl
theorem ok_8:okFun Go.Proofs.Tryz.prog T 8 value_Same_a=true:=by kernel_rfl
theorem ok_36:okFun Go.Proofs.Tryz.prog T 36 slices_IndexFunc_2_api_Value_2_a=true:=by kernel_rfl
theorem ok_37:okFun Go.Proofs.Tryz.prog T 37 dict_find_1_a=true:=by kernel_rfl
theorem ok_20:okFun Go.Proofs.Tryz.prog T 20 dict_find_a=true:=by kernel_rfl
theorem ok_146:okImp Go.Proofs.Tryz.prog T slices_Clone_api_Field_i1_a=true:=by kernel_rfl
theorem ok_145:okImp Go.Proofs.Tryz.prog T value_Copy_i0_a=true:=by kernel_rfl
theorem ok_9:okFun Go.Proofs.Tryz.prog T 9 dict_To_a=true:=by kernel_rfl
theorem ok_45:okFun Go.Proofs.Tryz.prog T 45 lens_Size_a=true:=by kernel_rfl
theorem ok_46:okFun Go.Proofs.Tryz.prog T 46 lens_Deep_a=true:=by kernel_rfl
theorem ok_39:okFun Go.Proofs.Tryz.prog T 39 value_Size_a=true:=by kernel_rfl
theorem ok_40:okFun Go.Proofs.Tryz.prog T 40 value_Deep_a=true:=by kernel_rfl
theorem ok_58:okFun Go.Proofs.Tryz.prog T 58 value_Scalar_a=true:=by kernel_rfl
theorem ok_50:okFun Go.Proofs.Tryz.prog T 50 value_unused_a=true:=by kernel_rfl
theorem ok_51:okFun Go.Proofs.Tryz.prog T 51 value_number_a=true:=by kernel_rfl
end Go.Ev.Zzd
namespace Go.Ev.Zzd
theorem ok_76:okFun Go.Proofs.Tryz.prog T 76 value_Name_a=true:=by kernel_rfl
theorem ok_93:okFun Go.Proofs.Tryz.prog T 93 slices_IndexFunc_api_Field_a=true:=by kernel_rfl
theorem ok_78:okFun Go.Proofs.Tryz.prog T 78 slices_ContainsFunc_api_Field_a=true:=by kernel_rfl
theorem ok_79:okFun Go.Proofs.Tryz.prog T 79 value_names_1_a=true:=by kernel_rfl
theorem ok_59:okFun Go.Proofs.Tryz.prog T 59 value_names_a=true:=by kernel_rfl
theorem ok_60:okFun Go.Proofs.Tryz.prog T 60 value_keys_a=true:=by kernel_rfl
theorem ok_52:okFun Go.Proofs.Tryz.prog T 52 value_fields_a=true:=by kernel_rfl
theorem ok_41:okFun Go.Proofs.Tryz.prog T 41 value_node_a=true:=by kernel_rfl
theorem ok_22:okFun Go.Proofs.Tryz.prog T 22 value_Check_a=true:=by kernel_rfl
theorem ok_75:okFun Go.Proofs.Tryz.prog T 75 lens_table_a=true:=by kernel_rfl
theorem ok_89:okFun Go.Proofs.Tryz.prog T 89 lens_Plain_a=true:=by kernel_rfl
theorem ok_92:okFun Go.Proofs.Tryz.prog T 92 lens_pairs_a=true:=by kernel_rfl
end Go.Ev.Zzd
namespace Go.Ev.Zzd
theorem ok_77:okFun Go.Proofs.Tryz.prog T 77 lens_special_a=true:=by kernel_rfl
theorem ok_56:okFun Go.Proofs.Tryz.prog T 56 lens_Node_a=true:=by kernel_rfl
theorem ok_47:okFun Go.Proofs.Tryz.prog T 47 lens_walk_a=true:=by kernel_rfl
theorem ok_26:okFun Go.Proofs.Tryz.prog T 26 lens_Check_a=true:=by kernel_rfl
theorem ok_14:okFun Go.Proofs.Tryz.prog T 14 dict_Check_a=true:=by kernel_rfl
theorem ok_44:okFun Go.Proofs.Tryz.prog T 44 dict_sorted_1_a=true:=by kernel_rfl
theorem ok_147:okImp Go.Proofs.Tryz.prog T value_Copy_i2_a=true:=by kernel_rfl
theorem ok_74:okFun Go.Proofs.Tryz.prog T 74 math_bits_Len64_a=true:=by kernel_rfl
theorem ok_55:okFun Go.Proofs.Tryz.prog T 55 math_bits_Len_a=true:=by kernel_rfl
theorem ok_150:okImp Go.Proofs.Tryz.prog T slices_insertionSortCmpFunc_2_api_Value_i5_a=true:=by kernel_rfl
end Go.Ev.Zzd
namespace Go.Ev.Zzd
theorem ok_152:okImp Go.Proofs.Tryz.prog T slices_siftDownCmpFunc_2_api_Value_i7_a=true:=by kernel_rfl
theorem ok_151:okImp Go.Proofs.Tryz.prog T slices_heapSortCmpFunc_2_api_Value_i6_a=true:=by kernel_rfl
theorem ok_85:okFun Go.Proofs.Tryz.prog T 85 slices_nextPowerOfTwo_a=true:=by kernel_rfl
theorem ok_154:okImp Go.Proofs.Tryz.prog T slices_xorshift_Next_i9_a=true:=by kernel_rfl
theorem ok_153:okImp Go.Proofs.Tryz.prog T slices_breakPatternsCmpFunc_2_api_Value_i8_a=true:=by kernel_rfl
theorem ok_157:okImp Go.Proofs.Tryz.prog T slices_order2CmpFunc_2_api_Value_i12_a=true:=by kernel_rfl
theorem ok_156:okImp Go.Proofs.Tryz.prog T slices_medianCmpFunc_2_api_Value_i11_a=true:=by kernel_rfl
theorem ok_155:okImp Go.Proofs.Tryz.prog T slices_choosePivotCmpFunc_2_api_Value_i10_a=true:=by kernel_rfl
theorem ok_158:okImp Go.Proofs.Tryz.prog T slices_reverseRangeCmpFunc_2_api_Value_i13_a=true:=by kernel_rfl
end Go.Ev.Zzd
namespace Go.Ev.Zzd
theorem ok_159:okImp Go.Proofs.Tryz.prog T slices_partialInsertionSortCmpFunc_2_api_Value_i14_a=true:=by kernel_rfl
theorem ok_160:okImp Go.Proofs.Tryz.prog T slices_partitionEqualCmpFunc_2_api_Value_i15_a=true:=by kernel_rfl
end Go.Ev.Zzd
namespace Go.Ev.Zzd
theorem ok_161:okImp Go.Proofs.Tryz.prog T slices_partitionCmpFunc_2_api_Value_i16_a=true:=by kernel_rfl
theorem ok_149:okImp Go.Proofs.Tryz.prog T slices_pdqsortCmpFunc_2_api_Value_i4_a=true:=by kernel_rfl
theorem ok_148:okImp Go.Proofs.Tryz.prog T slices_SortFunc_2_api_Value_i3_a=true:=by kernel_rfl
theorem ok_25:okFun Go.Proofs.Tryz.prog T 25 dict_sorted_a=true:=by kernel_rfl
end Go.Ev.Zzd
namespace Go.Ev.Zzd
theorem ok_12:okFun Go.Proofs.Tryz.prog T 12 dict_Sort_a=true:=by kernel_rfl
theorem ok_18:okFun Go.Proofs.Tryz.prog T 18 claplaw3_num_a=true:=by kernel_rfl
theorem ok_17:okFun Go.Proofs.Tryz.prog T 17 claplaw3_pairs_a=true:=by kernel_rfl
theorem ok_4:okFun Go.Proofs.Tryz.prog T 4 claplaw3_looked_a=true:=by kernel_rfl
theorem ok_6:okFun Go.Proofs.Tryz.prog T 6 slices_IndexFunc_2_api_Value_a=true:=by kernel_rfl
theorem ok_7:okFun Go.Proofs.Tryz.prog T 7 claplaw3_DictPairs_1_1_a=true:=by kernel_rfl
theorem ok_5:okFun Go.Proofs.Tryz.prog T 5 claplaw3_DictPairs_1_a=true:=by kernel_rfl
theorem ok_10:okFun Go.Proofs.Tryz.prog T 10 dict_From_a=true:=by kernel_rfl
theorem ok_23:okFun Go.Proofs.Tryz.prog T 23 clapref3_plain_a=true:=by kernel_rfl
theorem ok_11:okFun Go.Proofs.Tryz.prog T 11 clapref3_Pairs_a=true:=by kernel_rfl
theorem ok_13:okFun Go.Proofs.Tryz.prog T 13 dict_Invert_a=true:=by kernel_rfl
theorem ok_27:okFun Go.Proofs.Tryz.prog T 27 slices_EqualFunc_2_api_Value_a=true:=by kernel_rfl
theorem ok_28:okFun Go.Proofs.Tryz.prog T 28 claplaw3_samePair_a=true:=by kernel_rfl
theorem ok_15:okFun Go.Proofs.Tryz.prog T 15 claplaw3_samePairs_a=true:=by kernel_rfl
theorem ok_29:okFun Go.Proofs.Tryz.prog T 29 clapref3_spliced_2_api_Value_a=true:=by kernel_rfl
theorem ok_16:okFun Go.Proofs.Tryz.prog T 16 clapref3_Sorted_a=true:=by kernel_rfl
end Go.Ev.Zzd
namespace Go.Ev.Zzd
theorem ok_3:okFun Go.Proofs.Tryz.prog T 3 claplaw3_DictPairs_a=true:=by kernel_rfl
end Go.Ev.Zzd
