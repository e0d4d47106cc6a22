/-
  A part of the proof: what the functions of the program compute.
-/
import Derived.Test.YtmcbcmgfkbjpcaaGreatDoorZTab
import Derived.Test.YtmcbcmgfkbjpcaaGreatDoorProg
set_option linter.all false
set_option maxRecDepth 100000
namespace Go.Ev.Zzj
theorem ok_31:okFun Go.Proofs.Tryz.prog T 31 slices_IndexFunc_2_api_Value_a=true:=by kernel_rfl
theorem ok_40:okFun Go.Proofs.Tryz.prog T 40 value_order_a=true:=by kernel_rfl
theorem ok_41:okFun Go.Proofs.Tryz.prog T 41 cmp_Or_int_a=true:=by kernel_rfl
theorem ok_55:okFun Go.Proofs.Tryz.prog T 55 cmp_isNaN_int_a=true:=by kernel_rfl
theorem ok_42:okFun Go.Proofs.Tryz.prog T 42 cmp_Compare_int_a=true:=by kernel_rfl
theorem ok_56:okFun Go.Proofs.Tryz.prog T 56 internal_bytealg_CompareString_a=true:=by kernel_rfl
theorem ok_43:okFun Go.Proofs.Tryz.prog T 43 strings_Compare_a=true:=by kernel_rfl
theorem ok_44:okFun Go.Proofs.Tryz.prog T 44 slices_CompareFunc_api_Field_a=true:=by kernel_rfl
theorem ok_45:okFun Go.Proofs.Tryz.prog T 45 value_Cmp_1_a=true:=by kernel_rfl
theorem ok_29:okFun Go.Proofs.Tryz.prog T 29 value_Cmp_a=true:=by kernel_rfl
theorem ok_16:okFun Go.Proofs.Tryz.prog T 16 value_Same_a=true:=by kernel_rfl
theorem ok_32:okFun Go.Proofs.Tryz.prog T 32 dict_find_1_a=true:=by kernel_rfl
theorem ok_18:okFun Go.Proofs.Tryz.prog T 18 dict_find_a=true:=by kernel_rfl
theorem ok_151:okImp Go.Proofs.Tryz.prog T slices_Clone_api_Field_i1_a=true:=by kernel_rfl
theorem ok_150:okImp Go.Proofs.Tryz.prog T value_Copy_i0_a=true:=by kernel_rfl
theorem ok_12:okFun Go.Proofs.Tryz.prog T 12 dict_To_a=true:=by kernel_rfl
theorem ok_14:okFun Go.Proofs.Tryz.prog T 14 claplaw3_num_a=true:=by kernel_rfl
theorem ok_13:okFun Go.Proofs.Tryz.prog T 13 claplaw3_pairs_a=true:=by kernel_rfl
theorem ok_46:okFun Go.Proofs.Tryz.prog T 46 lens_Size_a=true:=by kernel_rfl
theorem ok_47:okFun Go.Proofs.Tryz.prog T 47 lens_Deep_a=true:=by kernel_rfl
theorem ok_51:okFun Go.Proofs.Tryz.prog T 51 value_Size_a=true:=by kernel_rfl
theorem ok_52:okFun Go.Proofs.Tryz.prog T 52 value_Deep_a=true:=by kernel_rfl
theorem ok_81:okFun Go.Proofs.Tryz.prog T 81 value_Scalar_a=true:=by kernel_rfl
theorem ok_68:okFun Go.Proofs.Tryz.prog T 68 value_unused_a=true:=by kernel_rfl
theorem ok_69:okFun Go.Proofs.Tryz.prog T 69 value_number_a=true:=by kernel_rfl
end Go.Ev.Zzj
namespace Go.Ev.Zzj
theorem ok_74:okFun Go.Proofs.Tryz.prog T 74 value_Name_a=true:=by kernel_rfl
theorem ok_101:okFun Go.Proofs.Tryz.prog T 101 slices_IndexFunc_api_Field_a=true:=by kernel_rfl
theorem ok_93:okFun Go.Proofs.Tryz.prog T 93 slices_ContainsFunc_api_Field_a=true:=by kernel_rfl
theorem ok_94:okFun Go.Proofs.Tryz.prog T 94 value_names_1_a=true:=by kernel_rfl
theorem ok_82:okFun Go.Proofs.Tryz.prog T 82 value_names_a=true:=by kernel_rfl
theorem ok_83:okFun Go.Proofs.Tryz.prog T 83 value_keys_a=true:=by kernel_rfl
theorem ok_70:okFun Go.Proofs.Tryz.prog T 70 value_fields_a=true:=by kernel_rfl
theorem ok_53:okFun Go.Proofs.Tryz.prog T 53 value_node_a=true:=by kernel_rfl
theorem ok_35:okFun Go.Proofs.Tryz.prog T 35 value_Check_a=true:=by kernel_rfl
theorem ok_73:okFun Go.Proofs.Tryz.prog T 73 lens_table_a=true:=by kernel_rfl
theorem ok_88:okFun Go.Proofs.Tryz.prog T 88 lens_Plain_a=true:=by kernel_rfl
theorem ok_91:okFun Go.Proofs.Tryz.prog T 91 lens_pairs_a=true:=by kernel_rfl
end Go.Ev.Zzj
namespace Go.Ev.Zzj
theorem ok_75:okFun Go.Proofs.Tryz.prog T 75 lens_special_a=true:=by kernel_rfl
theorem ok_57:okFun Go.Proofs.Tryz.prog T 57 lens_Node_a=true:=by kernel_rfl
theorem ok_48:okFun Go.Proofs.Tryz.prog T 48 lens_walk_a=true:=by kernel_rfl
theorem ok_30:okFun Go.Proofs.Tryz.prog T 30 lens_Check_a=true:=by kernel_rfl
theorem ok_17:okFun Go.Proofs.Tryz.prog T 17 dict_Check_a=true:=by kernel_rfl
theorem ok_34:okFun Go.Proofs.Tryz.prog T 34 dict_sorted_1_a=true:=by kernel_rfl
theorem ok_152:okImp Go.Proofs.Tryz.prog T value_Copy_i2_a=true:=by kernel_rfl
theorem ok_67:okFun Go.Proofs.Tryz.prog T 67 math_bits_Len64_a=true:=by kernel_rfl
theorem ok_50:okFun Go.Proofs.Tryz.prog T 50 math_bits_Len_a=true:=by kernel_rfl
theorem ok_155:okImp Go.Proofs.Tryz.prog T slices_insertionSortCmpFunc_2_api_Value_i5_a=true:=by kernel_rfl
end Go.Ev.Zzj
namespace Go.Ev.Zzj
theorem ok_157:okImp Go.Proofs.Tryz.prog T slices_siftDownCmpFunc_2_api_Value_i7_a=true:=by kernel_rfl
theorem ok_156:okImp Go.Proofs.Tryz.prog T slices_heapSortCmpFunc_2_api_Value_i6_a=true:=by kernel_rfl
theorem ok_77:okFun Go.Proofs.Tryz.prog T 77 slices_nextPowerOfTwo_a=true:=by kernel_rfl
theorem ok_159:okImp Go.Proofs.Tryz.prog T slices_xorshift_Next_i9_a=true:=by kernel_rfl
theorem ok_158:okImp Go.Proofs.Tryz.prog T slices_breakPatternsCmpFunc_2_api_Value_i8_a=true:=by kernel_rfl
theorem ok_162:okImp Go.Proofs.Tryz.prog T slices_order2CmpFunc_2_api_Value_i12_a=true:=by kernel_rfl
theorem ok_161:okImp Go.Proofs.Tryz.prog T slices_medianCmpFunc_2_api_Value_i11_a=true:=by kernel_rfl
theorem ok_160:okImp Go.Proofs.Tryz.prog T slices_choosePivotCmpFunc_2_api_Value_i10_a=true:=by kernel_rfl
theorem ok_163:okImp Go.Proofs.Tryz.prog T slices_reverseRangeCmpFunc_2_api_Value_i13_a=true:=by kernel_rfl
end Go.Ev.Zzj
namespace Go.Ev.Zzj
theorem ok_164:okImp Go.Proofs.Tryz.prog T slices_partialInsertionSortCmpFunc_2_api_Value_i14_a=true:=by kernel_rfl
theorem ok_165:okImp Go.Proofs.Tryz.prog T slices_partitionEqualCmpFunc_2_api_Value_i15_a=true:=by kernel_rfl
end Go.Ev.Zzj
namespace Go.Ev.Zzj
theorem ok_166:okImp Go.Proofs.Tryz.prog T slices_partitionCmpFunc_2_api_Value_i16_a=true:=by kernel_rfl
theorem ok_154:okImp Go.Proofs.Tryz.prog T slices_pdqsortCmpFunc_2_api_Value_i4_a=true:=by kernel_rfl
theorem ok_153:okImp Go.Proofs.Tryz.prog T slices_SortFunc_2_api_Value_i3_a=true:=by kernel_rfl
theorem ok_19:okFun Go.Proofs.Tryz.prog T 19 dict_sorted_a=true:=by kernel_rfl
theorem ok_15:okFun Go.Proofs.Tryz.prog T 15 dict_Sort_a=true:=by kernel_rfl
end Go.Ev.Zzj
namespace Go.Ev.Zzj
theorem ok_4:okFun Go.Proofs.Tryz.prog T 4 claplaw3_looked_a=true:=by kernel_rfl
theorem ok_5:okFun Go.Proofs.Tryz.prog T 5 dict_Compose_a=true:=by kernel_rfl
theorem ok_20:okFun Go.Proofs.Tryz.prog T 20 clapref3_first_a=true:=by kernel_rfl
theorem ok_36:okFun Go.Proofs.Tryz.prog T 36 clapref3_plain_a=true:=by kernel_rfl
theorem ok_21:okFun Go.Proofs.Tryz.prog T 21 clapref3_Pairs_a=true:=by kernel_rfl
theorem ok_38:okFun Go.Proofs.Tryz.prog T 38 clapref3_spliced_2_api_Value_a=true:=by kernel_rfl
theorem ok_23:okFun Go.Proofs.Tryz.prog T 23 clapref3_Sorted_a=true:=by kernel_rfl
theorem ok_24:okFun Go.Proofs.Tryz.prog T 24 clapref3_id_a=true:=by kernel_rfl
theorem ok_167:okImp Go.Proofs.Tryz.prog T clapref3_maps_i17_a=true:=by kernel_rfl
theorem ok_6:okFun Go.Proofs.Tryz.prog T 6 clapref3_Compose_a=true:=by kernel_rfl
theorem ok_25:okFun Go.Proofs.Tryz.prog T 25 slices_EqualFunc_2_api_Value_a=true:=by kernel_rfl
theorem ok_26:okFun Go.Proofs.Tryz.prog T 26 claplaw3_samePair_a=true:=by kernel_rfl
theorem ok_7:okFun Go.Proofs.Tryz.prog T 7 claplaw3_samePairs_a=true:=by kernel_rfl
end Go.Ev.Zzj
namespace Go.Ev.Zzj
theorem ok_8:okFun Go.Proofs.Tryz.prog T 8 dict_Clashes_a=true:=by kernel_rfl
theorem ok_9:okFun Go.Proofs.Tryz.prog T 9 clapref3_Clashes_a=true:=by kernel_rfl
theorem ok_168:okImp Go.Proofs.Tryz.prog T slices_Clone_2_api_Value_i18_a=true:=by kernel_rfl
theorem ok_10:okFun Go.Proofs.Tryz.prog T 10 dict_Merge_a=true:=by kernel_rfl
theorem ok_11:okFun Go.Proofs.Tryz.prog T 11 clapref3_Merge_a=true:=by kernel_rfl
theorem ok_3:okFun Go.Proofs.Tryz.prog T 3 claplaw3_DictJoins_a=true:=by kernel_rfl
end Go.Ev.Zzj
