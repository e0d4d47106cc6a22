/-
  A part of the proof: what the functions of the program compute.
-/
import Derived.Test.YtpagadadfpmeaaaGreatDoorZTab
import Derived.Test.YtpagadadfpmeaaaGreatDoorProg
set_option linter.all false
set_option maxRecDepth 100000
namespace Go.Ev.Zzl
theorem ok_9 : okFun Go.Proofs.Tryz.prog T 9 lens_Size_a = true := by kernel_rfl
theorem ok_11 : okFun Go.Proofs.Tryz.prog T 11 lens_Deep_a = true := by kernel_rfl
theorem ok_16 : okFun Go.Proofs.Tryz.prog T 16 lens_table_a = true := by kernel_rfl
theorem ok_46 : okFun Go.Proofs.Tryz.prog T 46 value_order_a = true := by kernel_rfl
theorem ok_47 : okFun Go.Proofs.Tryz.prog T 47 cmp_Or_int_a = true := by kernel_rfl
theorem ok_64 : okFun Go.Proofs.Tryz.prog T 64 cmp_isNaN_int_a = true := by kernel_rfl
theorem ok_48 : okFun Go.Proofs.Tryz.prog T 48 cmp_Compare_int_a = true := by kernel_rfl
theorem ok_65 : okFun Go.Proofs.Tryz.prog T 65 internal_bytealg_CompareString_a = true := by kernel_rfl
theorem ok_49 : okFun Go.Proofs.Tryz.prog T 49 strings_Compare_a = true := by kernel_rfl
theorem ok_50 : okFun Go.Proofs.Tryz.prog T 50 slices_CompareFunc_api_Field_a = true := by kernel_rfl
theorem ok_51 : okFun Go.Proofs.Tryz.prog T 51 value_Cmp_1_a = true := by kernel_rfl
theorem ok_29 : okFun Go.Proofs.Tryz.prog T 29 value_Cmp_a = true := by kernel_rfl
theorem ok_17 : okFun Go.Proofs.Tryz.prog T 17 value_Same_a = true := by kernel_rfl
theorem ok_18 : okFun Go.Proofs.Tryz.prog T 18 value_Name_a = true := by kernel_rfl
theorem ok_30 : okFun Go.Proofs.Tryz.prog T 30 value_Size_a = true := by kernel_rfl
theorem ok_31 : okFun Go.Proofs.Tryz.prog T 31 value_Deep_a = true := by kernel_rfl
theorem ok_66 : okFun Go.Proofs.Tryz.prog T 66 value_Scalar_a = true := by kernel_rfl
theorem ok_52 : okFun Go.Proofs.Tryz.prog T 52 value_unused_a = true := by kernel_rfl
theorem ok_53 : okFun Go.Proofs.Tryz.prog T 53 value_number_a = true := by kernel_rfl
end Go.Ev.Zzl
namespace Go.Ev.Zzl
theorem ok_95 : okFun Go.Proofs.Tryz.prog T 95 slices_IndexFunc_api_Field_a = true := by kernel_rfl
theorem ok_80 : okFun Go.Proofs.Tryz.prog T 80 slices_ContainsFunc_api_Field_a = true := by kernel_rfl
theorem ok_81 : okFun Go.Proofs.Tryz.prog T 81 value_names_1_a = true := by kernel_rfl
theorem ok_67 : okFun Go.Proofs.Tryz.prog T 67 value_names_a = true := by kernel_rfl
theorem ok_68 : okFun Go.Proofs.Tryz.prog T 68 value_keys_a = true := by kernel_rfl
theorem ok_54 : okFun Go.Proofs.Tryz.prog T 54 value_fields_a = true := by kernel_rfl
theorem ok_32 : okFun Go.Proofs.Tryz.prog T 32 value_node_a = true := by kernel_rfl
theorem ok_19 : okFun Go.Proofs.Tryz.prog T 19 value_Check_a = true := by kernel_rfl
theorem ok_33 : okFun Go.Proofs.Tryz.prog T 33 lens_Plain_a = true := by kernel_rfl
theorem ok_69 : okFun Go.Proofs.Tryz.prog T 69 slices_Index_string_a = true := by kernel_rfl
theorem ok_55 : okFun Go.Proofs.Tryz.prog T 55 slices_Contains_string_a = true := by kernel_rfl
theorem ok_34 : okFun Go.Proofs.Tryz.prog T 34 lens_names_a = true := by kernel_rfl
theorem ok_145 : okImp Go.Proofs.Tryz.prog T pattern_reader_more_i3_a = true := by kernel_rfl
theorem ok_146 : okImp Go.Proofs.Tryz.prog T pattern_reader_peek_i4_a = true := by kernel_rfl
theorem ok_60 : okFun Go.Proofs.Tryz.prog T 60 internal_stringslite_IndexByte_a = true := by kernel_rfl
theorem ok_39 : okFun Go.Proofs.Tryz.prog T 39 strings_IndexByte_a = true := by kernel_rfl
theorem ok_149 : okImp Go.Proofs.Tryz.prog T pattern_class_turn_i7_a = true := by kernel_rfl
theorem ok_151 : okImp Go.Proofs.Tryz.prog T pattern_reader_single_i9_a = true := by kernel_rfl
theorem ok_152 : okImp Go.Proofs.Tryz.prog T pattern_class_add_i10_a = true := by kernel_rfl
end Go.Ev.Zzl
namespace Go.Ev.Zzl
theorem ok_150 : okImp Go.Proofs.Tryz.prog T pattern_reader_bytes_i8_a = true := by kernel_rfl
theorem ok_154 : okImp Go.Proofs.Tryz.prog T pattern_set_add_i12_a = true := by kernel_rfl
theorem ok_155 : okImp Go.Proofs.Tryz.prog T pattern_set_add_i13_a = true := by kernel_rfl
theorem ok_153 : okImp Go.Proofs.Tryz.prog T pattern_reader_position_i11_a = true := by kernel_rfl
theorem ok_148 : okImp Go.Proofs.Tryz.prog T pattern_reader_atom_i6_a = true := by kernel_rfl
theorem ok_84 : okFun Go.Proofs.Tryz.prog T 84 pattern_set_has_a = true := by kernel_rfl
theorem ok_157 : okImp Go.Proofs.Tryz.prog T pattern_set_join_i15_a = true := by kernel_rfl
end Go.Ev.Zzl
namespace Go.Ev.Zzl
theorem ok_156 : okImp Go.Proofs.Tryz.prog T pattern_reader_link_i14_a = true := by kernel_rfl
theorem ok_147 : okImp Go.Proofs.Tryz.prog T pattern_reader_item_i5_a = true := by kernel_rfl
theorem ok_158 : okImp Go.Proofs.Tryz.prog T pattern_set_join_i16_a = true := by kernel_rfl
theorem ok_159 : okImp Go.Proofs.Tryz.prog T pattern_set_join_i17_a = true := by kernel_rfl
theorem ok_144 : okImp Go.Proofs.Tryz.prog T pattern_reader_sequence_i2_a = true := by kernel_rfl
theorem ok_143 : okImp Go.Proofs.Tryz.prog T pattern_reader_alternatives_i1_a = true := by kernel_rfl
theorem ok_70 : okFun Go.Proofs.Tryz.prog T 70 pattern_parse_a = true := by kernel_rfl
theorem ok_83 : okFun Go.Proofs.Tryz.prog T 83 pattern_class_has_a = true := by kernel_rfl
theorem ok_160 : okImp Go.Proofs.Tryz.prog T pattern_set_add_i18_a = true := by kernel_rfl
end Go.Ev.Zzl
namespace Go.Ev.Zzl
theorem ok_72 : okFun Go.Proofs.Tryz.prog T 72 pattern_plan_at_a = true := by kernel_rfl
theorem ok_161 : okImp Go.Proofs.Tryz.prog T pattern_set_join_i19_a = true := by kernel_rfl
theorem ok_73 : okFun Go.Proofs.Tryz.prog T 73 pattern_plan_behind_a = true := by kernel_rfl
theorem ok_74 : okFun Go.Proofs.Tryz.prog T 74 pattern_plan_ends_a = true := by kernel_rfl
theorem ok_142 : okImp Go.Proofs.Tryz.prog T pattern_set_add_i0_a = true := by kernel_rfl
theorem ok_56 : okFun Go.Proofs.Tryz.prog T 56 pattern_build_a = true := by kernel_rfl
theorem ok_35 : okFun Go.Proofs.Tryz.prog T 35 pattern_Check_a = true := by kernel_rfl
theorem ok_36 : okFun Go.Proofs.Tryz.prog T 36 lens_pairs_a = true := by kernel_rfl
end Go.Ev.Zzl
namespace Go.Ev.Zzl
theorem ok_20 : okFun Go.Proofs.Tryz.prog T 20 lens_special_a = true := by kernel_rfl
theorem ok_7 : okFun Go.Proofs.Tryz.prog T 7 lens_Node_a = true := by kernel_rfl
theorem ok_15 : okFun Go.Proofs.Tryz.prog T 15 lens_walk_a = true := by kernel_rfl
theorem ok_5 : okFun Go.Proofs.Tryz.prog T 5 lens_Check_a = true := by kernel_rfl
theorem ok_43 : okFun Go.Proofs.Tryz.prog T 43 lens_word_a = true := by kernel_rfl
theorem ok_163 : okImp Go.Proofs.Tryz.prog T lens_printer_put_i21_a = true := by kernel_rfl
theorem ok_62 : okFun Go.Proofs.Tryz.prog T 62 lens_quote_a = true := by kernel_rfl
theorem ok_165 : okImp Go.Proofs.Tryz.prog T lens_printer_value_i23_a = true := by kernel_rfl
theorem ok_164 : okImp Go.Proofs.Tryz.prog T lens_printer_rest_i22_a = true := by kernel_rfl
end Go.Ev.Zzl
namespace Go.Ev.Zzl
theorem ok_162 : okImp Go.Proofs.Tryz.prog T lens_printer_lens_i20_a = true := by kernel_rfl
theorem ok_13 : okFun Go.Proofs.Tryz.prog T 13 lens_Text_a = true := by kernel_rfl
theorem ok_28 : okFun Go.Proofs.Tryz.prog T 28 claplaw3_num_a = true := by kernel_rfl
theorem ok_14 : okFun Go.Proofs.Tryz.prog T 14 claplaw3_drop_a = true := by kernel_rfl
theorem ok_4 : okFun Go.Proofs.Tryz.prog T 4 claplaw3_formed_a = true := by kernel_rfl
theorem ok_57 : okFun Go.Proofs.Tryz.prog T 57 strings_FieldsFunc_a = true := by kernel_rfl
theorem ok_58 : okFun Go.Proofs.Tryz.prog T 58 unicode_IsSpace_a = true := by kernel_rfl
theorem ok_37 : okFun Go.Proofs.Tryz.prog T 37 strings_Fields_a = true := by kernel_rfl
theorem ok_76 : okFun Go.Proofs.Tryz.prog T 76 internal_stringslite_Index_a = true := by kernel_rfl
theorem ok_59 : okFun Go.Proofs.Tryz.prog T 59 internal_stringslite_Cut_a = true := by kernel_rfl
theorem ok_38 : okFun Go.Proofs.Tryz.prog T 38 strings_Cut_a = true := by kernel_rfl
theorem ok_21 : okFun Go.Proofs.Tryz.prog T 21 clapref3_used_a = true := by kernel_rfl
theorem ok_22 : okFun Go.Proofs.Tryz.prog T 22 clapref3_same_a = true := by kernel_rfl
theorem ok_23 : okFun Go.Proofs.Tryz.prog T 23 clapref3_Zero_a = true := by kernel_rfl
theorem ok_24 : okFun Go.Proofs.Tryz.prog T 24 clapref3_has_a = true := by kernel_rfl
theorem ok_25 : okFun Go.Proofs.Tryz.prog T 25 clapref3_plain_a = true := by kernel_rfl
theorem ok_40 : okFun Go.Proofs.Tryz.prog T 40 clapref3_distinct_a = true := by kernel_rfl
theorem ok_41 : okFun Go.Proofs.Tryz.prog T 41 clapref3_Pairs_a = true := by kernel_rfl
theorem ok_26 : okFun Go.Proofs.Tryz.prog T 26 clapref3_lists_a = true := by kernel_rfl
end Go.Ev.Zzl
namespace Go.Ev.Zzl
theorem ok_8 : okFun Go.Proofs.Tryz.prog T 8 clapref3_Node_a = true := by kernel_rfl
theorem ok_10 : okFun Go.Proofs.Tryz.prog T 10 clapref3_Nodes_a = true := by kernel_rfl
theorem ok_12 : okFun Go.Proofs.Tryz.prog T 12 clapref3_Levels_a = true := by kernel_rfl
theorem ok_6 : okFun Go.Proofs.Tryz.prog T 6 clapref3_Check_a = true := by kernel_rfl
theorem ok_3 : okFun Go.Proofs.Tryz.prog T 3 claplaw3_LensChecks_a = true := by kernel_rfl
end Go.Ev.Zzl
