/-
  A part of the proof: what the functions of the program compute.
-/
import Derived.Test.YtnlaheegimhdpaaDoorZTab
import Derived.Test.YtnlaheegimhdpaaDoorProg
set_option linter.all false
set_option maxRecDepth 100000
namespace Go.Ev.Zza
theorem ok_18 : okFun Go.Proofs.Tryd.prog T 18 claplaw3_num_a = true := by kernel_rfl
theorem ok_6 : okFun Go.Proofs.Tryd.prog T 6 claplaw3_drop_a = true := by kernel_rfl
theorem ok_11 : okFun Go.Proofs.Tryd.prog T 11 lens_Size_a = true := by kernel_rfl
theorem ok_22 : okFun Go.Proofs.Tryd.prog T 22 lens_Deep_a = true := by kernel_rfl
theorem ok_32 : okFun Go.Proofs.Tryd.prog T 32 value_order_a = true := by kernel_rfl
theorem ok_33 : okFun Go.Proofs.Tryd.prog T 33 cmp_Or_int_a = true := by kernel_rfl
theorem ok_44 : okFun Go.Proofs.Tryd.prog T 44 cmp_isNaN_int_a = true := by kernel_rfl
theorem ok_34 : okFun Go.Proofs.Tryd.prog T 34 cmp_Compare_int_a = true := by kernel_rfl
theorem ok_45 : okFun Go.Proofs.Tryd.prog T 45 internal_bytealg_CompareString_a = true := by kernel_rfl
theorem ok_35 : okFun Go.Proofs.Tryd.prog T 35 strings_Compare_a = true := by kernel_rfl
theorem ok_36 : okFun Go.Proofs.Tryd.prog T 36 slices_CompareFunc_api_Field_a = true := by kernel_rfl
theorem ok_37 : okFun Go.Proofs.Tryd.prog T 37 value_Cmp_1_a = true := by kernel_rfl
theorem ok_24 : okFun Go.Proofs.Tryd.prog T 24 value_Cmp_a = true := by kernel_rfl
theorem ok_14 : okFun Go.Proofs.Tryd.prog T 14 value_Same_a = true := by kernel_rfl
theorem ok_28 : okFun Go.Proofs.Tryd.prog T 28 lens_table_a = true := by kernel_rfl
theorem ok_41 : okFun Go.Proofs.Tryd.prog T 41 value_Name_a = true := by kernel_rfl
theorem ok_47 : okFun Go.Proofs.Tryd.prog T 47 value_Size_a = true := by kernel_rfl
theorem ok_48 : okFun Go.Proofs.Tryd.prog T 48 value_Deep_a = true := by kernel_rfl
theorem ok_68 : okFun Go.Proofs.Tryd.prog T 68 value_Scalar_a = true := by kernel_rfl
theorem ok_58 : okFun Go.Proofs.Tryd.prog T 58 value_unused_a = true := by kernel_rfl
theorem ok_59 : okFun Go.Proofs.Tryd.prog T 59 value_number_a = true := by kernel_rfl
theorem ok_85 : okFun Go.Proofs.Tryd.prog T 85 slices_IndexFunc_api_Field_a = true := by kernel_rfl
theorem ok_79 : okFun Go.Proofs.Tryd.prog T 79 slices_ContainsFunc_api_Field_a = true := by kernel_rfl
theorem ok_80 : okFun Go.Proofs.Tryd.prog T 80 value_names_1_a = true := by kernel_rfl
theorem ok_69 : okFun Go.Proofs.Tryd.prog T 69 value_names_a = true := by kernel_rfl
theorem ok_70 : okFun Go.Proofs.Tryd.prog T 70 value_keys_a = true := by kernel_rfl
theorem ok_60 : okFun Go.Proofs.Tryd.prog T 60 value_fields_a = true := by kernel_rfl
theorem ok_49 : okFun Go.Proofs.Tryd.prog T 49 value_node_a = true := by kernel_rfl
theorem ok_42 : okFun Go.Proofs.Tryd.prog T 42 value_Check_a = true := by kernel_rfl
theorem ok_9 : okFun Go.Proofs.Tryd.prog T 9 lens_Plain_a = true := by kernel_rfl
theorem ok_71 : okFun Go.Proofs.Tryd.prog T 71 slices_Index_string_a = true := by kernel_rfl
theorem ok_61 : okFun Go.Proofs.Tryd.prog T 61 slices_Contains_string_a = true := by kernel_rfl
theorem ok_50 : okFun Go.Proofs.Tryd.prog T 50 lens_names_a = true := by kernel_rfl
theorem ok_72 : okFun Go.Proofs.Tryd.prog T 72 pattern_parse_a = true := by kernel_rfl
theorem ok_62 : okFun Go.Proofs.Tryd.prog T 62 pattern_build_a = true := by kernel_rfl
theorem ok_51 : okFun Go.Proofs.Tryd.prog T 51 pattern_Check_a = true := by kernel_rfl
theorem ok_52 : okFun Go.Proofs.Tryd.prog T 52 lens_pairs_a = true := by kernel_rfl
theorem ok_43 : okFun Go.Proofs.Tryd.prog T 43 lens_special_a = true := by kernel_rfl
end Go.Ev.Zza
namespace Go.Ev.Zza
theorem ok_31 : okFun Go.Proofs.Tryd.prog T 31 lens_Node_a = true := by kernel_rfl
end Go.Ev.Zza
namespace Go.Ev.Zza
theorem ok_23 : okFun Go.Proofs.Tryd.prog T 23 lens_walk_a = true := by kernel_rfl
theorem ok_12 : okFun Go.Proofs.Tryd.prog T 12 lens_Check_a = true := by kernel_rfl
theorem ok_27 : okFun Go.Proofs.Tryd.prog T 27 lens_word_a = true := by kernel_rfl
theorem ok_54 : okFun Go.Proofs.Tryd.prog T 54 internal_strconv_small_a = true := by kernel_rfl
theorem ok_63 : okFun Go.Proofs.Tryd.prog T 63 internal_strconv_log10Pow2_a = true := by kernel_rfl
theorem ok_64 : okFun Go.Proofs.Tryd.prog T 64 math_bits_Len64_a = true := by kernel_rfl
theorem ok_55 : okFun Go.Proofs.Tryd.prog T 55 internal_strconv_numDigits_a = true := by kernel_rfl
theorem ok_46 : okFun Go.Proofs.Tryd.prog T 46 internal_strconv_FormatInt_a = true := by kernel_rfl
theorem ok_38 : okFun Go.Proofs.Tryd.prog T 38 internal_strconv_Itoa_a = true := by kernel_rfl
theorem ok_29 : okFun Go.Proofs.Tryd.prog T 29 strconv_Itoa_a = true := by kernel_rfl
theorem ok_127 : okImp Go.Proofs.Tryd.prog T lens_printer_put_i5_a = true := by kernel_rfl
theorem ok_39 : okFun Go.Proofs.Tryd.prog T 39 lens_quote_a = true := by kernel_rfl
theorem ok_129 : okImp Go.Proofs.Tryd.prog T lens_printer_value_i7_a = true := by kernel_rfl
theorem ok_128 : okImp Go.Proofs.Tryd.prog T lens_printer_rest_i6_a = true := by kernel_rfl
theorem ok_126 : okImp Go.Proofs.Tryd.prog T lens_printer_lens_i4_a = true := by kernel_rfl
theorem ok_10 : okFun Go.Proofs.Tryd.prog T 10 lens_Text_a = true := by kernel_rfl
theorem ok_4 : okFun Go.Proofs.Tryd.prog T 4 claplaw3_formed_a = true := by kernel_rfl
theorem ok_13 : okFun Go.Proofs.Tryd.prog T 13 slices_Equal_string_a = true := by kernel_rfl
theorem ok_15 : okFun Go.Proofs.Tryd.prog T 15 slices_EqualFunc_2_api_Value_a = true := by kernel_rfl
theorem ok_16 : okFun Go.Proofs.Tryd.prog T 16 lens_samePair_a = true := by kernel_rfl
theorem ok_17 : okFun Go.Proofs.Tryd.prog T 17 slices_EqualFunc_api_Lens_a = true := by kernel_rfl
theorem ok_5 : okFun Go.Proofs.Tryd.prog T 5 lens_Equal_a = true := by kernel_rfl
theorem ok_19 : okFun Go.Proofs.Tryd.prog T 19 clapref3_same_a = true := by kernel_rfl
theorem ok_7 : okFun Go.Proofs.Tryd.prog T 7 clapref3_Equal_a = true := by kernel_rfl
theorem ok_124 : okImp Go.Proofs.Tryd.prog T slices_Clone_api_Field_i2_a = true := by kernel_rfl
theorem ok_125 : okImp Go.Proofs.Tryd.prog T value_Copy_i3_a = true := by kernel_rfl
theorem ok_123 : okImp Go.Proofs.Tryd.prog T value_Copy_i1_a = true := by kernel_rfl
end Go.Ev.Zza
namespace Go.Ev.Zza
theorem ok_122 : okImp Go.Proofs.Tryd.prog T lens_Copy_i0_a = true := by kernel_rfl
theorem ok_3 : okFun Go.Proofs.Tryd.prog T 3 claplaw3_LensEquals_a = true := by kernel_rfl
end Go.Ev.Zza
