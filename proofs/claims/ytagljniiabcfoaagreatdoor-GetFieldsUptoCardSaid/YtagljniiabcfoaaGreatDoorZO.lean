/-
  A part of the proof: what the functions of the program compute.
-/
import Derived.Test.YtagljniiabcfoaaGreatDoorZTab
import Derived.Test.YtagljniiabcfoaaGreatDoorProg
set_option linter.all false
set_option maxRecDepth 100000
namespace Go.Ev.Zzg
theorem ok_13 : okFun Go.Proofs.Tryz.prog T 13 claplaw3_num_a = true := by kernel_rfl
theorem ok_6 : okFun Go.Proofs.Tryz.prog T 6 claplaw3_rec_a = true := by kernel_rfl
theorem ok_24 : okFun Go.Proofs.Tryz.prog T 24 value_order_a = true := by kernel_rfl
theorem ok_25 : okFun Go.Proofs.Tryz.prog T 25 cmp_Or_int_a = true := by kernel_rfl
theorem ok_40 : okFun Go.Proofs.Tryz.prog T 40 cmp_isNaN_int_a = true := by kernel_rfl
theorem ok_26 : okFun Go.Proofs.Tryz.prog T 26 cmp_Compare_int_a = true := by kernel_rfl
theorem ok_41 : okFun Go.Proofs.Tryz.prog T 41 internal_bytealg_CompareString_a = true := by kernel_rfl
theorem ok_27 : okFun Go.Proofs.Tryz.prog T 27 strings_Compare_a = true := by kernel_rfl
theorem ok_28 : okFun Go.Proofs.Tryz.prog T 28 slices_CompareFunc_api_Field_a = true := by kernel_rfl
theorem ok_29 : okFun Go.Proofs.Tryz.prog T 29 value_Cmp_1_a = true := by kernel_rfl
theorem ok_17 : okFun Go.Proofs.Tryz.prog T 17 value_Cmp_a = true := by kernel_rfl
theorem ok_9 : okFun Go.Proofs.Tryz.prog T 9 value_Same_a = true := by kernel_rfl
theorem ok_42 : okFun Go.Proofs.Tryz.prog T 42 value_Name_a = true := by kernel_rfl
theorem ok_70 : okFun Go.Proofs.Tryz.prog T 70 slices_IndexFunc_api_Def_a = true := by kernel_rfl
theorem ok_71 : okFun Go.Proofs.Tryz.prog T 71 types_find_1_a = true := by kernel_rfl
theorem ok_43 : okFun Go.Proofs.Tryz.prog T 43 types_find_a = true := by kernel_rfl
theorem ok_72 : okFun Go.Proofs.Tryz.prog T 72 types_Size_a = true := by kernel_rfl
theorem ok_73 : okFun Go.Proofs.Tryz.prog T 73 types_Deep_a = true := by kernel_rfl
theorem ok_142 : okFun Go.Proofs.Tryz.prog T 142 types_bounds_a = true := by kernel_rfl
theorem ok_143 : okFun Go.Proofs.Tryz.prog T 143 types_unused_a = true := by kernel_rfl
theorem ok_110 : okFun Go.Proofs.Tryz.prog T 110 slices_IndexFunc_api_Part_a = true := by kernel_rfl
theorem ok_130 : okFun Go.Proofs.Tryz.prog T 130 slices_ContainsFunc_api_Part_a = true := by kernel_rfl
theorem ok_169 : okFun Go.Proofs.Tryz.prog T 169 types_parts_1_a = true := by kernel_rfl
theorem ok_144 : okFun Go.Proofs.Tryz.prog T 144 types_parts_a = true := by kernel_rfl
theorem ok_106 : okFun Go.Proofs.Tryz.prog T 106 types_own_a = true := by kernel_rfl
theorem ok_74 : okFun Go.Proofs.Tryz.prog T 74 types_node_a = true := by kernel_rfl
theorem ok_44 : okFun Go.Proofs.Tryz.prog T 44 types_right_a = true := by kernel_rfl
theorem ok_45 : okFun Go.Proofs.Tryz.prog T 45 types_resolve_a = true := by kernel_rfl
theorem ok_30 : okFun Go.Proofs.Tryz.prog T 30 types_Check_a = true := by kernel_rfl
theorem ok_31 : okFun Go.Proofs.Tryz.prog T 31 types_Right_a = true := by kernel_rfl
theorem ok_46 : okFun Go.Proofs.Tryz.prog T 46 lens_Size_a = true := by kernel_rfl
end Go.Ev.Zzg
namespace Go.Ev.Zzg
theorem ok_47 : okFun Go.Proofs.Tryz.prog T 47 lens_Deep_a = true := by kernel_rfl
theorem ok_37 : okFun Go.Proofs.Tryz.prog T 37 value_Size_a = true := by kernel_rfl
theorem ok_38 : okFun Go.Proofs.Tryz.prog T 38 value_Deep_a = true := by kernel_rfl
theorem ok_103 : okFun Go.Proofs.Tryz.prog T 103 value_Scalar_a = true := by kernel_rfl
theorem ok_66 : okFun Go.Proofs.Tryz.prog T 66 value_unused_a = true := by kernel_rfl
theorem ok_67 : okFun Go.Proofs.Tryz.prog T 67 value_number_a = true := by kernel_rfl
theorem ok_14 : okFun Go.Proofs.Tryz.prog T 14 slices_IndexFunc_api_Field_a = true := by kernel_rfl
theorem ok_132 : okFun Go.Proofs.Tryz.prog T 132 slices_ContainsFunc_api_Field_a = true := by kernel_rfl
theorem ok_141 : okFun Go.Proofs.Tryz.prog T 141 value_names_1_a = true := by kernel_rfl
theorem ok_104 : okFun Go.Proofs.Tryz.prog T 104 value_names_a = true := by kernel_rfl
theorem ok_68 : okFun Go.Proofs.Tryz.prog T 68 value_fields_a = true := by kernel_rfl
theorem ok_39 : okFun Go.Proofs.Tryz.prog T 39 value_node_a = true := by kernel_rfl
theorem ok_21 : okFun Go.Proofs.Tryz.prog T 21 value_Check_a = true := by kernel_rfl
theorem ok_107 : okFun Go.Proofs.Tryz.prog T 107 lens_table_a = true := by kernel_rfl
theorem ok_145 : okFun Go.Proofs.Tryz.prog T 145 lens_Plain_a = true := by kernel_rfl
theorem ok_108 : okFun Go.Proofs.Tryz.prog T 108 lens_special_a = true := by kernel_rfl
theorem ok_75 : okFun Go.Proofs.Tryz.prog T 75 lens_Node_a = true := by kernel_rfl
theorem ok_48 : okFun Go.Proofs.Tryz.prog T 48 lens_walk_a = true := by kernel_rfl
theorem ok_32 : okFun Go.Proofs.Tryz.prog T 32 lens_Check_a = true := by kernel_rfl
theorem ok_263 : okImp Go.Proofs.Tryz.prog T typing_copyType_i3_a = true := by kernel_rfl
theorem ok_266 : okImp Go.Proofs.Tryz.prog T slices_Clone_api_Part_i6_a = true := by kernel_rfl
theorem ok_267 : okImp Go.Proofs.Tryz.prog T types_Copy_i7_a = true := by kernel_rfl
theorem ok_265 : okImp Go.Proofs.Tryz.prog T types_Copy_i5_a = true := by kernel_rfl
theorem ok_264 : okImp Go.Proofs.Tryz.prog T types_Resolve_i4_a = true := by kernel_rfl
end Go.Ev.Zzg
namespace Go.Ev.Zzg
theorem ok_128 : okFun Go.Proofs.Tryz.prog T 128 slices_EqualFunc_api_Field_a = true := by kernel_rfl
theorem ok_129 : okFun Go.Proofs.Tryz.prog T 129 types_fits_1_a = true := by kernel_rfl
theorem ok_131 : okFun Go.Proofs.Tryz.prog T 131 types_fits_2_a = true := by kernel_rfl
theorem ok_133 : okFun Go.Proofs.Tryz.prog T 133 types_fits_3_a = true := by kernel_rfl
theorem ok_91 : okFun Go.Proofs.Tryz.prog T 91 types_fits_a = true := by kernel_rfl
theorem ok_55 : okFun Go.Proofs.Tryz.prog T 55 types_has_a = true := by kernel_rfl
theorem ok_271 : okImp Go.Proofs.Tryz.prog T slices_Reverse_string_i11_a = true := by kernel_rfl
theorem ok_34 : okFun Go.Proofs.Tryz.prog T 34 types_Has_a = true := by kernel_rfl
theorem ok_111 : okFun Go.Proofs.Tryz.prog T 111 typing_find_1_a = true := by kernel_rfl
theorem ok_77 : okFun Go.Proofs.Tryz.prog T 77 typing_find_a = true := by kernel_rfl
theorem ok_269 : okImp Go.Proofs.Tryz.prog T typing_copyType_i9_a = true := by kernel_rfl
theorem ok_270 : okImp Go.Proofs.Tryz.prog T slices_Delete_api_Part_i10_a = true := by kernel_rfl
theorem ok_268 : okImp Go.Proofs.Tryz.prog T typing_fields_i8_a = true := by kernel_rfl
theorem ok_33 : okFun Go.Proofs.Tryz.prog T 33 typing_Of_a = true := by kernel_rfl
theorem ok_18 : okFun Go.Proofs.Tryz.prog T 18 typing_View_a = true := by kernel_rfl
theorem ok_19 : okFun Go.Proofs.Tryz.prog T 19 typing_Has_a = true := by kernel_rfl
theorem ok_261 : okImp Go.Proofs.Tryz.prog T slices_Clone_api_Field_i1_a = true := by kernel_rfl
theorem ok_262 : okImp Go.Proofs.Tryz.prog T value_Copy_i2_a = true := by kernel_rfl
theorem ok_260 : okImp Go.Proofs.Tryz.prog T value_Copy_i0_a = true := by kernel_rfl
theorem ok_59 : okFun Go.Proofs.Tryz.prog T 59 slices_Index_string_a = true := by kernel_rfl
theorem ok_15 : okFun Go.Proofs.Tryz.prog T 15 get_Find_1_a = true := by kernel_rfl
end Go.Ev.Zzg
namespace Go.Ev.Zzg
theorem ok_275 : okImp Go.Proofs.Tryz.prog T slices_IndexFunc_api_Field_i15_a = true := by kernel_rfl
theorem ok_274 : okImp Go.Proofs.Tryz.prog T get_Find_i14_a = true := by kernel_rfl
theorem ok_276 : okImp Go.Proofs.Tryz.prog T slices_Delete_api_Field_i16_a = true := by kernel_rfl
theorem ok_273 : okImp Go.Proofs.Tryz.prog T get_parts_i13_a = true := by kernel_rfl
theorem ok_20 : okFun Go.Proofs.Tryz.prog T 20 get_Of_a = true := by kernel_rfl
theorem ok_10 : okFun Go.Proofs.Tryz.prog T 10 get_Run_a = true := by kernel_rfl
theorem ok_11 : okFun Go.Proofs.Tryz.prog T 11 claplaw3_drop_a = true := by kernel_rfl
theorem ok_22 : okFun Go.Proofs.Tryz.prog T 22 claplaw3_digit_a = true := by kernel_rfl
theorem ok_12 : okFun Go.Proofs.Tryz.prog T 12 claplaw3_pair_a = true := by kernel_rfl
theorem ok_4 : okFun Go.Proofs.Tryz.prog T 4 claplaw3_seen_a = true := by kernel_rfl
theorem ok_5 : okFun Go.Proofs.Tryz.prog T 5 get_Find_a = true := by kernel_rfl
theorem ok_7 : okFun Go.Proofs.Tryz.prog T 7 value_Get_a = true := by kernel_rfl
theorem ok_8 : okFun Go.Proofs.Tryz.prog T 8 get_Chosen_a = true := by kernel_rfl
theorem ok_3 : okFun Go.Proofs.Tryz.prog T 3 claplaw3_GetFields_a = true := by kernel_rfl
end Go.Ev.Zzg
