/-
  A part of the proof: what the functions of the program compute.
-/
import Derived.Test.YtgiibefjiloafaaGreatDoorZTab
import Derived.Test.YtgiibefjiloafaaGreatDoorProg
set_option linter.all false
set_option maxRecDepth 100000
namespace Go.Ev.Zzt
theorem ok_41:okFun Go.Proofs.Tryz.prog T 41 types_Size_a=true:=by kernel_rfl
theorem ok_42:okFun Go.Proofs.Tryz.prog T 42 types_Deep_a=true:=by kernel_rfl
theorem ok_58:okFun Go.Proofs.Tryz.prog T 58 slices_IndexFunc_api_Def_a=true:=by kernel_rfl
theorem ok_59:okFun Go.Proofs.Tryz.prog T 59 types_find_1_a=true:=by kernel_rfl
theorem ok_31:okFun Go.Proofs.Tryz.prog T 31 types_find_a=true:=by kernel_rfl
theorem ok_220:okImp Go.Proofs.Tryz.prog T pattern_reader_more_i3_a=true:=by kernel_rfl
theorem ok_221:okImp Go.Proofs.Tryz.prog T pattern_reader_peek_i4_a=true:=by kernel_rfl
theorem ok_158:okFun Go.Proofs.Tryz.prog T 158 internal_stringslite_IndexByte_a=true:=by kernel_rfl
theorem ok_120:okFun Go.Proofs.Tryz.prog T 120 strings_IndexByte_a=true:=by kernel_rfl
theorem ok_224:okImp Go.Proofs.Tryz.prog T pattern_class_turn_i7_a=true:=by kernel_rfl
theorem ok_226:okImp Go.Proofs.Tryz.prog T pattern_reader_single_i9_a=true:=by kernel_rfl
theorem ok_227:okImp Go.Proofs.Tryz.prog T pattern_class_add_i10_a=true:=by kernel_rfl
theorem ok_225:okImp Go.Proofs.Tryz.prog T pattern_reader_bytes_i8_a=true:=by kernel_rfl
theorem ok_229:okImp Go.Proofs.Tryz.prog T pattern_set_add_i12_a=true:=by kernel_rfl
end Go.Ev.Zzt
namespace Go.Ev.Zzt
theorem ok_230:okImp Go.Proofs.Tryz.prog T pattern_set_add_i13_a=true:=by kernel_rfl
theorem ok_228:okImp Go.Proofs.Tryz.prog T pattern_reader_position_i11_a=true:=by kernel_rfl
theorem ok_223:okImp Go.Proofs.Tryz.prog T pattern_reader_atom_i6_a=true:=by kernel_rfl
theorem ok_163:okFun Go.Proofs.Tryz.prog T 163 pattern_set_has_a=true:=by kernel_rfl
theorem ok_232:okImp Go.Proofs.Tryz.prog T pattern_set_join_i15_a=true:=by kernel_rfl
theorem ok_231:okImp Go.Proofs.Tryz.prog T pattern_reader_link_i14_a=true:=by kernel_rfl
theorem ok_222:okImp Go.Proofs.Tryz.prog T pattern_reader_item_i5_a=true:=by kernel_rfl
theorem ok_233:okImp Go.Proofs.Tryz.prog T pattern_set_join_i16_a=true:=by kernel_rfl
theorem ok_234:okImp Go.Proofs.Tryz.prog T pattern_set_join_i17_a=true:=by kernel_rfl
end Go.Ev.Zzt
namespace Go.Ev.Zzt
theorem ok_219:okImp Go.Proofs.Tryz.prog T pattern_reader_sequence_i2_a=true:=by kernel_rfl
theorem ok_218:okImp Go.Proofs.Tryz.prog T pattern_reader_alternatives_i1_a=true:=by kernel_rfl
theorem ok_126:okFun Go.Proofs.Tryz.prog T 126 pattern_parse_a=true:=by kernel_rfl
theorem ok_162:okFun Go.Proofs.Tryz.prog T 162 pattern_class_has_a=true:=by kernel_rfl
theorem ok_235:okImp Go.Proofs.Tryz.prog T pattern_set_add_i18_a=true:=by kernel_rfl
theorem ok_128:okFun Go.Proofs.Tryz.prog T 128 pattern_plan_at_a=true:=by kernel_rfl
theorem ok_236:okImp Go.Proofs.Tryz.prog T pattern_set_join_i19_a=true:=by kernel_rfl
theorem ok_129:okFun Go.Proofs.Tryz.prog T 129 pattern_plan_behind_a=true:=by kernel_rfl
theorem ok_130:okFun Go.Proofs.Tryz.prog T 130 pattern_plan_ends_a=true:=by kernel_rfl
theorem ok_217:okImp Go.Proofs.Tryz.prog T pattern_set_add_i0_a=true:=by kernel_rfl
end Go.Ev.Zzt
namespace Go.Ev.Zzt
theorem ok_104:okFun Go.Proofs.Tryz.prog T 104 pattern_build_a=true:=by kernel_rfl
theorem ok_95:okFun Go.Proofs.Tryz.prog T 95 pattern_Check_a=true:=by kernel_rfl
theorem ok_101:okFun Go.Proofs.Tryz.prog T 101 types_bounds_a=true:=by kernel_rfl
theorem ok_102:okFun Go.Proofs.Tryz.prog T 102 types_unused_a=true:=by kernel_rfl
theorem ok_30:okFun Go.Proofs.Tryz.prog T 30 value_Name_a=true:=by kernel_rfl
theorem ok_51:okFun Go.Proofs.Tryz.prog T 51 slices_IndexFunc_api_Part_a=true:=by kernel_rfl
theorem ok_47:okFun Go.Proofs.Tryz.prog T 47 slices_ContainsFunc_api_Part_a=true:=by kernel_rfl
theorem ok_125:okFun Go.Proofs.Tryz.prog T 125 types_parts_1_a=true:=by kernel_rfl
theorem ok_103:okFun Go.Proofs.Tryz.prog T 103 types_parts_a=true:=by kernel_rfl
theorem ok_75:okFun Go.Proofs.Tryz.prog T 75 types_own_a=true:=by kernel_rfl
end Go.Ev.Zzt
namespace Go.Ev.Zzt
theorem ok_43:okFun Go.Proofs.Tryz.prog T 43 types_node_a=true:=by kernel_rfl
theorem ok_22:okFun Go.Proofs.Tryz.prog T 22 types_right_a=true:=by kernel_rfl
theorem ok_23:okFun Go.Proofs.Tryz.prog T 23 types_resolve_a=true:=by kernel_rfl
theorem ok_19:okFun Go.Proofs.Tryz.prog T 19 types_Check_a=true:=by kernel_rfl
theorem ok_13:okFun Go.Proofs.Tryz.prog T 13 types_Right_a=true:=by kernel_rfl
theorem ok_32:okFun Go.Proofs.Tryz.prog T 32 lens_Size_a=true:=by kernel_rfl
theorem ok_33:okFun Go.Proofs.Tryz.prog T 33 lens_Deep_a=true:=by kernel_rfl
theorem ok_16:okFun Go.Proofs.Tryz.prog T 16 value_Size_a=true:=by kernel_rfl
theorem ok_17:okFun Go.Proofs.Tryz.prog T 17 value_Deep_a=true:=by kernel_rfl
theorem ok_55:okFun Go.Proofs.Tryz.prog T 55 value_Scalar_a=true:=by kernel_rfl
theorem ok_27:okFun Go.Proofs.Tryz.prog T 27 value_unused_a=true:=by kernel_rfl
theorem ok_28:okFun Go.Proofs.Tryz.prog T 28 value_number_a=true:=by kernel_rfl
theorem ok_77:okFun Go.Proofs.Tryz.prog T 77 slices_IndexFunc_api_Field_a=true:=by kernel_rfl
theorem ok_49:okFun Go.Proofs.Tryz.prog T 49 slices_ContainsFunc_api_Field_a=true:=by kernel_rfl
theorem ok_80:okFun Go.Proofs.Tryz.prog T 80 value_names_1_a=true:=by kernel_rfl
theorem ok_56:okFun Go.Proofs.Tryz.prog T 56 value_names_a=true:=by kernel_rfl
theorem ok_57:okFun Go.Proofs.Tryz.prog T 57 value_keys_a=true:=by kernel_rfl
theorem ok_29:okFun Go.Proofs.Tryz.prog T 29 value_fields_a=true:=by kernel_rfl
end Go.Ev.Zzt
namespace Go.Ev.Zzt
theorem ok_18:okFun Go.Proofs.Tryz.prog T 18 value_node_a=true:=by kernel_rfl
theorem ok_9:okFun Go.Proofs.Tryz.prog T 9 value_Check_a=true:=by kernel_rfl
theorem ok_81:okFun Go.Proofs.Tryz.prog T 81 lens_table_a=true:=by kernel_rfl
theorem ok_136:okFun Go.Proofs.Tryz.prog T 136 value_order_a=true:=by kernel_rfl
theorem ok_137:okFun Go.Proofs.Tryz.prog T 137 cmp_Or_int_a=true:=by kernel_rfl
theorem ok_167:okFun Go.Proofs.Tryz.prog T 167 cmp_isNaN_int_a=true:=by kernel_rfl
theorem ok_138:okFun Go.Proofs.Tryz.prog T 138 cmp_Compare_int_a=true:=by kernel_rfl
theorem ok_168:okFun Go.Proofs.Tryz.prog T 168 internal_bytealg_CompareString_a=true:=by kernel_rfl
theorem ok_139:okFun Go.Proofs.Tryz.prog T 139 strings_Compare_a=true:=by kernel_rfl
theorem ok_140:okFun Go.Proofs.Tryz.prog T 140 slices_CompareFunc_api_Field_a=true:=by kernel_rfl
theorem ok_141:okFun Go.Proofs.Tryz.prog T 141 value_Cmp_1_a=true:=by kernel_rfl
theorem ok_109:okFun Go.Proofs.Tryz.prog T 109 value_Cmp_a=true:=by kernel_rfl
theorem ok_82:okFun Go.Proofs.Tryz.prog T 82 value_Same_a=true:=by kernel_rfl
theorem ok_110:okFun Go.Proofs.Tryz.prog T 110 lens_Plain_a=true:=by kernel_rfl
theorem ok_83:okFun Go.Proofs.Tryz.prog T 83 lens_special_a=true:=by kernel_rfl
theorem ok_60:okFun Go.Proofs.Tryz.prog T 60 lens_Node_a=true:=by kernel_rfl
theorem ok_34:okFun Go.Proofs.Tryz.prog T 34 lens_walk_a=true:=by kernel_rfl
theorem ok_20:okFun Go.Proofs.Tryz.prog T 20 lens_Check_a=true:=by kernel_rfl
theorem ok_237:okImp Go.Proofs.Tryz.prog T typing_copyType_i20_a=true:=by kernel_rfl
theorem ok_240:okImp Go.Proofs.Tryz.prog T slices_Clone_api_Part_i23_a=true:=by kernel_rfl
theorem ok_241:okImp Go.Proofs.Tryz.prog T types_Copy_i24_a=true:=by kernel_rfl
theorem ok_239:okImp Go.Proofs.Tryz.prog T types_Copy_i22_a=true:=by kernel_rfl
end Go.Ev.Zzt
namespace Go.Ev.Zzt
theorem ok_238:okImp Go.Proofs.Tryz.prog T types_Resolve_i21_a=true:=by kernel_rfl
theorem ok_76:okFun Go.Proofs.Tryz.prog T 76 pattern_Match_a=true:=by kernel_rfl
theorem ok_44:okFun Go.Proofs.Tryz.prog T 44 types_matches_a=true:=by kernel_rfl
theorem ok_45:okFun Go.Proofs.Tryz.prog T 45 slices_EqualFunc_api_Field_a=true:=by kernel_rfl
theorem ok_46:okFun Go.Proofs.Tryz.prog T 46 types_fits_1_a=true:=by kernel_rfl
theorem ok_48:okFun Go.Proofs.Tryz.prog T 48 types_fits_2_a=true:=by kernel_rfl
theorem ok_50:okFun Go.Proofs.Tryz.prog T 50 types_fits_3_a=true:=by kernel_rfl
theorem ok_24:okFun Go.Proofs.Tryz.prog T 24 types_fits_a=true:=by kernel_rfl
theorem ok_52:okFun Go.Proofs.Tryz.prog T 52 types_Part_1_a=true:=by kernel_rfl
theorem ok_25:okFun Go.Proofs.Tryz.prog T 25 types_Part_a=true:=by kernel_rfl
theorem ok_245:okImp Go.Proofs.Tryz.prog T types_has_i28_a=true:=by kernel_rfl
theorem ok_246:okImp Go.Proofs.Tryz.prog T slices_Reverse_string_i29_a=true:=by kernel_rfl
theorem ok_8:okFun Go.Proofs.Tryz.prog T 8 types_Has_a=true:=by kernel_rfl
theorem ok_84:okFun Go.Proofs.Tryz.prog T 84 typing_find_1_a=true:=by kernel_rfl
theorem ok_61:okFun Go.Proofs.Tryz.prog T 61 typing_find_a=true:=by kernel_rfl
theorem ok_243:okImp Go.Proofs.Tryz.prog T typing_copyType_i26_a=true:=by kernel_rfl
theorem ok_244:okImp Go.Proofs.Tryz.prog T slices_Delete_api_Part_i27_a=true:=by kernel_rfl
theorem ok_242:okImp Go.Proofs.Tryz.prog T typing_fields_i25_a=true:=by kernel_rfl
end Go.Ev.Zzt
namespace Go.Ev.Zzt
theorem ok_21:okFun Go.Proofs.Tryz.prog T 21 typing_Of_a=true:=by kernel_rfl
theorem ok_10:okFun Go.Proofs.Tryz.prog T 10 typing_View_a=true:=by kernel_rfl
theorem ok_7:okFun Go.Proofs.Tryz.prog T 7 claplaw3_num_a=true:=by kernel_rfl
theorem ok_11:okFun Go.Proofs.Tryz.prog T 11 claplaw3_drop_a=true:=by kernel_rfl
theorem ok_6:okFun Go.Proofs.Tryz.prog T 6 claplaw3_digit_a=true:=by kernel_rfl
theorem ok_12:okFun Go.Proofs.Tryz.prog T 12 claplaw3_pair_a=true:=by kernel_rfl
theorem ok_4:okFun Go.Proofs.Tryz.prog T 4 claplaw3_viewed_a=true:=by kernel_rfl
theorem ok_5:okFun Go.Proofs.Tryz.prog T 5 typing_Has_a=true:=by kernel_rfl
theorem ok_3:okFun Go.Proofs.Tryz.prog T 3 claplaw3_TypingHas_a=true:=by kernel_rfl
end Go.Ev.Zzt
