/-
  A part of the proof: what the functions of the program compute.
-/
import Derived.Test.YtagljniiabcfoaaGreatDoorEvZ
set_option linter.all false
set_option maxRecDepth 100000
namespace Go.Ev
def n_claplaw3_GetFields : Nat := 3
def n_claplaw3_seen : Nat := 4
def n_get_Find : Nat := 5
def n_claplaw3_rec : Nat := 6
def n_value_Get : Nat := 7
def n_get_Chosen : Nat := 8
def n_value_Same : Nat := 9
def n_get_Run : Nat := 10
def n_claplaw3_drop : Nat := 11
def n_claplaw3_pair : Nat := 12
def n_claplaw3_num : Nat := 13
def n_slices_IndexFunc_api_Field : Nat := 14
def n_get_Find_1 : Nat := 15
def n_value_Cmp : Nat := 17
def n_typing_View : Nat := 18
def n_typing_Has : Nat := 19
def n_get_Of : Nat := 20
def n_value_Check : Nat := 21
def n_claplaw3_digit : Nat := 22
def n_value_order : Nat := 24
def n_cmp_Or_int : Nat := 25
def n_cmp_Compare_int : Nat := 26
def n_strings_Compare : Nat := 27
def n_slices_CompareFunc_api_Field : Nat := 28
def n_value_Cmp_1 : Nat := 29
def n_types_Check : Nat := 30
def n_types_Right : Nat := 31
def n_lens_Check : Nat := 32
def n_typing_Of : Nat := 33
def n_types_Has : Nat := 34
def n_value_Size : Nat := 37
def n_value_Deep : Nat := 38
def n_value_node : Nat := 39
def n_cmp_isNaN_int : Nat := 40
def n_internal_bytealg_CompareString : Nat := 41
def n_value_Name : Nat := 42
def n_types_find : Nat := 43
def n_types_right : Nat := 44
def n_types_resolve : Nat := 45
def n_lens_Size : Nat := 46
def n_lens_Deep : Nat := 47
def n_lens_walk : Nat := 48
def n_types_has : Nat := 55
def n_slices_Index_string : Nat := 59
def n_value_unused : Nat := 66
def n_value_number : Nat := 67
def n_value_fields : Nat := 68
def n_internal_bytealg_abigen_runtime_cmpstring : Nat := 69
def n_slices_IndexFunc_api_Def : Nat := 70
def n_types_find_1 : Nat := 71
def n_types_Size : Nat := 72
def n_types_Deep : Nat := 73
def n_types_node : Nat := 74
def n_lens_Node : Nat := 75
def n_typing_find : Nat := 77
def n_types_fits : Nat := 91
def n_value_Scalar : Nat := 103
def n_value_names : Nat := 104
def n_types_own : Nat := 106
def n_lens_table : Nat := 107
def n_lens_special : Nat := 108
def n_slices_IndexFunc_api_Part : Nat := 110
def n_typing_find_1 : Nat := 111
def n_slices_EqualFunc_api_Field : Nat := 128
def n_types_fits_1 : Nat := 129
def n_slices_ContainsFunc_api_Part : Nat := 130
def n_types_fits_2 : Nat := 131
def n_slices_ContainsFunc_api_Field : Nat := 132
def n_types_fits_3 : Nat := 133
def n_value_names_1 : Nat := 141
def n_types_bounds : Nat := 142
def n_types_unused : Nat := 143
def n_types_parts : Nat := 144
def n_lens_Plain : Nat := 145
def n_types_parts_1 : Nat := 169
def typing_copyType_i3_n : Nat := 263
def slices_Clone_api_Part_i6_n : Nat := 266
def types_Copy_i7_n : Nat := 267
def types_Copy_i5_n : Nat := 265
def types_Resolve_i4_n : Nat := 264
def slices_Reverse_string_i11_n : Nat := 271
def typing_copyType_i9_n : Nat := 269
def slices_Delete_api_Part_i10_n : Nat := 270
def typing_fields_i8_n : Nat := 268
def slices_Clone_api_Field_i1_n : Nat := 261
def value_Copy_i2_n : Nat := 262
def value_Copy_i0_n : Nat := 260
def slices_IndexFunc_api_Field_i15_n : Nat := 275
def get_Find_i14_n : Nat := 274
def slices_Delete_api_Field_i16_n : Nat := 276
def get_parts_i13_n : Nat := 273
abbrev lA0 : L := .agg [.int .i64, .int .i64, .str, .sl 34]
abbrev lA1 : L := .agg [.str, .int .i64, .int .i64, .str, .sl 34]
abbrev lA2 : L := .agg [.str, .int .i64, .str, .int .i64, .int .i64, .str, .sl 61]
abbrev lA3 : L := .agg [.int .i64, .str, .int .i64, .int .i64, .str, .sl 61]
abbrev lA4 : L := .agg [.int .i64, .str, .str, .sl 9, .int .i64, .int .i64, .int .i64, .int .u8, .int .i64, .int .i64, .str, .sl 34, .sl 74, .sl 29]
abbrev lA5 : L := .agg [.bool, .bool, .bool, .bool, .bool, .bool, .bool, .bool, .int .i64]
abbrev lA6 : L := .agg [.int .i64, .int .i64, .str, .sl 34, .int .i64, .int .i64, .str, .sl 34]
abbrev oS0 : OSh := .cells false [.d lI, .d lS, .d lI, .d lI, .d lS, .d (.one (.sl 61))]
abbrev oS1 : OSh := .cells false [.d lI, .d lI, .d lS, .d (.one (.sl 34))]
abbrev oS2 : OSh := .cells false [.d lI, .d lS, .d lS, .d (.one (.sl 9)), .d lI, .d lI, .d lI, .d lU, .d lI, .d lI, .d lS, .d (.one (.sl 34)), .d (.one (.sl 74)), .d (.one (.sl 29))]
abbrev oS3 : OSh := .cells false [.d lI, .d lS, .d lI, .d lI, .d lS, .sw 2]
abbrev oS4 : OSh := .cells false [.d lI, .d lS, .d lI, .d lI, .d lS, .whole 2]
abbrev oS5 : OSh := .cells false [.d lI, .d lS, .d lI, .d lI, .d lS, .whole 3]
abbrev oS6 : OSh := .cells false [.d lI, .d lI, .d lS, .whole 2]
abbrev oS7 : OSh := .cells false [.d lI, .d lI, .d lS, .whole 0]
abbrev bS0 : List OSh := [oS4, .var lA3, .arr lA2]
abbrev bS1 : List OSh := [oS6, .var lA0, .arr lA1]
def typing_copyType_i3_en : Shape := { slots := [(0, .agg [.d lI, .d lS, .d lI, .d lI, .d lS, .d (.one (.sl 61))])], objs := [] }
def typing_copyType_i3_ex : Shape := { slots := [(0, .d lA3)], objs := [], m := 0 }
def slices_Clone_api_Part_i6_en : Shape := { slots := [(0, .d (.one (.sl 61)))], objs := [] }
def slices_Clone_api_Part_i6_ex : Shape := { slots := [(0, .whole 0)], objs := [.arr lA2], m := 0 }
def types_Copy_i7_en : Shape := { slots := [(0, .d lA3)], objs := [] }
def types_Copy_i7_ex : Shape := { slots := [(0, .d lA3)], objs := [], m := 0 }
def types_Copy_i5_en : Shape := { slots := [(0, .agg [.d lI, .d lS, .d lI, .d lI, .d lS, .d (.one (.sl 61))])], objs := [] }
def types_Copy_i5_ex : Shape := { slots := [(0, .d lA3)], objs := [], m := 0 }
def types_Resolve_i4_en : Shape := { slots := [(0, .d (.one (.sl 83))), (1, .agg [.d lI, .d lS, .d lI, .d lI, .d lS, .d (.one (.sl 61))])], objs := [] }
def types_Resolve_i4_ex : Shape := { slots := [(0, .d lA3), (1, .d lI)], objs := [], m := 0 }
def slices_Reverse_string_i11_en : Shape := { slots := [(0, .d (.one (.sl 9)))], objs := [] }
def slices_Reverse_string_i11_ex : Shape := { slots := [], objs := [], m := 0 }
def typing_copyType_i9_en : Shape := { slots := [(0, .agg [.d lI, .d lS, .d lI, .d lI, .d lS, .d (.one (.sl 61))])], objs := [] }
def typing_copyType_i9_ex : Shape := { slots := [(0, .agg [.d lI, .d lS, .d lI, .d lI, .d lS, .whole 0])], objs := [.arr lA2], m := 0 }
def slices_Delete_api_Part_i10_en : Shape := { slots := [(0, .whole 0), (1, .d lI), (2, .d lI)], objs := [.arr lA2] }
def slices_Delete_api_Part_i10_ex : Shape := { slots := [(0, .whole 0)], objs := [.arr lA2], m := 1 }
def typing_fields_i8_en : Shape := { slots := [(0, .d (.one (.sl 83))), (1, .d lA4), (2, .agg [.d lI, .d lS, .d lI, .d lI, .d lS, .d (.one (.sl 61))])], objs := [] }
def typing_fields_i8_ex : Shape := { slots := [(0, .d lA3), (1, .d lI)], objs := [], m := 0 }
def slices_Clone_api_Field_i1_en : Shape := { slots := [(0, .d (.one (.sl 34)))], objs := [] }
def slices_Clone_api_Field_i1_ex : Shape := { slots := [(0, .whole 0)], objs := [.arr lA1], m := 0 }
def value_Copy_i2_en : Shape := { slots := [(0, .d lA0)], objs := [] }
def value_Copy_i2_ex : Shape := { slots := [(0, .d lA0)], objs := [], m := 0 }
def value_Copy_i0_en : Shape := { slots := [(0, .agg [.d lI, .d lI, .d lS, .d (.one (.sl 34))])], objs := [] }
def value_Copy_i0_ex : Shape := { slots := [(0, .d lA0)], objs := [], m := 0 }
def slices_IndexFunc_api_Field_i15_en : Shape := { slots := [(0, .whole 0), (1, .d (.one (.fn 50)))], objs := [.arr lA1, oS7, oS7] }
def slices_IndexFunc_api_Field_i15_ex : Shape := { slots := [(0, .d lI)], objs := [.arr lA1, oS7, oS7], m := 3 }
def get_Find_i14_en : Shape := { slots := [(0, .agg [.d lI, .d lI, .d lS, .whole 0]), (1, .d lS)], objs := [.arr lA1, oS7] }
def get_Find_i14_ex : Shape := { slots := [(0, .d lI)], objs := [.arr lA1, oS7], m := 2 }
def slices_Delete_api_Field_i16_en : Shape := { slots := [(0, .whole 0), (1, .d lI), (2, .d lI)], objs := [.arr lA1] }
def slices_Delete_api_Field_i16_ex : Shape := { slots := [(0, .whole 0)], objs := [.arr lA1], m := 1 }
def get_parts_i13_en : Shape := { slots := [(0, .agg [.d lI, .d lS, .d lS, .d (.one (.sl 9)), .d lI, .d lI, .d lI, .d lU, .d lI, .d lI, .d lS, .d (.one (.sl 34)), .d (.one (.sl 74)), .d (.one (.sl 29))]), (1, .agg [.d lI, .d lI, .d lS, .whole 0])], objs := [.arr lA1] }
def get_parts_i13_ex : Shape := { slots := [(0, .d lA0)], objs := [.cells false []], m := 1 }
def g_internal_strconv_uint64pow10 : Row := [.int 1, .int 10, .int 100, .int 1000, .int 10000, .int 100000, .int 1000000, .int 10000000, .int 100000000, .int 1000000000, .int 10000000000, .int 100000000000, .int 1000000000000, .int 10000000000000, .int 100000000000000, .int 1000000000000000, .int 10000000000000000, .int 100000000000000000, .int 1000000000000000000, .int 10000000000000000000]
def g_math_bits_deBruijn64tab : Row := [.int 0, .int 1, .int 56, .int 2, .int 57, .int 49, .int 28, .int 3, .int 61, .int 58, .int 42, .int 50, .int 38, .int 29, .int 17, .int 4, .int 62, .int 47, .int 59, .int 36, .int 45, .int 43, .int 51, .int 22, .int 53, .int 39, .int 33, .int 30, .int 24, .int 18, .int 12, .int 5, .int 63, .int 55, .int 48, .int 27, .int 60, .int 41, .int 37, .int 16, .int 46, .int 35, .int 44, .int 21, .int 52, .int 32, .int 23, .int 11, .int 54, .int 26, .int 40, .int 15, .int 34, .int 20, .int 31, .int 10, .int 25, .int 14, .int 19, .int 9, .int 13, .int 8, .int 7, .int 6]
def g_math_bits_deBruijn32tab : Row := [.int 0, .int 1, .int 28, .int 2, .int 29, .int 14, .int 24, .int 3, .int 30, .int 22, .int 20, .int 15, .int 25, .int 17, .int 4, .int 8, .int 31, .int 27, .int 13, .int 23, .int 21, .int 19, .int 16, .int 7, .int 26, .int 12, .int 18, .int 6, .int 11, .int 5, .int 10, .int 9]
end Go.Ev
