/-
  A part of the proof: what the functions of the program compute.
-/
import Derived.Test.YtpagadadfpmeaaaGreatDoorEvZ
set_option linter.all false
set_option maxRecDepth 100000
namespace Go.Ev
def n_claplaw3_LensChecks : Nat := 3
def n_claplaw3_formed : Nat := 4
def n_lens_Check : Nat := 5
def n_clapref3_Check : Nat := 6
def n_lens_Node : Nat := 7
def n_clapref3_Node : Nat := 8
def n_lens_Size : Nat := 9
def n_clapref3_Nodes : Nat := 10
def n_lens_Deep : Nat := 11
def n_clapref3_Levels : Nat := 12
def n_lens_Text : Nat := 13
def n_claplaw3_drop : Nat := 14
def n_lens_walk : Nat := 15
def n_lens_table : Nat := 16
def n_value_Same : Nat := 17
def n_value_Name : Nat := 18
def n_value_Check : Nat := 19
def n_lens_special : Nat := 20
def n_clapref3_used : Nat := 21
def n_clapref3_same : Nat := 22
def n_clapref3_Zero : Nat := 23
def n_clapref3_has : Nat := 24
def n_clapref3_plain : Nat := 25
def n_clapref3_lists : Nat := 26
def n_claplaw3_num : Nat := 28
def n_value_Cmp : Nat := 29
def n_value_Size : Nat := 30
def n_value_Deep : Nat := 31
def n_value_node : Nat := 32
def n_lens_Plain : Nat := 33
def n_lens_names : Nat := 34
def n_pattern_Check : Nat := 35
def n_lens_pairs : Nat := 36
def n_strings_Fields : Nat := 37
def n_strings_Cut : Nat := 38
def n_strings_IndexByte : Nat := 39
def n_clapref3_distinct : Nat := 40
def n_clapref3_Pairs : Nat := 41
def n_lens_word : Nat := 43
def n_strconv_Itoa : Nat := 44
def n_value_order : Nat := 46
def n_cmp_Or_int : Nat := 47
def n_cmp_Compare_int : Nat := 48
def n_strings_Compare : Nat := 49
def n_slices_CompareFunc_api_Field : Nat := 50
def n_value_Cmp_1 : Nat := 51
def n_value_unused : Nat := 52
def n_value_number : Nat := 53
def n_value_fields : Nat := 54
def n_slices_Contains_string : Nat := 55
def n_pattern_build : Nat := 56
def n_strings_FieldsFunc : Nat := 57
def n_unicode_IsSpace : Nat := 58
def n_internal_stringslite_Cut : Nat := 59
def n_internal_stringslite_IndexByte : Nat := 60
def n_lens_quote : Nat := 62
def n_cmp_isNaN_int : Nat := 64
def n_internal_bytealg_CompareString : Nat := 65
def n_value_Scalar : Nat := 66
def n_value_names : Nat := 67
def n_value_keys : Nat := 68
def n_slices_Index_string : Nat := 69
def n_pattern_parse : Nat := 70
def n_pattern_plan_at : Nat := 72
def n_pattern_plan_behind : Nat := 73
def n_pattern_plan_ends : Nat := 74
def n_internal_stringslite_Index : Nat := 76
def n_internal_bytealg_IndexByteString : Nat := 77
def n_internal_bytealg_abigen_runtime_cmpstring : Nat := 79
def n_slices_ContainsFunc_api_Field : Nat := 80
def n_value_names_1 : Nat := 81
def n_pattern_class_has : Nat := 83
def n_pattern_set_has : Nat := 84
def n_slices_IndexFunc_api_Field : Nat := 95
def pattern_reader_more_i3_n : Nat := 145
def pattern_reader_peek_i4_n : Nat := 146
def pattern_class_turn_i7_n : Nat := 149
def pattern_reader_single_i9_n : Nat := 151
def pattern_class_add_i10_n : Nat := 152
def pattern_reader_bytes_i8_n : Nat := 150
def pattern_set_add_i12_n : Nat := 154
def pattern_set_add_i13_n : Nat := 155
def pattern_reader_position_i11_n : Nat := 153
def pattern_reader_atom_i6_n : Nat := 148
def pattern_set_join_i15_n : Nat := 157
def pattern_reader_link_i14_n : Nat := 156
def pattern_reader_item_i5_n : Nat := 147
def pattern_set_join_i16_n : Nat := 158
def pattern_set_join_i17_n : Nat := 159
def pattern_reader_sequence_i2_n : Nat := 144
def pattern_reader_alternatives_i1_n : Nat := 143
def pattern_set_add_i18_n : Nat := 160
def pattern_set_join_i19_n : Nat := 161
def pattern_set_add_i0_n : Nat := 142
def lens_printer_put_i21_n : Nat := 163
def lens_printer_value_i23_n : Nat := 165
def lens_printer_rest_i22_n : Nat := 164
def lens_printer_lens_i20_n : Nat := 162
abbrev lA0 : L := .agg [.int .i64, .str, .str, .sl 9, .int .i64, .int .i64, .int .i64, .int .u8, .int .i64, .int .i64, .str, .sl 67, .sl 87, .sl 29]
abbrev lA1 : L := .agg [.bool, .bool, .bool, .bool, .bool, .bool, .bool, .bool, .int .i64]
abbrev lA2 : L := .agg [.str, .int .i64, .int .i64, .str, .sl 67]
abbrev lA3 : L := .agg [.int .i64, .int .i64, .str, .sl 67]
abbrev lA4 : L := .agg [.sl 133, .sl 104, .bool, .int .u64, .int .u64, .int .u64, .int .u64, .int .u64, .int .u64, .int .u64, .int .u64]
abbrev lA5 : L := .agg [.int .u64, .int .u64, .int .u64, .int .u64]
abbrev lA6 : L := .agg [.bool, .int .u64, .int .u64, .int .u64, .int .u64, .int .u64, .int .u64, .int .u64, .int .u64]
abbrev lA7 : L := .agg [.sl 116, .sl 4]
abbrev lA8 : L := .agg [.int .i64, .int .i64, .str, .sl 67, .int .i64, .int .i64, .str, .sl 67]
abbrev lA9 : L := .agg [.int .u8, .bool]
abbrev oS0 : OSh := .cells false [.d lS, .d lI, .sw 1, .whole 2, .d lB, .d lW, .d lW, .d lW, .d lW, .d lW, .d lW, .d lW, .d lW, .d lB]
abbrev oS1 : OSh := .cells false [.d lS, .d lI, .sw 2, .whole 0, .d lB, .d lW, .d lW, .d lW, .d lW, .d lW, .d lW, .d lW, .d lW, .d lB]
abbrev bS0 : List OSh := [.var (.agg (List.replicate 1024 (.int .u64)))]
abbrev bS1 : List OSh := [oS0, .sarr 133 lA5, .arr lA5]
abbrev bS2 : List OSh := [oS0, .sarr 133 lA5, .arr lA5, .var lA5, .var lA5]
abbrev bS3 : List OSh := [oS0, .sarr 133 lA5, .arr lA5, .var lA6, .var lA6]
abbrev bS4 : List OSh := [.arr lA5, oS1, .sarr 133 lA5]
abbrev bS5 : List OSh := [oS0, .sarr 133 lA5, .arr lA5, .var lA6, .var lA6, .var lA6]
def pattern_reader_more_i3_en : Shape := { slots := [(0, .ptr 0 0)], objs := bS1 }
def pattern_reader_more_i3_ex : Shape := { slots := [(0, .d lB)], objs := bS1, m := 3 }
def pattern_reader_peek_i4_en : Shape := { slots := [(0, .ptr 0 0)], objs := bS1 }
def pattern_reader_peek_i4_ex : Shape := { slots := [(0, .d lU)], objs := bS1, m := 3 }
def pattern_class_turn_i7_en : Shape := { slots := [(0, .ptr 0 0)], objs := [.var lA5] }
def pattern_class_turn_i7_ex : Shape := { slots := [], objs := [.var lA5], m := 1 }
def pattern_reader_single_i9_en : Shape := { slots := [(0, .ptr 0 0)], objs := bS1 }
def pattern_reader_single_i9_ex : Shape := { slots := [(0, .d lU)], objs := bS1, m := 3 }
def pattern_class_add_i10_en : Shape := { slots := [(0, .ptr 0 0), (1, .d lU)], objs := [.var lA5] }
def pattern_class_add_i10_ex : Shape := { slots := [], objs := [.var lA5], m := 1 }
def pattern_reader_bytes_i8_en : Shape := { slots := [(0, .ptr 0 0)], objs := bS1 }
def pattern_reader_bytes_i8_ex : Shape := { slots := [(0, .d lA5)], objs := bS1, m := 3 }
def pattern_set_add_i12_en : Shape := { slots := [(0, .ptr 0 1), (1, .d lI)], objs := [.var lA6] }
def pattern_set_add_i12_ex : Shape := { slots := [], objs := [.var lA6], m := 1 }
def pattern_set_add_i13_en : Shape := { slots := [(0, .ptr 0 5), (1, .d lI)], objs := [.var lA6] }
def pattern_set_add_i13_ex : Shape := { slots := [], objs := [.var lA6], m := 1 }
def pattern_reader_position_i11_en : Shape := { slots := [(0, .ptr 0 0), (1, .d lA5)], objs := bS1 }
def pattern_reader_position_i11_ex : Shape := { slots := [(0, .d lA6)], objs := bS1, m := 3 }
def pattern_reader_atom_i6_en : Shape := { slots := [(0, .ptr 0 0)], objs := bS1 }
def pattern_reader_atom_i6_ex : Shape := { slots := [(0, .d lA6)], objs := bS1, m := 3 }
def pattern_set_join_i15_en : Shape := { slots := [(0, .aptr 0), (1, .d lA5)], objs := bS4 }
def pattern_set_join_i15_ex : Shape := { slots := [], objs := bS4, m := 3 }
def pattern_reader_link_i14_en : Shape := { slots := [(0, .ptr 0 0), (1, .d lA5), (2, .d lA5)], objs := bS1 }
def pattern_reader_link_i14_ex : Shape := { slots := [], objs := bS1, m := 3 }
def pattern_reader_item_i5_en : Shape := { slots := [(0, .ptr 0 0)], objs := bS1 }
def pattern_reader_item_i5_ex : Shape := { slots := [(0, .d lA6)], objs := bS1, m := 3 }
def pattern_set_join_i16_en : Shape := { slots := [(0, .ptr 0 1), (1, .d lA5)], objs := [.var lA6] }
def pattern_set_join_i16_ex : Shape := { slots := [], objs := [.var lA6], m := 1 }
def pattern_set_join_i17_en : Shape := { slots := [(0, .ptr 0 5), (1, .d lA5)], objs := [.var lA6] }
def pattern_set_join_i17_ex : Shape := { slots := [], objs := [.var lA6], m := 1 }
def pattern_reader_sequence_i2_en : Shape := { slots := [(0, .ptr 0 0)], objs := bS1 }
def pattern_reader_sequence_i2_ex : Shape := { slots := [(0, .d lA6)], objs := bS1, m := 3 }
def pattern_reader_alternatives_i1_en : Shape := { slots := [(0, .ptr 0 0)], objs := bS1 }
def pattern_reader_alternatives_i1_ex : Shape := { slots := [(0, .d lA6)], objs := bS1, m := 3 }
def pattern_set_add_i18_en : Shape := { slots := [(0, .ptrv 0), (1, .d lI)], objs := bS0 }
def pattern_set_add_i18_ex : Shape := { slots := [], objs := bS0, m := 1 }
def pattern_set_join_i19_en : Shape := { slots := [(0, .ptr 0 0), (1, .d lA5)], objs := [.var lA5] }
def pattern_set_join_i19_ex : Shape := { slots := [], objs := [.var lA5], m := 1 }
def pattern_set_add_i0_en : Shape := { slots := [(0, .ptr 0 0), (1, .d lI)], objs := [.var lA5] }
def pattern_set_add_i0_ex : Shape := { slots := [], objs := [.var lA5], m := 1 }
def lens_printer_put_i21_en : Shape := { slots := [(0, .ptr 0 0), (1, .d (.one (.sl 9)))], objs := [.cells false [.sw 1], .sarr 5 lU] }
def lens_printer_put_i21_ex : Shape := { slots := [], objs := [.cells false [.sw 1], .sarr 5 lU], m := 2 }
def lens_printer_value_i23_en : Shape := { slots := [(0, .ptr 0 0), (1, .d lA3)], objs := [.cells false [.sw 1], .sarr 5 lU] }
def lens_printer_value_i23_ex : Shape := { slots := [], objs := [.cells false [.sw 1], .sarr 5 lU], m := 2 }
def lens_printer_rest_i22_en : Shape := { slots := [(0, .ptr 0 0), (1, .d lA0), (2, .d lA1)], objs := [.cells false [.sw 1], .sarr 5 lU] }
def lens_printer_rest_i22_ex : Shape := { slots := [], objs := [.cells false [.sw 1], .sarr 5 lU], m := 2 }
def lens_printer_lens_i20_en : Shape := { slots := [(0, .ptr 0 0), (1, .d lA0)], objs := [.cells false [.sw 1], .sarr 5 lU] }
def lens_printer_lens_i20_ex : Shape := { slots := [], objs := [.cells false [.sw 1], .sarr 5 lU], m := 2 }
def g_strings_asciiSpace : Row := [.int 0, .int 0, .int 0, .int 0, .int 0, .int 0, .int 0, .int 0, .int 0, .int 1, .int 1, .int 1, .int 1, .int 1, .int 0, .int 0, .int 0, .int 0, .int 0, .int 0, .int 0, .int 0, .int 0, .int 0, .int 0, .int 0, .int 0, .int 0, .int 0, .int 0, .int 0, .int 0, .int 1, .int 0, .int 0, .int 0, .int 0, .int 0, .int 0, .int 0, .int 0, .int 0, .int 0, .int 0, .int 0, .int 0, .int 0, .int 0, .int 0, .int 0, .int 0, .int 0, .int 0, .int 0, .int 0, .int 0, .int 0, .int 0, .int 0, .int 0, .int 0, .int 0, .int 0, .int 0, .int 0, .int 0, .int 0, .int 0, .int 0, .int 0, .int 0, .int 0, .int 0, .int 0, .int 0, .int 0, .int 0, .int 0, .int 0, .int 0, .int 0, .int 0, .int 0, .int 0, .int 0, .int 0, .int 0, .int 0, .int 0, .int 0, .int 0, .int 0, .int 0, .int 0, .int 0, .int 0, .int 0, .int 0, .int 0, .int 0, .int 0, .int 0, .int 0, .int 0, .int 0, .int 0, .int 0, .int 0, .int 0, .int 0, .int 0, .int 0, .int 0, .int 0, .int 0, .int 0, .int 0, .int 0, .int 0, .int 0, .int 0, .int 0, .int 0, .int 0, .int 0, .int 0, .int 0, .int 0, .int 0, .int 0, .int 0, .int 0, .int 0, .int 0, .int 0, .int 0, .int 0, .int 0, .int 0, .int 0, .int 0, .int 0, .int 0, .int 0, .int 0, .int 0, .int 0, .int 0, .int 0, .int 0, .int 0, .int 0, .int 0, .int 0, .int 0, .int 0, .int 0, .int 0, .int 0, .int 0, .int 0, .int 0, .int 0, .int 0, .int 0, .int 0, .int 0, .int 0, .int 0, .int 0, .int 0, .int 0, .int 0, .int 0, .int 0, .int 0, .int 0, .int 0, .int 0, .int 0, .int 0, .int 0, .int 0, .int 0, .int 0, .int 0, .int 0, .int 0, .int 0, .int 0, .int 0, .int 0, .int 0, .int 0, .int 0, .int 0, .int 0, .int 0, .int 0, .int 0, .int 0, .int 0, .int 0, .int 0, .int 0, .int 0, .int 0, .int 0, .int 0, .int 0, .int 0, .int 0, .int 0, .int 0, .int 0, .int 0, .int 0, .int 0, .int 0, .int 0, .int 0, .int 0, .int 0, .int 0, .int 0, .int 0, .int 0, .int 0, .int 0, .int 0, .int 0, .int 0, .int 0, .int 0, .int 0, .int 0, .int 0, .int 0, .int 0, .int 0, .int 0, .int 0, .int 0, .int 0, .int 0, .int 0, .int 0, .int 0, .int 0, .int 0, .int 0, .int 0, .int 0, .int 0, .int 0, .int 0]
def g_internal_strconv_uint64pow10 : Row := [.int 1, .int 10, .int 100, .int 1000, .int 10000, .int 100000, .int 1000000, .int 10000000, .int 100000000, .int 1000000000, .int 10000000000, .int 100000000000, .int 1000000000000, .int 10000000000000, .int 100000000000000, .int 1000000000000000, .int 10000000000000000, .int 100000000000000000, .int 1000000000000000000, .int 10000000000000000000]
def g_math_bits_deBruijn32tab : Row := [.int 0, .int 1, .int 28, .int 2, .int 29, .int 14, .int 24, .int 3, .int 30, .int 22, .int 20, .int 15, .int 25, .int 17, .int 4, .int 8, .int 31, .int 27, .int 13, .int 23, .int 21, .int 19, .int 16, .int 7, .int 26, .int 12, .int 18, .int 6, .int 11, .int 5, .int 10, .int 9]
def g_math_bits_deBruijn64tab : Row := [.int 0, .int 1, .int 56, .int 2, .int 57, .int 49, .int 28, .int 3, .int 61, .int 58, .int 42, .int 50, .int 38, .int 29, .int 17, .int 4, .int 62, .int 47, .int 59, .int 36, .int 45, .int 43, .int 51, .int 22, .int 53, .int 39, .int 33, .int 30, .int 24, .int 18, .int 12, .int 5, .int 63, .int 55, .int 48, .int 27, .int 60, .int 41, .int 37, .int 16, .int 46, .int 35, .int 44, .int 21, .int 52, .int 32, .int 23, .int 11, .int 54, .int 26, .int 40, .int 15, .int 34, .int 20, .int 31, .int 10, .int 25, .int 14, .int 19, .int 9, .int 13, .int 8, .int 7, .int 6]
end Go.Ev
