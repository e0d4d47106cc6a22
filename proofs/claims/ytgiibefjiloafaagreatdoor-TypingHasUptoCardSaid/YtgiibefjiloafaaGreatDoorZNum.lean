/-
  A part of the proof: what the functions of the program compute.
-/
import Derived.Test.YtgiibefjiloafaaGreatDoorEvZ
set_option linter.all false
set_option maxRecDepth 100000
namespace Go.Ev
def n_claplaw3_TypingHas:Nat:=3
def n_claplaw3_viewed:Nat:=4
def n_typing_Has:Nat:=5
def n_claplaw3_digit:Nat:=6
def n_claplaw3_num:Nat:=7
def n_types_Has:Nat:=8
def n_value_Check:Nat:=9
def n_typing_View:Nat:=10
def n_claplaw3_drop:Nat:=11
def n_claplaw3_pair:Nat:=12
def n_types_Right:Nat:=13
def n_value_Size:Nat:=16
def n_value_Deep:Nat:=17
def n_value_node:Nat:=18
def n_types_Check:Nat:=19
def n_lens_Check:Nat:=20
def n_typing_Of:Nat:=21
def n_types_right:Nat:=22
def n_types_resolve:Nat:=23
def n_types_fits:Nat:=24
def n_types_Part:Nat:=25
def n_strconv_Itoa:Nat:=26
def n_value_unused:Nat:=27
def n_value_number:Nat:=28
def n_value_fields:Nat:=29
def n_value_Name:Nat:=30
def n_types_find:Nat:=31
def n_lens_Size:Nat:=32
def n_lens_Deep:Nat:=33
def n_lens_walk:Nat:=34
def n_types_Size:Nat:=41
def n_types_Deep:Nat:=42
def n_types_node:Nat:=43
def n_types_matches:Nat:=44
def n_slices_EqualFunc_api_Field:Nat:=45
def n_types_fits_1:Nat:=46
def n_slices_ContainsFunc_api_Part:Nat:=47
def n_types_fits_2:Nat:=48
def n_slices_ContainsFunc_api_Field:Nat:=49
def n_types_fits_3:Nat:=50
def n_slices_IndexFunc_api_Part:Nat:=51
def n_types_Part_1:Nat:=52
def n_value_Scalar:Nat:=55
def n_value_names:Nat:=56
def n_value_keys:Nat:=57
def n_slices_IndexFunc_api_Def:Nat:=58
def n_types_find_1:Nat:=59
def n_lens_Node:Nat:=60
def n_typing_find:Nat:=61
def n_types_own:Nat:=75
def n_pattern_Match:Nat:=76
def n_slices_IndexFunc_api_Field:Nat:=77
def n_value_names_1:Nat:=80
def n_lens_table:Nat:=81
def n_value_Same:Nat:=82
def n_lens_special:Nat:=83
def n_typing_find_1:Nat:=84
def n_pattern_Check:Nat:=95
def n_types_bounds:Nat:=101
def n_types_unused:Nat:=102
def n_types_parts:Nat:=103
def n_pattern_build:Nat:=104
def n_value_Cmp:Nat:=109
def n_lens_Plain:Nat:=110
def n_strings_IndexByte:Nat:=120
def n_types_parts_1:Nat:=125
def n_pattern_parse:Nat:=126
def n_pattern_plan_at:Nat:=128
def n_pattern_plan_behind:Nat:=129
def n_pattern_plan_ends:Nat:=130
def n_value_order:Nat:=136
def n_cmp_Or_int:Nat:=137
def n_cmp_Compare_int:Nat:=138
def n_strings_Compare:Nat:=139
def n_slices_CompareFunc_api_Field:Nat:=140
def n_value_Cmp_1:Nat:=141
def n_internal_stringslite_IndexByte:Nat:=158
def n_pattern_class_has:Nat:=162
def n_pattern_set_has:Nat:=163
def n_cmp_isNaN_int:Nat:=167
def n_internal_bytealg_CompareString:Nat:=168
def n_internal_bytealg_IndexByteString:Nat:=180
def n_internal_bytealg_abigen_runtime_cmpstring:Nat:=184
def pattern_reader_more_i3_n:Nat:=220
def pattern_reader_peek_i4_n:Nat:=221
def pattern_class_turn_i7_n:Nat:=224
def pattern_reader_single_i9_n:Nat:=226
def pattern_class_add_i10_n:Nat:=227
def pattern_reader_bytes_i8_n:Nat:=225
def pattern_set_add_i12_n:Nat:=229
def pattern_set_add_i13_n:Nat:=230
def pattern_reader_position_i11_n:Nat:=228
def pattern_reader_atom_i6_n:Nat:=223
def pattern_set_join_i15_n:Nat:=232
def pattern_reader_link_i14_n:Nat:=231
def pattern_reader_item_i5_n:Nat:=222
def pattern_set_join_i16_n:Nat:=233
def pattern_set_join_i17_n:Nat:=234
def pattern_reader_sequence_i2_n:Nat:=219
def pattern_reader_alternatives_i1_n:Nat:=218
def pattern_set_add_i18_n:Nat:=235
def pattern_set_join_i19_n:Nat:=236
def pattern_set_add_i0_n:Nat:=217
def typing_copyType_i20_n:Nat:=237
def slices_Clone_api_Part_i23_n:Nat:=240
def types_Copy_i24_n:Nat:=241
def types_Copy_i22_n:Nat:=239
def types_Resolve_i21_n:Nat:=238
def types_has_i28_n:Nat:=245
def slices_Reverse_string_i29_n:Nat:=246
def typing_copyType_i26_n:Nat:=243
def slices_Delete_api_Part_i27_n:Nat:=244
def typing_fields_i25_n:Nat:=242
abbrev lA0:L:= .agg [.str, .int .i64, .str, .int .i64, .int .i64, .str, .sl 55]
abbrev lA1:L:= .agg [.int .i64, .str, .int .i64, .int .i64, .str, .sl 55]
abbrev lA2:L:= .agg [.sl 209, .sl 170, .bool, .int .u64, .int .u64, .int .u64, .int .u64, .int .u64, .int .u64, .int .u64, .int .u64]
abbrev lA3:L:= .agg [.int .u64, .int .u64, .int .u64, .int .u64]
abbrev lA4:L:= .agg [.bool, .int .u64, .int .u64, .int .u64, .int .u64, .int .u64, .int .u64, .int .u64, .int .u64]
abbrev lA5:L:= .agg [.sl 133, .sl 4]
abbrev lA6:L:= .agg [.int .i64, .str, .str, .sl 9, .int .i64, .int .i64, .int .i64, .int .u8, .int .i64, .int .i64, .str, .sl 59, .sl 88, .sl 44]
abbrev lA7:L:= .agg [.str, .int .i64, .int .i64, .str, .sl 59]
abbrev lA8:L:= .agg [.int .i64, .int .i64, .str, .sl 59]
abbrev lA9:L:= .agg [.bool, .bool, .bool, .bool, .bool, .bool, .bool, .bool, .int .i64]
abbrev oS0:OSh:= .cells false [.d lI, .d lS, .d lI, .d lI, .d lS, .d (.one (.sl 55))]
abbrev oS1:OSh:= .cells false [.d lS, .d lI, .sw 1, .whole 2, .d lB, .d lW, .d lW, .d lW, .d lW, .d lW, .d lW, .d lW, .d lW, .d lB]
abbrev oS2:OSh:= .cells false [.d lS, .d lI, .sw 2, .whole 0, .d lB, .d lW, .d lW, .d lW, .d lW, .d lW, .d lW, .d lW, .d lW, .d lB]
abbrev oS3:OSh:= .cells false [.d lI, .d lS, .d lI, .d lI, .d lS, .sw 2]
abbrev oS4:OSh:= .cells false [.d lI, .d lS, .d lI, .d lI, .d lS, .whole 2]
abbrev oS5:OSh:= .cells false [.d lI, .d lS, .d lI, .d lI, .d lS, .whole 3]
abbrev bS0:List OSh:=[.var (.agg (List.replicate 1024 (.int .u64)))]
abbrev bS1:List OSh:=[oS1, .sarr 209 lA3, .arr lA3]
abbrev bS2:List OSh:=[oS1, .sarr 209 lA3, .arr lA3, .var lA3, .var lA3]
abbrev bS3:List OSh:=[oS1, .sarr 209 lA3, .arr lA3, .var lA4, .var lA4]
abbrev bS4:List OSh:=[.arr lA3,oS2, .sarr 209 lA3]
abbrev bS5:List OSh:=[oS1, .sarr 209 lA3, .arr lA3, .var lA4, .var lA4, .var lA4]
abbrev bS6:List OSh:=[oS4, .var lA1, .arr lA0]
def pattern_reader_more_i3_en:Shape:={slots:=[(0, .ptr 0 0)],objs:=bS1}
def pattern_reader_more_i3_ex:Shape:={slots:=[(0, .d lB)],objs:=bS1,m:=3}
def pattern_reader_peek_i4_en:Shape:={slots:=[(0, .ptr 0 0)],objs:=bS1}
def pattern_reader_peek_i4_ex:Shape:={slots:=[(0, .d lU)],objs:=bS1,m:=3}
def pattern_class_turn_i7_en:Shape:={slots:=[(0, .ptr 0 0)],objs:=[.var lA3]}
def pattern_class_turn_i7_ex:Shape:={slots:=[],objs:=[.var lA3],m:=1}
def pattern_reader_single_i9_en:Shape:={slots:=[(0, .ptr 0 0)],objs:=bS1}
def pattern_reader_single_i9_ex:Shape:={slots:=[(0, .d lU)],objs:=bS1,m:=3}
def pattern_class_add_i10_en:Shape:={slots:=[(0, .ptr 0 0),(1, .d lU)],objs:=[.var lA3]}
def pattern_class_add_i10_ex:Shape:={slots:=[],objs:=[.var lA3],m:=1}
def pattern_reader_bytes_i8_en:Shape:={slots:=[(0, .ptr 0 0)],objs:=bS1}
def pattern_reader_bytes_i8_ex:Shape:={slots:=[(0, .d lA3)],objs:=bS1,m:=3}
def pattern_set_add_i12_en:Shape:={slots:=[(0, .ptr 0 1),(1, .d lI)],objs:=[.var lA4]}
def pattern_set_add_i12_ex:Shape:={slots:=[],objs:=[.var lA4],m:=1}
def pattern_set_add_i13_en:Shape:={slots:=[(0, .ptr 0 5),(1, .d lI)],objs:=[.var lA4]}
def pattern_set_add_i13_ex:Shape:={slots:=[],objs:=[.var lA4],m:=1}
def pattern_reader_position_i11_en:Shape:={slots:=[(0, .ptr 0 0),(1, .d lA3)],objs:=bS1}
def pattern_reader_position_i11_ex:Shape:={slots:=[(0, .d lA4)],objs:=bS1,m:=3}
def pattern_reader_atom_i6_en:Shape:={slots:=[(0, .ptr 0 0)],objs:=bS1}
def pattern_reader_atom_i6_ex:Shape:={slots:=[(0, .d lA4)],objs:=bS1,m:=3}
def pattern_set_join_i15_en:Shape:={slots:=[(0, .aptr 0),(1, .d lA3)],objs:=bS4}
def pattern_set_join_i15_ex:Shape:={slots:=[],objs:=bS4,m:=3}
def pattern_reader_link_i14_en:Shape:={slots:=[(0, .ptr 0 0),(1, .d lA3),(2, .d lA3)],objs:=bS1}
def pattern_reader_link_i14_ex:Shape:={slots:=[],objs:=bS1,m:=3}
def pattern_reader_item_i5_en:Shape:={slots:=[(0, .ptr 0 0)],objs:=bS1}
def pattern_reader_item_i5_ex:Shape:={slots:=[(0, .d lA4)],objs:=bS1,m:=3}
def pattern_set_join_i16_en:Shape:={slots:=[(0, .ptr 0 1),(1, .d lA3)],objs:=[.var lA4]}
def pattern_set_join_i16_ex:Shape:={slots:=[],objs:=[.var lA4],m:=1}
def pattern_set_join_i17_en:Shape:={slots:=[(0, .ptr 0 5),(1, .d lA3)],objs:=[.var lA4]}
def pattern_set_join_i17_ex:Shape:={slots:=[],objs:=[.var lA4],m:=1}
def pattern_reader_sequence_i2_en:Shape:={slots:=[(0, .ptr 0 0)],objs:=bS1}
def pattern_reader_sequence_i2_ex:Shape:={slots:=[(0, .d lA4)],objs:=bS1,m:=3}
def pattern_reader_alternatives_i1_en:Shape:={slots:=[(0, .ptr 0 0)],objs:=bS1}
def pattern_reader_alternatives_i1_ex:Shape:={slots:=[(0, .d lA4)],objs:=bS1,m:=3}
def pattern_set_add_i18_en:Shape:={slots:=[(0, .ptrv 0),(1, .d lI)],objs:=bS0}
def pattern_set_add_i18_ex:Shape:={slots:=[],objs:=bS0,m:=1}
def pattern_set_join_i19_en:Shape:={slots:=[(0, .ptr 0 0),(1, .d lA3)],objs:=[.var lA3]}
def pattern_set_join_i19_ex:Shape:={slots:=[],objs:=[.var lA3],m:=1}
def pattern_set_add_i0_en:Shape:={slots:=[(0, .ptr 0 0),(1, .d lI)],objs:=[.var lA3]}
def pattern_set_add_i0_ex:Shape:={slots:=[],objs:=[.var lA3],m:=1}
def typing_copyType_i20_en:Shape:={slots:=[(0, .agg [.d lI, .d lS, .d lI, .d lI, .d lS, .d (.one (.sl 55))])],objs:=[]}
def typing_copyType_i20_ex:Shape:={slots:=[(0, .d lA1)],objs:=[],m:=0}
def slices_Clone_api_Part_i23_en:Shape:={slots:=[(0, .d (.one (.sl 55)))],objs:=[]}
def slices_Clone_api_Part_i23_ex:Shape:={slots:=[(0, .whole 0)],objs:=[.arr lA0],m:=0}
def types_Copy_i24_en:Shape:={slots:=[(0, .d lA1)],objs:=[]}
def types_Copy_i24_ex:Shape:={slots:=[(0, .d lA1)],objs:=[],m:=0}
def types_Copy_i22_en:Shape:={slots:=[(0, .agg [.d lI, .d lS, .d lI, .d lI, .d lS, .d (.one (.sl 55))])],objs:=[]}
def types_Copy_i22_ex:Shape:={slots:=[(0, .d lA1)],objs:=[],m:=0}
def types_Resolve_i21_en:Shape:={slots:=[(0, .d (.one (.sl 64))),(1, .agg [.d lI, .d lS, .d lI, .d lI, .d lS, .d (.one (.sl 55))])],objs:=[]}
def types_Resolve_i21_ex:Shape:={slots:=[(0, .d lA1),(1, .d lI)],objs:=[],m:=0}
def types_has_i28_en:Shape:={slots:=[(0, .d (.one (.sl 64))),(1, .d lA1),(2, .d lA8)],objs:=[]}
def types_has_i28_ex:Shape:={slots:=[(0, .whole 0),(1, .d lB)],objs:=[.arr lS],m:=0}
def slices_Reverse_string_i29_en:Shape:={slots:=[(0, .hol 0)],objs:=[.hol lS (.agg [])]}
def slices_Reverse_string_i29_ex:Shape:={slots:=[],objs:=[.hol lS (.agg [])],m:=1}
def typing_copyType_i26_en:Shape:={slots:=[(0, .agg [.d lI, .d lS, .d lI, .d lI, .d lS, .d (.one (.sl 55))])],objs:=[]}
def typing_copyType_i26_ex:Shape:={slots:=[(0, .agg [.d lI, .d lS, .d lI, .d lI, .d lS, .whole 0])],objs:=[.arr lA0],m:=0}
def slices_Delete_api_Part_i27_en:Shape:={slots:=[(0, .whole 0),(1, .d lI),(2, .d lI)],objs:=[.arr lA0]}
def slices_Delete_api_Part_i27_ex:Shape:={slots:=[(0, .whole 0)],objs:=[.arr lA0],m:=1}
def typing_fields_i25_en:Shape:={slots:=[(0, .d (.one (.sl 64))),(1, .d lA6),(2, .agg [.d lI, .d lS, .d lI, .d lI, .d lS, .d (.one (.sl 55))])],objs:=[]}
def typing_fields_i25_ex:Shape:={slots:=[(0, .d lA1),(1, .d lI)],objs:=[],m:=0}
def g_math_bits_deBruijn64tab:Row:=[.int 0, .int 1, .int 56, .int 2, .int 57, .int 49, .int 28, .int 3, .int 61, .int 58, .int 42, .int 50, .int 38, .int 29, .int 17, .int 4, .int 62, .int 47, .int 59, .int 36, .int 45, .int 43, .int 51, .int 22, .int 53, .int 39, .int 33, .int 30, .int 24, .int 18, .int 12, .int 5, .int 63, .int 55, .int 48, .int 27, .int 60, .int 41, .int 37, .int 16, .int 46, .int 35, .int 44, .int 21, .int 52, .int 32, .int 23, .int 11, .int 54, .int 26, .int 40, .int 15, .int 34, .int 20, .int 31, .int 10, .int 25, .int 14, .int 19, .int 9, .int 13, .int 8, .int 7, .int 6]
def g_internal_strconv_uint64pow10:Row:=[.int 1, .int 10, .int 100, .int 1000, .int 10000, .int 100000, .int 1000000, .int 10000000, .int 100000000, .int 1000000000, .int 10000000000, .int 100000000000, .int 1000000000000, .int 10000000000000, .int 100000000000000, .int 1000000000000000, .int 10000000000000000, .int 100000000000000000, .int 1000000000000000000, .int 10000000000000000000]
def g_math_bits_deBruijn32tab:Row:=[.int 0, .int 1, .int 28, .int 2, .int 29, .int 14, .int 24, .int 3, .int 30, .int 22, .int 20, .int 15, .int 25, .int 17, .int 4, .int 8, .int 31, .int 27, .int 13, .int 23, .int 21, .int 19, .int 16, .int 7, .int 26, .int 12, .int 18, .int 6, .int 11, .int 5, .int 10, .int 9]
end Go.Ev
