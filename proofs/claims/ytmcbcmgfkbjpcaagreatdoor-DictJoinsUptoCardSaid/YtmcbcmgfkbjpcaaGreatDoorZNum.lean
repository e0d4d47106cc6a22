/-
  A part of the proof: what the functions of the program compute.
-/
import Derived.Test.YtmcbcmgfkbjpcaaGreatDoorEvZ
set_option linter.all false
set_option maxRecDepth 100000
namespace Go.Ev
def n_claplaw3_DictJoins:Nat:=3
def n_claplaw3_looked:Nat:=4
def n_dict_Compose:Nat:=5
def n_clapref3_Compose:Nat:=6
def n_claplaw3_samePairs:Nat:=7
def n_dict_Clashes:Nat:=8
def n_clapref3_Clashes:Nat:=9
def n_dict_Merge:Nat:=10
def n_clapref3_Merge:Nat:=11
def n_dict_To:Nat:=12
def n_claplaw3_pairs:Nat:=13
def n_claplaw3_num:Nat:=14
def n_dict_Sort:Nat:=15
def n_value_Same:Nat:=16
def n_dict_Check:Nat:=17
def n_dict_find:Nat:=18
def n_dict_sorted:Nat:=19
def n_clapref3_first:Nat:=20
def n_clapref3_Pairs:Nat:=21
def n_clapref3_Sorted:Nat:=23
def n_clapref3_id:Nat:=24
def n_slices_EqualFunc_2_api_Value:Nat:=25
def n_claplaw3_samePair:Nat:=26
def n_value_Cmp:Nat:=29
def n_lens_Check:Nat:=30
def n_slices_IndexFunc_2_api_Value:Nat:=31
def n_dict_find_1:Nat:=32
def n_dict_sorted_1:Nat:=34
def n_value_Check:Nat:=35
def n_clapref3_plain:Nat:=36
def n_strconv_Itoa:Nat:=37
def n_clapref3_spliced_2_api_Value:Nat:=38
def n_value_order:Nat:=40
def n_cmp_Or_int:Nat:=41
def n_cmp_Compare_int:Nat:=42
def n_strings_Compare:Nat:=43
def n_slices_CompareFunc_api_Field:Nat:=44
def n_value_Cmp_1:Nat:=45
def n_lens_Size:Nat:=46
def n_lens_Deep:Nat:=47
def n_lens_walk:Nat:=48
def n_math_bits_Len:Nat:=50
def n_value_Size:Nat:=51
def n_value_Deep:Nat:=52
def n_value_node:Nat:=53
def n_cmp_isNaN_int:Nat:=55
def n_internal_bytealg_CompareString:Nat:=56
def n_lens_Node:Nat:=57
def n_math_bits_Len64:Nat:=67
def n_value_unused:Nat:=68
def n_value_number:Nat:=69
def n_value_fields:Nat:=70
def n_internal_bytealg_abigen_runtime_cmpstring:Nat:=72
def n_lens_table:Nat:=73
def n_value_Name:Nat:=74
def n_lens_special:Nat:=75
def n_slices_nextPowerOfTwo:Nat:=77
def n_value_Scalar:Nat:=81
def n_value_names:Nat:=82
def n_value_keys:Nat:=83
def n_lens_Plain:Nat:=88
def n_lens_pairs:Nat:=91
def n_slices_ContainsFunc_api_Field:Nat:=93
def n_value_names_1:Nat:=94
def n_slices_IndexFunc_api_Field:Nat:=101
def slices_Clone_api_Field_i1_n:Nat:=151
def value_Copy_i0_n:Nat:=150
def value_Copy_i2_n:Nat:=152
def slices_insertionSortCmpFunc_2_api_Value_i5_n:Nat:=155
def slices_siftDownCmpFunc_2_api_Value_i7_n:Nat:=157
def slices_heapSortCmpFunc_2_api_Value_i6_n:Nat:=156
def slices_xorshift_Next_i9_n:Nat:=159
def slices_breakPatternsCmpFunc_2_api_Value_i8_n:Nat:=158
def slices_order2CmpFunc_2_api_Value_i12_n:Nat:=162
def slices_medianCmpFunc_2_api_Value_i11_n:Nat:=161
def slices_choosePivotCmpFunc_2_api_Value_i10_n:Nat:=160
def slices_reverseRangeCmpFunc_2_api_Value_i13_n:Nat:=163
def slices_partialInsertionSortCmpFunc_2_api_Value_i14_n:Nat:=164
def slices_partitionEqualCmpFunc_2_api_Value_i15_n:Nat:=165
def slices_partitionCmpFunc_2_api_Value_i16_n:Nat:=166
def slices_pdqsortCmpFunc_2_api_Value_i4_n:Nat:=154
def slices_SortFunc_2_api_Value_i3_n:Nat:=153
def clapref3_maps_i17_n:Nat:=167
def slices_Clone_2_api_Value_i18_n:Nat:=168
abbrev lA0:L:= .agg [.int .i64, .int .i64, .str, .sl 74, .int .i64, .int .i64, .str, .sl 74]
abbrev lA1:L:= .agg [.str, .int .i64, .int .i64, .str, .sl 74]
abbrev lA2:L:= .agg [.int .i64, .int .i64, .str, .sl 74]
abbrev lA3:L:= .agg [.int .i64, .str, .str, .sl 9, .int .i64, .int .i64, .int .i64, .int .u8, .int .i64, .int .i64, .str, .sl 74, .sl 40, .sl 60]
abbrev lA4:L:= .agg [.bool, .bool, .bool, .bool, .bool, .bool, .bool, .bool, .int .i64]
abbrev oS0:OSh:= .cells false [.d lI, .d lI, .d lS, .whole 2]
abbrev bS0:List OSh:=[oS0, .var lA2, .arr lA1]
abbrev bS1:List OSh:=[.map lS lA2, .map lS lA2]
def slices_Clone_api_Field_i1_en:Shape:={slots:=[(0, .d (.one (.sl 74)))],objs:=[]}
def slices_Clone_api_Field_i1_ex:Shape:={slots:=[(0, .whole 0)],objs:=[.arr lA1],m:=0}
def value_Copy_i0_en:Shape:={slots:=[(0, .d lA2)],objs:=[]}
def value_Copy_i0_ex:Shape:={slots:=[(0, .d lA2)],objs:=[],m:=0}
def value_Copy_i2_en:Shape:={slots:=[(0, .agg [.d lI, .d lI, .d lS, .d (.one (.sl 74))])],objs:=[]}
def value_Copy_i2_ex:Shape:={slots:=[(0, .d lA2)],objs:=[],m:=0}
def slices_insertionSortCmpFunc_2_api_Value_i5_en:Shape:={slots:=[(0, .hol 0),(1, .d lI),(2, .d lI),(3, .d (.one (.fn 64)))],objs:=[.hol lA0 (.agg [])]}
def slices_insertionSortCmpFunc_2_api_Value_i5_ex:Shape:={slots:=[],objs:=[.hol lA0 (.agg [])],m:=1}
def slices_siftDownCmpFunc_2_api_Value_i7_en:Shape:={slots:=[(0, .hol 0),(1, .d lI),(2, .d lI),(3, .d lI),(4, .d (.one (.fn 64)))],objs:=[.hol lA0 (.agg [])]}
def slices_siftDownCmpFunc_2_api_Value_i7_ex:Shape:={slots:=[],objs:=[.hol lA0 (.agg [])],m:=1}
def slices_heapSortCmpFunc_2_api_Value_i6_en:Shape:={slots:=[(0, .hol 0),(1, .d lI),(2, .d lI),(3, .d (.one (.fn 64)))],objs:=[.hol lA0 (.agg [])]}
def slices_heapSortCmpFunc_2_api_Value_i6_ex:Shape:={slots:=[],objs:=[.hol lA0 (.agg [])],m:=1}
def slices_xorshift_Next_i9_en:Shape:={slots:=[(0, .ptr 0 0)],objs:=[.var lW]}
def slices_xorshift_Next_i9_ex:Shape:={slots:=[(0, .d lW)],objs:=[.var lW],m:=1}
def slices_breakPatternsCmpFunc_2_api_Value_i8_en:Shape:={slots:=[(0, .hol 0),(1, .d lI),(2, .d lI),(3, .d (.one (.fn 64)))],objs:=[.hol lA0 (.agg [])]}
def slices_breakPatternsCmpFunc_2_api_Value_i8_ex:Shape:={slots:=[],objs:=[.hol lA0 (.agg [])],m:=1}
def slices_order2CmpFunc_2_api_Value_i12_en:Shape:={slots:=[(0, .hol 0),(1, .d lI),(2, .d lI),(3, .ptr 1 0),(4, .d (.one (.fn 64)))],objs:=[.hol lA0 (.agg []), .var lI]}
def slices_order2CmpFunc_2_api_Value_i12_ex:Shape:={slots:=[(0, .d lI),(1, .d lI)],objs:=[.hol lA0 (.agg []), .var lI],m:=2}
def slices_medianCmpFunc_2_api_Value_i11_en:Shape:={slots:=[(0, .hol 0),(1, .d lI),(2, .d lI),(3, .d lI),(4, .ptr 1 0),(5, .d (.one (.fn 64)))],objs:=[.hol lA0 (.agg []), .var lI]}
def slices_medianCmpFunc_2_api_Value_i11_ex:Shape:={slots:=[(0, .d lI)],objs:=[.hol lA0 (.agg []), .var lI],m:=2}
def slices_choosePivotCmpFunc_2_api_Value_i10_en:Shape:={slots:=[(0, .hol 0),(1, .d lI),(2, .d lI),(3, .d (.one (.fn 64)))],objs:=[.hol lA0 (.agg [])]}
def slices_choosePivotCmpFunc_2_api_Value_i10_ex:Shape:={slots:=[(0, .d lI),(1, .d lI)],objs:=[.hol lA0 (.agg [])],m:=1}
def slices_reverseRangeCmpFunc_2_api_Value_i13_en:Shape:={slots:=[(0, .hol 0),(1, .d lI),(2, .d lI),(3, .d (.one (.fn 64)))],objs:=[.hol lA0 (.agg [])]}
def slices_reverseRangeCmpFunc_2_api_Value_i13_ex:Shape:={slots:=[],objs:=[.hol lA0 (.agg [])],m:=1}
def slices_partialInsertionSortCmpFunc_2_api_Value_i14_en:Shape:={slots:=[(0, .hol 0),(1, .d lI),(2, .d lI),(3, .d (.one (.fn 64)))],objs:=[.hol lA0 (.agg [])]}
def slices_partialInsertionSortCmpFunc_2_api_Value_i14_ex:Shape:={slots:=[(0, .d lB)],objs:=[.hol lA0 (.agg [])],m:=1}
def slices_partitionEqualCmpFunc_2_api_Value_i15_en:Shape:={slots:=[(0, .hol 0),(1, .d lI),(2, .d lI),(3, .d lI),(4, .d (.one (.fn 64)))],objs:=[.hol lA0 (.agg [])]}
def slices_partitionEqualCmpFunc_2_api_Value_i15_ex:Shape:={slots:=[(0, .d lI)],objs:=[.hol lA0 (.agg [])],m:=1}
def slices_partitionCmpFunc_2_api_Value_i16_en:Shape:={slots:=[(0, .hol 0),(1, .d lI),(2, .d lI),(3, .d lI),(4, .d (.one (.fn 64)))],objs:=[.hol lA0 (.agg [])]}
def slices_partitionCmpFunc_2_api_Value_i16_ex:Shape:={slots:=[(0, .d lI),(1, .d lB)],objs:=[.hol lA0 (.agg [])],m:=1}
def slices_pdqsortCmpFunc_2_api_Value_i4_en:Shape:={slots:=[(0, .hol 0),(1, .d lI),(2, .d lI),(3, .d lI),(4, .d (.one (.fn 64)))],objs:=[.hol lA0 (.agg [])]}
def slices_pdqsortCmpFunc_2_api_Value_i4_ex:Shape:={slots:=[],objs:=[.hol lA0 (.agg [])],m:=1}
def slices_SortFunc_2_api_Value_i3_en:Shape:={slots:=[(0, .hol 0),(1, .d (.one (.fn 64)))],objs:=[.hol lA0 (.agg [])]}
def slices_SortFunc_2_api_Value_i3_ex:Shape:={slots:=[],objs:=[.hol lA0 (.agg [])],m:=1}
def clapref3_maps_i17_en:Shape:={slots:=[(0, .d (.one (.sl 40)))],objs:=[]}
def clapref3_maps_i17_ex:Shape:={slots:=[(0, .map 0),(1, .map 1)],objs:=bS1,m:=0}
def slices_Clone_2_api_Value_i18_en:Shape:={slots:=[(0, .d (.one (.sl 40)))],objs:=[]}
def slices_Clone_2_api_Value_i18_ex:Shape:={slots:=[(0, .sw 0)],objs:=[.sarr 40 lA0],m:=0}
def g_math_bits_deBruijn32tab:Row:=[.int 0, .int 1, .int 28, .int 2, .int 29, .int 14, .int 24, .int 3, .int 30, .int 22, .int 20, .int 15, .int 25, .int 17, .int 4, .int 8, .int 31, .int 27, .int 13, .int 23, .int 21, .int 19, .int 16, .int 7, .int 26, .int 12, .int 18, .int 6, .int 11, .int 5, .int 10, .int 9]
def g_internal_strconv_uint64pow10:Row:=[.int 1, .int 10, .int 100, .int 1000, .int 10000, .int 100000, .int 1000000, .int 10000000, .int 100000000, .int 1000000000, .int 10000000000, .int 100000000000, .int 1000000000000, .int 10000000000000, .int 100000000000000, .int 1000000000000000, .int 10000000000000000, .int 100000000000000000, .int 1000000000000000000, .int 10000000000000000000]
def g_math_bits_deBruijn64tab:Row:=[.int 0, .int 1, .int 56, .int 2, .int 57, .int 49, .int 28, .int 3, .int 61, .int 58, .int 42, .int 50, .int 38, .int 29, .int 17, .int 4, .int 62, .int 47, .int 59, .int 36, .int 45, .int 43, .int 51, .int 22, .int 53, .int 39, .int 33, .int 30, .int 24, .int 18, .int 12, .int 5, .int 63, .int 55, .int 48, .int 27, .int 60, .int 41, .int 37, .int 16, .int 46, .int 35, .int 44, .int 21, .int 52, .int 32, .int 23, .int 11, .int 54, .int 26, .int 40, .int 15, .int 34, .int 20, .int 31, .int 10, .int 25, .int 14, .int 19, .int 9, .int 13, .int 8, .int 7, .int 6]
end Go.Ev
