/-
  A part of the proof: what the functions of the program compute.
-/
import Derived.Test.YtgfpahfegbmoeaaEvZ
set_option linter.all false
set_option maxRecDepth 100000
namespace Go.Ev
def n_claplaw3_AlignLists : Nat := 3
def n_claplaw3_aligned : Nat := 4
def n_align_Check : Nat := 5
def n_claplaw3_twos : Nat := 6
def n_align_Kept : Nat := 7
def n_clapref3_Kept : Nat := 8
def n_clapref3_Aligned : Nat := 9
def n_slices_Equal_int : Nat := 10
def n_slices_Equal_clapref3_Two : Nat := 11
def n_align_Invert : Nat := 12
def n_clapref3_Exchanged : Nat := 13
def n_align_Compose : Nat := 14
def n_clapref3_Joined : Nat := 15
def n_align_Crossings : Nat := 16
def n_clapref3_Crossings : Nat := 17
def n_align_ByEdits : Nat := 18
def n_claplaw3_list : Nat := 19
def n_align_Invert_1 : Nat := 21
def n_cmp_Compare_int : Nat := 22
def n_clapref3_spliced_clapref3_Two : Nat := 23
def n_align_check : Nat := 24
def n_align_table : Nat := 25
def n_align_Cost : Nat := 26
def n_claplaw3_num : Nat := 27
def n_cmp_isNaN_int : Nat := 29
def n_value_Check : Nat := 30
def n_value_Same : Nat := 31
def n_value_Size : Nat := 34
def n_value_Deep : Nat := 35
def n_value_node : Nat := 36
def n_value_Cmp : Nat := 37
def n_value_unused : Nat := 39
def n_value_number : Nat := 40
def n_value_fields : Nat := 41
def n_value_order : Nat := 42
def n_cmp_Or_int : Nat := 43
def n_strings_Compare : Nat := 44
def n_slices_CompareFunc_api_Field : Nat := 45
def n_value_Cmp_1 : Nat := 46
def n_value_Scalar : Nat := 48
def n_value_names : Nat := 49
def n_value_keys : Nat := 50
def n_internal_bytealg_CompareString : Nat := 51
def n_value_Name : Nat := 52
def n_slices_ContainsFunc_api_Field : Nat := 53
def n_value_names_1 : Nat := 54
def n_internal_bytealg_abigen_runtime_cmpstring : Nat := 55
def n_slices_IndexFunc_api_Field : Nat := 56
def slices_insertionSortCmpFunc_align_Pair_i2_n : Nat := 75
def slices_swapRangeCmpFunc_align_Pair_i5_n : Nat := 78
def slices_rotateCmpFunc_align_Pair_i4_n : Nat := 77
def slices_symMergeCmpFunc_align_Pair_i3_n : Nat := 76
def slices_stableCmpFunc_align_Pair_i1_n : Nat := 74
def slices_SortStableFunc_align_Pair_i0_n : Nat := 73
abbrev lA0 : L := .agg [.str, .int .i64, .int .i64, .str, .sl 64]
abbrev lA1 : L := .agg [.int .i64, .int .i64, .str, .sl 64]
abbrev lA2 : L := .agg [.int .i64, .int .i64]
abbrev oS0 : OSh := .cells false [.d lI, .d lI, .d lS, .sw 2]
abbrev bS0 : List OSh := [.sarr 3 lI, .sarr 3 lI]
def slices_insertionSortCmpFunc_align_Pair_i2_en : Shape := { slots := [(0, .hol 0), (1, .d lI), (2, .d lI), (3, .d (.one (.fn 55)))], objs := [.hol lA2 (.agg [])] }
def slices_insertionSortCmpFunc_align_Pair_i2_ex : Shape := { slots := [], objs := [.hol lA2 (.agg [])], m := 1 }
def slices_swapRangeCmpFunc_align_Pair_i5_en : Shape := { slots := [(0, .hol 0), (1, .d lI), (2, .d lI), (3, .d lI), (4, .d (.one (.fn 55)))], objs := [.hol lA2 (.agg [])] }
def slices_swapRangeCmpFunc_align_Pair_i5_ex : Shape := { slots := [], objs := [.hol lA2 (.agg [])], m := 1 }
def slices_rotateCmpFunc_align_Pair_i4_en : Shape := { slots := [(0, .hol 0), (1, .d lI), (2, .d lI), (3, .d lI), (4, .d (.one (.fn 55)))], objs := [.hol lA2 (.agg [])] }
def slices_rotateCmpFunc_align_Pair_i4_ex : Shape := { slots := [], objs := [.hol lA2 (.agg [])], m := 1 }
def slices_symMergeCmpFunc_align_Pair_i3_en : Shape := { slots := [(0, .hol 0), (1, .d lI), (2, .d lI), (3, .d lI), (4, .d (.one (.fn 55)))], objs := [.hol lA2 (.agg [])] }
def slices_symMergeCmpFunc_align_Pair_i3_ex : Shape := { slots := [], objs := [.hol lA2 (.agg [])], m := 1 }
def slices_stableCmpFunc_align_Pair_i1_en : Shape := { slots := [(0, .hol 0), (1, .d lI), (2, .d (.one (.fn 55)))], objs := [.hol lA2 (.agg [])] }
def slices_stableCmpFunc_align_Pair_i1_ex : Shape := { slots := [], objs := [.hol lA2 (.agg [])], m := 1 }
def slices_SortStableFunc_align_Pair_i0_en : Shape := { slots := [(0, .hol 0), (1, .d (.one (.fn 55)))], objs := [.hol lA2 (.agg [])] }
def slices_SortStableFunc_align_Pair_i0_ex : Shape := { slots := [], objs := [.hol lA2 (.agg [])], m := 1 }
end Go.Ev
