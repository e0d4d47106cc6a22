/-
  A part of the proof: what the functions of the program compute.
-/
import Derived.Test.YtnlaheegimhdpaaDoorEvZ
set_option linter.all false
set_option maxRecDepth 100000
namespace Go.Ev
def n_claplaw3_LensEquals : Nat := 3
def n_claplaw3_formed : Nat := 4
def n_lens_Equal : Nat := 5
def n_claplaw3_drop : Nat := 6
def n_clapref3_Equal : Nat := 7
def n_lens_Plain : Nat := 9
def n_lens_Text : Nat := 10
def n_lens_Size : Nat := 11
def n_lens_Check : Nat := 12
def n_slices_Equal_string : Nat := 13
def n_value_Same : Nat := 14
def n_slices_EqualFunc_2_api_Value : Nat := 15
def n_lens_samePair : Nat := 16
def n_slices_EqualFunc_api_Lens : Nat := 17
def n_claplaw3_num : Nat := 18
def n_clapref3_same : Nat := 19
def n_lens_Deep : Nat := 22
def n_lens_walk : Nat := 23
def n_value_Cmp : Nat := 24
def n_lens_word : Nat := 27
def n_lens_table : Nat := 28
def n_strconv_Itoa : Nat := 29
def n_lens_Node : Nat := 31
def n_value_order : Nat := 32
def n_cmp_Or_int : Nat := 33
def n_cmp_Compare_int : Nat := 34
def n_strings_Compare : Nat := 35
def n_slices_CompareFunc_api_Field : Nat := 36
def n_value_Cmp_1 : Nat := 37
def n_internal_strconv_Itoa : Nat := 38
def n_lens_quote : Nat := 39
def n_value_Name : Nat := 41
def n_value_Check : Nat := 42
def n_lens_special : Nat := 43
def n_cmp_isNaN_int : Nat := 44
def n_internal_bytealg_CompareString : Nat := 45
def n_internal_strconv_FormatInt : Nat := 46
def n_value_Size : Nat := 47
def n_value_Deep : Nat := 48
def n_value_node : Nat := 49
def n_lens_names : Nat := 50
def n_pattern_Check : Nat := 51
def n_lens_pairs : Nat := 52
def n_internal_bytealg_abigen_runtime_cmpstring : Nat := 53
def n_internal_strconv_small : Nat := 54
def n_internal_strconv_numDigits : Nat := 55
def n_value_unused : Nat := 58
def n_value_number : Nat := 59
def n_value_fields : Nat := 60
def n_slices_Contains_string : Nat := 61
def n_pattern_build : Nat := 62
def n_internal_strconv_log10Pow2 : Nat := 63
def n_math_bits_Len64 : Nat := 64
def n_value_Scalar : Nat := 68
def n_value_names : Nat := 69
def n_value_keys : Nat := 70
def n_slices_Index_string : Nat := 71
def n_pattern_parse : Nat := 72
def n_slices_ContainsFunc_api_Field : Nat := 79
def n_value_names_1 : Nat := 80
def n_slices_IndexFunc_api_Field : Nat := 85
def lens_printer_put_i5_n : Nat := 127
def lens_printer_value_i7_n : Nat := 129
def lens_printer_rest_i6_n : Nat := 128
def lens_printer_lens_i4_n : Nat := 126
def slices_Clone_api_Field_i2_n : Nat := 124
def value_Copy_i3_n : Nat := 125
def value_Copy_i1_n : Nat := 123
def lens_Copy_i0_n : Nat := 122
def lens_printer_put_i5_en : Shape := { slots := [(0, .ptr 0 0), (1, .d (.one (.sl 9)))], objs := [.cells false [.sw 1], .sarr 5 (.one (.int .u8))] }
def lens_printer_put_i5_ex : Shape := { slots := [], objs := [.cells false [.sw 1], .sarr 5 (.one (.int .u8))], m := 2 }
def lens_printer_value_i7_en : Shape := { slots := [(0, .ptr 0 0), (1, .d (.agg [.int .i64, .int .i64, .str, .sl 55]))], objs := [.cells false [.sw 1], .sarr 5 (.one (.int .u8))] }
def lens_printer_value_i7_ex : Shape := { slots := [], objs := [.cells false [.sw 1], .sarr 5 (.one (.int .u8))], m := 2 }
def lens_printer_rest_i6_en : Shape := { slots := [(0, .ptr 0 0), (1, .d (.agg [.int .i64, .str, .str, .sl 9, .int .i64, .int .i64, .int .i64, .int .u8, .int .i64, .int .i64, .str, .sl 55, .sl 44, .sl 29])), (2, .d (.agg [.bool, .bool, .bool, .bool, .bool, .bool, .bool, .bool, .int .i64]))], objs := [.cells false [.sw 1], .sarr 5 (.one (.int .u8))] }
def lens_printer_rest_i6_ex : Shape := { slots := [], objs := [.cells false [.sw 1], .sarr 5 (.one (.int .u8))], m := 2 }
def lens_printer_lens_i4_en : Shape := { slots := [(0, .ptr 0 0), (1, .d (.agg [.int .i64, .str, .str, .sl 9, .int .i64, .int .i64, .int .i64, .int .u8, .int .i64, .int .i64, .str, .sl 55, .sl 44, .sl 29]))], objs := [.cells false [.sw 1], .sarr 5 (.one (.int .u8))] }
def lens_printer_lens_i4_ex : Shape := { slots := [], objs := [.cells false [.sw 1], .sarr 5 (.one (.int .u8))], m := 2 }
def slices_Clone_api_Field_i2_en : Shape := { slots := [(0, .d (.one (.sl 55)))], objs := [] }
def slices_Clone_api_Field_i2_ex : Shape := { slots := [(0, .whole 0)], objs := [.arr (.agg [.str, .int .i64, .int .i64, .str, .sl 55])], m := 0 }
def value_Copy_i3_en : Shape := { slots := [(0, .d (.agg [.int .i64, .int .i64, .str, .sl 55]))], objs := [] }
def value_Copy_i3_ex : Shape := { slots := [(0, .d (.agg [.int .i64, .int .i64, .str, .sl 55]))], objs := [], m := 0 }
def value_Copy_i1_en : Shape := { slots := [(0, .agg [.d (.one (.int .i64)), .d (.one (.int .i64)), .d (.one (.str)), .d (.one (.sl 55))])], objs := [] }
def value_Copy_i1_ex : Shape := { slots := [(0, .d (.agg [.int .i64, .int .i64, .str, .sl 55]))], objs := [], m := 0 }
def lens_Copy_i0_en : Shape := { slots := [(0, .agg [.d (.one (.int .i64)), .d (.one (.str)), .d (.one (.str)), .d (.one (.sl 9)), .d (.one (.int .i64)), .d (.one (.int .i64)), .d (.one (.int .i64)), .d (.one (.int .u8)), .d (.one (.int .i64)), .d (.one (.int .i64)), .d (.one (.str)), .d (.one (.sl 55)), .d (.one (.sl 44)), .d (.one (.sl 29))])], objs := [] }
def lens_Copy_i0_ex : Shape := { slots := [(0, .d (.agg [.int .i64, .str, .str, .sl 9, .int .i64, .int .i64, .int .i64, .int .u8, .int .i64, .int .i64, .str, .sl 55, .sl 44, .sl 29]))], objs := [], m := 0 }
end Go.Ev
