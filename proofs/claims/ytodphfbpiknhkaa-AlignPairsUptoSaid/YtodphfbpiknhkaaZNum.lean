/-
  A part of the proof: what the functions of the program compute.
-/
import Derived.Test.YtodphfbpiknhkaaEvZ
set_option linter.all false
set_option maxRecDepth 100000
namespace Go.Ev
def n_claplaw3_AlignPairs : Nat := 3
def n_claplaw3_aligned : Nat := 4
def n_align_ByIndex : Nat := 5
def n_clapref3_Lists : Nat := 6
def n_align_ByKey : Nat := 7
def n_clapref3_ByKey : Nat := 8
def n_slices_Equal_clapref3_Two : Nat := 9
def n_claplaw3_twos : Nat := 10
def n_align_ByEdits : Nat := 11
def n_claplaw3_list : Nat := 12
def n_align_check : Nat := 13
def n_value_Check : Nat := 14
def n_value_Get : Nat := 15
def n_value_Same : Nat := 16
def n_clapref3_ByKey_1 : Nat := 17
def n_clapref3_same : Nat := 18
def n_align_table : Nat := 19
def n_align_Cost : Nat := 20
def n_claplaw3_num : Nat := 21
def n_value_Size : Nat := 22
def n_value_Deep : Nat := 23
def n_value_node : Nat := 24
def n_value_Cmp : Nat := 26
def n_value_unused : Nat := 27
def n_value_number : Nat := 28
def n_value_fields : Nat := 29
def n_value_order : Nat := 31
def n_cmp_Or_int : Nat := 32
def n_cmp_Compare_int : Nat := 33
def n_strings_Compare : Nat := 34
def n_slices_CompareFunc_api_Field : Nat := 35
def n_value_Cmp_1 : Nat := 36
def n_value_Scalar : Nat := 37
def n_value_names : Nat := 38
def n_value_keys : Nat := 39
def n_cmp_isNaN_int : Nat := 40
def n_internal_bytealg_CompareString : Nat := 41
def n_value_Name : Nat := 42
def n_slices_ContainsFunc_api_Field : Nat := 43
def n_value_names_1 : Nat := 44
def n_internal_bytealg_abigen_runtime_cmpstring : Nat := 45
def n_slices_IndexFunc_api_Field : Nat := 46
def slices_Clone_api_Field_i1_n : Nat := 63
def value_Copy_i2_n : Nat := 64
def value_Copy_i0_n : Nat := 62
abbrev lA0 : L := .agg [.str, .int .i64, .int .i64, .str, .sl 47]
abbrev lA1 : L := .agg [.int .i64, .int .i64, .str, .sl 47]
abbrev lA2 : L := .agg [.int .i64, .int .i64]
abbrev oS0 : OSh := .cells false [.d lI, .d lI, .d lS, .sw 2]
abbrev oS1 : OSh := .cells false [.d lI, .d lI, .d lS, .whole 2]
abbrev bS0 : List OSh := [oS1, .var lA1, .arr lA0]
def slices_Clone_api_Field_i1_en : Shape := { slots := [(0, .d (.one (.sl 47)))], objs := [] }
def slices_Clone_api_Field_i1_ex : Shape := { slots := [(0, .whole 0)], objs := [.arr lA0], m := 0 }
def value_Copy_i2_en : Shape := { slots := [(0, .d lA1)], objs := [] }
def value_Copy_i2_ex : Shape := { slots := [(0, .d lA1)], objs := [], m := 0 }
def value_Copy_i0_en : Shape := { slots := [(0, .agg [.d lI, .d lI, .d lS, .d (.one (.sl 47))])], objs := [] }
def value_Copy_i0_ex : Shape := { slots := [(0, .d lA1)], objs := [], m := 0 }
end Go.Ev
