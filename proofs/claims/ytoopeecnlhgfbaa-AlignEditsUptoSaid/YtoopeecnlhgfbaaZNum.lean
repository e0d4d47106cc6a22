/-
  A part of the proof: what the functions of the program compute.
-/
import Derived.Test.YtoopeecnlhgfbaaEvZ
set_option linter.all false
set_option maxRecDepth 100000
namespace Go.Ev
def n_claplaw3_AlignEdits : Nat := 3
def n_claplaw3_aligned : Nat := 4
def n_align_ByEdits : Nat := 5
def n_clapref3_ByEdits : Nat := 6
def n_align_Cost : Nat := 7
def n_clapref3_Cost : Nat := 8
def n_slices_Equal_clapref3_Two : Nat := 9
def n_claplaw3_twos : Nat := 10
def n_claplaw3_list : Nat := 11
def n_align_check : Nat := 12
def n_align_table : Nat := 13
def n_clapref3_Lists : Nat := 14
def n_value_Same : Nat := 16
def n_clapref3_same : Nat := 17
def n_claplaw3_num : Nat := 18
def n_value_Check : Nat := 19
def n_value_Cmp : Nat := 20
def n_value_Size : Nat := 21
def n_value_Deep : Nat := 22
def n_value_node : Nat := 23
def n_value_order : Nat := 24
def n_cmp_Or_int : Nat := 25
def n_cmp_Compare_int : Nat := 26
def n_strings_Compare : Nat := 27
def n_slices_CompareFunc_api_Field : Nat := 28
def n_value_Cmp_1 : Nat := 29
def n_value_unused : Nat := 30
def n_value_number : Nat := 31
def n_value_fields : Nat := 32
def n_cmp_isNaN_int : Nat := 33
def n_internal_bytealg_CompareString : Nat := 34
def n_value_Scalar : Nat := 35
def n_value_names : Nat := 36
def n_value_keys : Nat := 37
def n_internal_bytealg_abigen_runtime_cmpstring : Nat := 38
def n_value_Name : Nat := 39
def n_slices_ContainsFunc_api_Field : Nat := 40
def n_value_names_1 : Nat := 41
def n_slices_IndexFunc_api_Field : Nat := 42
def clapref3_ByEdits_1_i0_n : Nat := 59
abbrev lA0 : L := .agg [.str, .int .i64, .int .i64, .str, .sl 46]
abbrev lA1 : L := .agg [.int .i64, .int .i64, .str, .sl 46]
abbrev lA2 : L := .agg [.int .i64, .int .i64]
abbrev oS0 : OSh := .cells false [.d lI, .d lI, .d lS, .sw 2]
def clapref3_ByEdits_1_i0_en : Shape := { slots := [(0, .d lI), (1, .d lI), (2, .ptr 0 0), (3, .d (.one (.ref 24))), (4, .d (.one (.ref 24))), (5, .ptr 1 0)], objs := [.cells false [.map 2], .cells true [.fn 15 [.ptr 0 0, .d (.one (.ref 24)), .d (.one (.ref 24)), .ptr 1 0]], .map lA2 lI] }
def clapref3_ByEdits_1_i0_ex : Shape := { slots := [(0, .d lI)], objs := [.cells false [.map 2], .cells true [.fn 15 [.ptr 0 0, .d (.one (.ref 24)), .d (.one (.ref 24)), .ptr 1 0]], .map lA2 lI], m := 3 }
end Go.Ev
