/-
  A part of the proof: what the functions of the program compute.
-/
import Derived.Test.YtoopeecnlhgfbaaZTab
import Derived.Test.YtoopeecnlhgfbaaProg
set_option linter.all false
set_option maxRecDepth 100000
namespace Go.Ev.Zze
theorem ok_24 : okFun Go.Proofs.Try.prog T 24 value_order_a = true := by kernel_rfl
theorem ok_25 : okFun Go.Proofs.Try.prog T 25 cmp_Or_int_a = true := by kernel_rfl
theorem ok_33 : okFun Go.Proofs.Try.prog T 33 cmp_isNaN_int_a = true := by kernel_rfl
theorem ok_26 : okFun Go.Proofs.Try.prog T 26 cmp_Compare_int_a = true := by kernel_rfl
theorem ok_34 : okFun Go.Proofs.Try.prog T 34 internal_bytealg_CompareString_a = true := by kernel_rfl
theorem ok_27 : okFun Go.Proofs.Try.prog T 27 strings_Compare_a = true := by kernel_rfl
theorem ok_28 : okFun Go.Proofs.Try.prog T 28 slices_CompareFunc_api_Field_a = true := by kernel_rfl
theorem ok_29 : okFun Go.Proofs.Try.prog T 29 value_Cmp_1_a = true := by kernel_rfl
theorem ok_20 : okFun Go.Proofs.Try.prog T 20 value_Cmp_a = true := by kernel_rfl
theorem ok_16 : okFun Go.Proofs.Try.prog T 16 value_Same_a = true := by kernel_rfl
theorem ok_7 : okFun Go.Proofs.Try.prog T 7 align_Cost_a = true := by kernel_rfl
theorem ok_21 : okFun Go.Proofs.Try.prog T 21 value_Size_a = true := by kernel_rfl
theorem ok_22 : okFun Go.Proofs.Try.prog T 22 value_Deep_a = true := by kernel_rfl
theorem ok_35 : okFun Go.Proofs.Try.prog T 35 value_Scalar_a = true := by kernel_rfl
theorem ok_30 : okFun Go.Proofs.Try.prog T 30 value_unused_a = true := by kernel_rfl
theorem ok_31 : okFun Go.Proofs.Try.prog T 31 value_number_a = true := by kernel_rfl
theorem ok_39 : okFun Go.Proofs.Try.prog T 39 value_Name_a = true := by kernel_rfl
theorem ok_42 : okFun Go.Proofs.Try.prog T 42 slices_IndexFunc_api_Field_a = true := by kernel_rfl
theorem ok_40 : okFun Go.Proofs.Try.prog T 40 slices_ContainsFunc_api_Field_a = true := by kernel_rfl
theorem ok_41 : okFun Go.Proofs.Try.prog T 41 value_names_1_a = true := by kernel_rfl
theorem ok_36 : okFun Go.Proofs.Try.prog T 36 value_names_a = true := by kernel_rfl
end Go.Ev.Zze
namespace Go.Ev.Zze
theorem ok_37 : okFun Go.Proofs.Try.prog T 37 value_keys_a = true := by kernel_rfl
theorem ok_32 : okFun Go.Proofs.Try.prog T 32 value_fields_a = true := by kernel_rfl
theorem ok_23 : okFun Go.Proofs.Try.prog T 23 value_node_a = true := by kernel_rfl
theorem ok_19 : okFun Go.Proofs.Try.prog T 19 value_Check_a = true := by kernel_rfl
theorem ok_12 : okFun Go.Proofs.Try.prog T 12 align_check_a = true := by kernel_rfl
theorem ok_13 : okFun Go.Proofs.Try.prog T 13 align_table_a = true := by kernel_rfl
theorem ok_5 : okFun Go.Proofs.Try.prog T 5 align_ByEdits_a = true := by kernel_rfl
theorem ok_18 : okFun Go.Proofs.Try.prog T 18 claplaw3_num_a = true := by kernel_rfl
end Go.Ev.Zze
namespace Go.Ev.Zze
theorem ok_11 : okFun Go.Proofs.Try.prog T 11 claplaw3_list_a = true := by kernel_rfl
theorem ok_4 : okFun Go.Proofs.Try.prog T 4 claplaw3_aligned_a = true := by kernel_rfl
theorem ok_17 : okFun Go.Proofs.Try.prog T 17 clapref3_same_a = true := by kernel_rfl
theorem ok_8 : okFun Go.Proofs.Try.prog T 8 clapref3_Cost_a = true := by kernel_rfl
theorem ok_14 : okFun Go.Proofs.Try.prog T 14 clapref3_Lists_a = true := by kernel_rfl
theorem ok_59 : okImp Go.Proofs.Try.prog T clapref3_ByEdits_1_i0_a = true := by kernel_rfl
theorem ok_6 : okFun Go.Proofs.Try.prog T 6 clapref3_ByEdits_a = true := by kernel_rfl
theorem ok_9 : okFun Go.Proofs.Try.prog T 9 slices_Equal_clapref3_Two_a = true := by kernel_rfl
theorem ok_10 : okFun Go.Proofs.Try.prog T 10 claplaw3_twos_a = true := by kernel_rfl
theorem ok_3 : okFun Go.Proofs.Try.prog T 3 claplaw3_AlignEdits_a = true := by kernel_rfl
end Go.Ev.Zze
