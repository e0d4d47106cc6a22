/-
  A part of the proof: what the functions of the program compute.
-/
import Derived.Test.YtodphfbpiknhkaaZTab
import Derived.Test.YtodphfbpiknhkaaProg
set_option linter.all false
set_option maxRecDepth 100000
namespace Go.Ev.Zzp
theorem ok_22 : okFun Go.Proofs.Try.prog T 22 value_Size_a = true := by kernel_rfl
theorem ok_23 : okFun Go.Proofs.Try.prog T 23 value_Deep_a = true := by kernel_rfl
theorem ok_37 : okFun Go.Proofs.Try.prog T 37 value_Scalar_a = true := by kernel_rfl
theorem ok_27 : okFun Go.Proofs.Try.prog T 27 value_unused_a = true := by kernel_rfl
theorem ok_28 : okFun Go.Proofs.Try.prog T 28 value_number_a = true := by kernel_rfl
theorem ok_42 : okFun Go.Proofs.Try.prog T 42 value_Name_a = true := by kernel_rfl
theorem ok_46 : okFun Go.Proofs.Try.prog T 46 slices_IndexFunc_api_Field_a = true := by kernel_rfl
theorem ok_43 : okFun Go.Proofs.Try.prog T 43 slices_ContainsFunc_api_Field_a = true := by kernel_rfl
theorem ok_44 : okFun Go.Proofs.Try.prog T 44 value_names_1_a = true := by kernel_rfl
theorem ok_38 : okFun Go.Proofs.Try.prog T 38 value_names_a = true := by kernel_rfl
theorem ok_39 : okFun Go.Proofs.Try.prog T 39 value_keys_a = true := by kernel_rfl
theorem ok_29 : okFun Go.Proofs.Try.prog T 29 value_fields_a = true := by kernel_rfl
theorem ok_24 : okFun Go.Proofs.Try.prog T 24 value_node_a = true := by kernel_rfl
theorem ok_14 : okFun Go.Proofs.Try.prog T 14 value_Check_a = true := by kernel_rfl
theorem ok_13 : okFun Go.Proofs.Try.prog T 13 align_check_a = true := by kernel_rfl
theorem ok_31 : okFun Go.Proofs.Try.prog T 31 value_order_a = true := by kernel_rfl
theorem ok_32 : okFun Go.Proofs.Try.prog T 32 cmp_Or_int_a = true := by kernel_rfl
theorem ok_40 : okFun Go.Proofs.Try.prog T 40 cmp_isNaN_int_a = true := by kernel_rfl
theorem ok_33 : okFun Go.Proofs.Try.prog T 33 cmp_Compare_int_a = true := by kernel_rfl
theorem ok_41 : okFun Go.Proofs.Try.prog T 41 internal_bytealg_CompareString_a = true := by kernel_rfl
end Go.Ev.Zzp
namespace Go.Ev.Zzp
theorem ok_34 : okFun Go.Proofs.Try.prog T 34 strings_Compare_a = true := by kernel_rfl
theorem ok_35 : okFun Go.Proofs.Try.prog T 35 slices_CompareFunc_api_Field_a = true := by kernel_rfl
theorem ok_36 : okFun Go.Proofs.Try.prog T 36 value_Cmp_1_a = true := by kernel_rfl
theorem ok_26 : okFun Go.Proofs.Try.prog T 26 value_Cmp_a = true := by kernel_rfl
theorem ok_16 : okFun Go.Proofs.Try.prog T 16 value_Same_a = true := by kernel_rfl
theorem ok_20 : okFun Go.Proofs.Try.prog T 20 align_Cost_a = true := by kernel_rfl
theorem ok_19 : okFun Go.Proofs.Try.prog T 19 align_table_a = true := by kernel_rfl
theorem ok_11 : okFun Go.Proofs.Try.prog T 11 align_ByEdits_a = true := by kernel_rfl
theorem ok_21 : okFun Go.Proofs.Try.prog T 21 claplaw3_num_a = true := by kernel_rfl
theorem ok_12 : okFun Go.Proofs.Try.prog T 12 claplaw3_list_a = true := by kernel_rfl
end Go.Ev.Zzp
namespace Go.Ev.Zzp
theorem ok_4 : okFun Go.Proofs.Try.prog T 4 claplaw3_aligned_a = true := by kernel_rfl
theorem ok_5 : okFun Go.Proofs.Try.prog T 5 align_ByIndex_a = true := by kernel_rfl
theorem ok_6 : okFun Go.Proofs.Try.prog T 6 clapref3_Lists_a = true := by kernel_rfl
theorem ok_63 : okImp Go.Proofs.Try.prog T slices_Clone_api_Field_i1_a = true := by kernel_rfl
theorem ok_64 : okImp Go.Proofs.Try.prog T value_Copy_i2_a = true := by kernel_rfl
theorem ok_62 : okImp Go.Proofs.Try.prog T value_Copy_i0_a = true := by kernel_rfl
theorem ok_15 : okFun Go.Proofs.Try.prog T 15 value_Get_a = true := by kernel_rfl
theorem ok_7 : okFun Go.Proofs.Try.prog T 7 align_ByKey_a = true := by kernel_rfl
theorem ok_17 : okFun Go.Proofs.Try.prog T 17 clapref3_ByKey_1_a = true := by kernel_rfl
theorem ok_18 : okFun Go.Proofs.Try.prog T 18 clapref3_same_a = true := by kernel_rfl
end Go.Ev.Zzp
namespace Go.Ev.Zzp
theorem ok_8 : okFun Go.Proofs.Try.prog T 8 clapref3_ByKey_a = true := by kernel_rfl
theorem ok_9 : okFun Go.Proofs.Try.prog T 9 slices_Equal_clapref3_Two_a = true := by kernel_rfl
theorem ok_10 : okFun Go.Proofs.Try.prog T 10 claplaw3_twos_a = true := by kernel_rfl
theorem ok_3 : okFun Go.Proofs.Try.prog T 3 claplaw3_AlignPairs_a = true := by kernel_rfl
end Go.Ev.Zzp
