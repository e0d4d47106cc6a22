/-
  A part of the proof: what the functions of the program compute.
-/
import Derived.Test.YtgfpahfegbmoeaaZTab
import Derived.Test.YtgfpahfegbmoeaaProg
set_option linter.all false
set_option maxRecDepth 100000
namespace Go.Ev.Zzi
theorem ok_34 : okFun Go.Proofs.Try.prog T 34 value_Size_a = true := by kernel_rfl
theorem ok_35 : okFun Go.Proofs.Try.prog T 35 value_Deep_a = true := by kernel_rfl
theorem ok_48 : okFun Go.Proofs.Try.prog T 48 value_Scalar_a = true := by kernel_rfl
theorem ok_39 : okFun Go.Proofs.Try.prog T 39 value_unused_a = true := by kernel_rfl
theorem ok_40 : okFun Go.Proofs.Try.prog T 40 value_number_a = true := by kernel_rfl
theorem ok_52 : okFun Go.Proofs.Try.prog T 52 value_Name_a = true := by kernel_rfl
theorem ok_56 : okFun Go.Proofs.Try.prog T 56 slices_IndexFunc_api_Field_a = true := by kernel_rfl
theorem ok_53 : okFun Go.Proofs.Try.prog T 53 slices_ContainsFunc_api_Field_a = true := by kernel_rfl
theorem ok_54 : okFun Go.Proofs.Try.prog T 54 value_names_1_a = true := by kernel_rfl
theorem ok_49 : okFun Go.Proofs.Try.prog T 49 value_names_a = true := by kernel_rfl
theorem ok_50 : okFun Go.Proofs.Try.prog T 50 value_keys_a = true := by kernel_rfl
theorem ok_41 : okFun Go.Proofs.Try.prog T 41 value_fields_a = true := by kernel_rfl
theorem ok_36 : okFun Go.Proofs.Try.prog T 36 value_node_a = true := by kernel_rfl
theorem ok_30 : okFun Go.Proofs.Try.prog T 30 value_Check_a = true := by kernel_rfl
theorem ok_24 : okFun Go.Proofs.Try.prog T 24 align_check_a = true := by kernel_rfl
theorem ok_29 : okFun Go.Proofs.Try.prog T 29 cmp_isNaN_int_a = true := by kernel_rfl
theorem ok_22 : okFun Go.Proofs.Try.prog T 22 cmp_Compare_int_a = true := by kernel_rfl
theorem ok_42 : okFun Go.Proofs.Try.prog T 42 value_order_a = true := by kernel_rfl
theorem ok_43 : okFun Go.Proofs.Try.prog T 43 cmp_Or_int_a = true := by kernel_rfl
theorem ok_51 : okFun Go.Proofs.Try.prog T 51 internal_bytealg_CompareString_a = true := by kernel_rfl
theorem ok_44 : okFun Go.Proofs.Try.prog T 44 strings_Compare_a = true := by kernel_rfl
theorem ok_45 : okFun Go.Proofs.Try.prog T 45 slices_CompareFunc_api_Field_a = true := by kernel_rfl
theorem ok_46 : okFun Go.Proofs.Try.prog T 46 value_Cmp_1_a = true := by kernel_rfl
theorem ok_37 : okFun Go.Proofs.Try.prog T 37 value_Cmp_a = true := by kernel_rfl
theorem ok_31 : okFun Go.Proofs.Try.prog T 31 value_Same_a = true := by kernel_rfl
theorem ok_26 : okFun Go.Proofs.Try.prog T 26 align_Cost_a = true := by kernel_rfl
theorem ok_25 : okFun Go.Proofs.Try.prog T 25 align_table_a = true := by kernel_rfl
end Go.Ev.Zzi
namespace Go.Ev.Zzi
theorem ok_18 : okFun Go.Proofs.Try.prog T 18 align_ByEdits_a = true := by kernel_rfl
theorem ok_27 : okFun Go.Proofs.Try.prog T 27 claplaw3_num_a = true := by kernel_rfl
theorem ok_19 : okFun Go.Proofs.Try.prog T 19 claplaw3_list_a = true := by kernel_rfl
theorem ok_4 : okFun Go.Proofs.Try.prog T 4 claplaw3_aligned_a = true := by kernel_rfl
theorem ok_5 : okFun Go.Proofs.Try.prog T 5 align_Check_a = true := by kernel_rfl
theorem ok_6 : okFun Go.Proofs.Try.prog T 6 claplaw3_twos_a = true := by kernel_rfl
theorem ok_7 : okFun Go.Proofs.Try.prog T 7 align_Kept_a = true := by kernel_rfl
theorem ok_9 : okFun Go.Proofs.Try.prog T 9 clapref3_Aligned_a = true := by kernel_rfl
end Go.Ev.Zzi
namespace Go.Ev.Zzi
theorem ok_8 : okFun Go.Proofs.Try.prog T 8 clapref3_Kept_a = true := by kernel_rfl
theorem ok_10 : okFun Go.Proofs.Try.prog T 10 slices_Equal_int_a = true := by kernel_rfl
theorem ok_11 : okFun Go.Proofs.Try.prog T 11 slices_Equal_clapref3_Two_a = true := by kernel_rfl
theorem ok_21 : okFun Go.Proofs.Try.prog T 21 align_Invert_1_a = true := by kernel_rfl
theorem ok_75 : okImp Go.Proofs.Try.prog T slices_insertionSortCmpFunc_align_Pair_i2_a = true := by kernel_rfl
theorem ok_78 : okImp Go.Proofs.Try.prog T slices_swapRangeCmpFunc_align_Pair_i5_a = true := by kernel_rfl
theorem ok_77 : okImp Go.Proofs.Try.prog T slices_rotateCmpFunc_align_Pair_i4_a = true := by kernel_rfl
end Go.Ev.Zzi
namespace Go.Ev.Zzi
theorem ok_76 : okImp Go.Proofs.Try.prog T slices_symMergeCmpFunc_align_Pair_i3_a = true := by kernel_rfl
theorem ok_74 : okImp Go.Proofs.Try.prog T slices_stableCmpFunc_align_Pair_i1_a = true := by kernel_rfl
theorem ok_73 : okImp Go.Proofs.Try.prog T slices_SortStableFunc_align_Pair_i0_a = true := by kernel_rfl
theorem ok_12 : okFun Go.Proofs.Try.prog T 12 align_Invert_a = true := by kernel_rfl
theorem ok_23 : okFun Go.Proofs.Try.prog T 23 clapref3_spliced_clapref3_Two_a = true := by kernel_rfl
end Go.Ev.Zzi
namespace Go.Ev.Zzi
theorem ok_13 : okFun Go.Proofs.Try.prog T 13 clapref3_Exchanged_a = true := by kernel_rfl
theorem ok_14 : okFun Go.Proofs.Try.prog T 14 align_Compose_a = true := by kernel_rfl
theorem ok_15 : okFun Go.Proofs.Try.prog T 15 clapref3_Joined_a = true := by kernel_rfl
theorem ok_16 : okFun Go.Proofs.Try.prog T 16 align_Crossings_a = true := by kernel_rfl
theorem ok_17 : okFun Go.Proofs.Try.prog T 17 clapref3_Crossings_a = true := by kernel_rfl
theorem ok_3 : okFun Go.Proofs.Try.prog T 3 claplaw3_AlignLists_a = true := by kernel_rfl
end Go.Ev.Zzi
