/-
  A part of the proof: what the functions of the program compute.
-/
import Derived.Test.YtgfpahfegbmoeaaZNum
set_option linter.all false
set_option maxRecDepth 100000
namespace Go.Ev
def slices_symMergeCmpFunc_align_Pair_i3_h0 : Shape := { slots := [(0, .hol 0), (1, .d lI), (4, .d (.one (.fn 55))), (10, .d lI), (11, .d lI)], objs := [.hol lA2 (.agg [])], m := 1 }
def slices_symMergeCmpFunc_align_Pair_i3_o0 : List (Exit' × Shape) := [(.exit 0, { slots := [(0, .hol 0), (1, .d lI), (10, .d lI)], objs := [.hol lA2 (.agg [])], m := 1 })]
def slices_symMergeCmpFunc_align_Pair_i3_c0 : ACode := (.seq (.seq (.region [] [oq 31 (.mov (.t 10)),
 oq 32 (.mov (.t 11)),
 oq 33 (.icmp .lss (.t 31) (.t 32))] false 0)
 (.cond (.t 33) .skip
 (.exit 0)))
 (.block 1 (.seq (.region [] [oq 34 (.mov (.t 10)),
 oq 35 (.mov (.t 11)),
 oq 36 (.ibin .add (.t 34) (.t 35)),
 oq 37 (.i2i .u64 (.t 36)),
 oq 38 (.shf .shr (.t 37) (.c lW [.int 1])),
 oq 39 (.i2i .i64 (.t 38)),
 oq 12 (.mov (.t 39))] false 0)
 (.seq (.region [] [oq 40 (.mov (.t 4)),
 oq 41 (.mov (.t 0)),
 oq 42 (.mov (.t 12)),
 ⟨some 43, .iad 27 lA2 (.t 41) (.t 42), none, [1, 2]⟩,
 ⟨some 44, .ldH false lA2 (.t 43), none, [1, 2, 3]⟩,
 oq 45 (.mov (.t 0)),
 oq 46 (.mov (.t 1)),
 ⟨some 47, .iad 27 lA2 (.t 45) (.t 46), none, [5, 6]⟩,
 ⟨some 48, .ldH false lA2 (.t 47), none, [5, 6, 7]⟩,
 ⟨some 49, .callv 55 [lA2, lA2] [lI] (.t 40) [(.t 44), (.t 48)], none, [0, 1, 2, 3, 4, 5, 6, 7, 8]⟩,
 ⟨some 50, .icmp .lss (.t 49) (.c lI [.int 0]), none, [0, 1, 2, 3, 4, 5, 6, 7, 8, 9]⟩] true 0)
 (.cond (.t 50) (.region [] [oq 51 (.mov (.t 12)),
 oq 52 (.ibin .add (.t 51) (.c lI [.int 1])),
 oq 10 (.mov (.t 52))] false 0)
 (.region [] [oq 53 (.mov (.t 12)),
 oq 11 (.mov (.t 53))] false 0))))))
noncomputable def slices_symMergeCmpFunc_align_Pair_i3_l0 (E : Env) (v0 : Int) (v1 : C) (v2 : Int) (v3 : Int) (v4 : Row) : Option (Nat × List PV) := E.fix (stepOf E slices_symMergeCmpFunc_align_Pair_i3_c0 slices_symMergeCmpFunc_align_Pair_i3_h0 slices_symMergeCmpFunc_align_Pair_i3_o0) [.r [.int v0], .r [v1], .r [.int v2], .r [.int v3], .r v4]
noncomputable def slices_symMergeCmpFunc_align_Pair_i3_b0 (E : Env) (X : Int → C → Int → Int → Row → Option (Nat × List PV)) (v0 : Int) (v1 : C) (v2 : Int) (v3 : Int) (v4 : Row) : Option (Nat × List PV) :=
 if (decide (v2 < v3)) = true then
 if (0 : Int) ≤ (Go.IntKind.i64.wrap ((Go.IntKind.u64.wrap (Go.IntKind.i64.wrap (v2 + v3))).fdiv (2 ^ (min 1 (Go.IntKind.bits .u64))))) ∧ (Go.IntKind.i64.wrap ((Go.IntKind.u64.wrap (Go.IntKind.i64.wrap (v2 + v3))).fdiv (2 ^ (min 1 (Go.IntKind.bits .u64))))) < (((at_ v4 0).rows).length : Int) then
 if ((Go.IntKind.i64.wrap ((Go.IntKind.u64.wrap (Go.IntKind.i64.wrap (v2 + v3))).fdiv (2 ^ (min 1 (Go.IntKind.bits .u64))))).toNat) < ((at_ v4 0).rows).length ∧ ((Go.IntKind.i64.wrap ((Go.IntKind.u64.wrap (Go.IntKind.i64.wrap (v2 + v3))).fdiv (2 ^ (min 1 (Go.IntKind.bits .u64))))).toNat) ≠ (((at_ v4 1).toI).toNat) then
 if (0 : Int) ≤ v0 ∧ v0 < (((at_ v4 0).rows).length : Int) then
 if v0.toNat < ((at_ v4 0).rows).length ∧ v0.toNat ≠ (((at_ v4 1).toI).toNat) then
 (callC E v1 [rowsAt ((at_ v4 0).rows) ((Go.IntKind.i64.wrap ((Go.IntKind.u64.wrap (Go.IntKind.i64.wrap (v2 + v3))).fdiv (2 ^ (min 1 (Go.IntKind.bits .u64))))).toNat), rowsAt ((at_ v4 0).rows) v0.toNat]).bind fun y1 =>
 if (decide (((at_ (rowsAt y1 0) 0).toI) < 0)) = true then
 X v0 v1 (Go.IntKind.i64.wrap ((Go.IntKind.i64.wrap ((Go.IntKind.u64.wrap (Go.IntKind.i64.wrap (v2 + v3))).fdiv (2 ^ (min 1 (Go.IntKind.bits .u64))))) + 1)) v3 [at_ v4 0, .int ((((at_ v4 1).toI).toNat : Nat) : Int)]
 else
 X v0 v1 v2 (Go.IntKind.i64.wrap ((Go.IntKind.u64.wrap (Go.IntKind.i64.wrap (v2 + v3))).fdiv (2 ^ (min 1 (Go.IntKind.bits .u64))))) [at_ v4 0, .int ((((at_ v4 1).toI).toNat : Nat) : Int)]
 else none
 else none
 else none
 else none
 else
 some (0, [.r [.int v0], .r [.int v2], .r [at_ v4 0, .int ((((at_ v4 1).toI).toNat : Nat) : Int)]])
theorem slices_symMergeCmpFunc_align_Pair_i3_s0 (E : Env) (X : List PV → Option (Nat × List PV)) (v0 : Int) (v1 : C) (v2 : Int) (v3 : Int) (v4 : Row) : stepOf E slices_symMergeCmpFunc_align_Pair_i3_c0 slices_symMergeCmpFunc_align_Pair_i3_h0 slices_symMergeCmpFunc_align_Pair_i3_o0 X [.r [.int v0], .r [v1], .r [.int v2], .r [.int v3], .r v4] = slices_symMergeCmpFunc_align_Pair_i3_b0 E (fun (v0 : Int) (v1 : C) (v2 : Int) (v3 : Int) (v4 : Row) => X [.r [.int v0], .r [v1], .r [.int v2], .r [.int v3], .r v4]) v0 v1 v2 v3 v4 := by kernel_rfl
def slices_symMergeCmpFunc_align_Pair_i3_h1 : Shape := { slots := [(0, .hol 0), (10, .d lI), (13, .d lI)], objs := [.hol lA2 (.agg [])], m := 1 }
def slices_symMergeCmpFunc_align_Pair_i3_o1 : List (Exit' × Shape) := [(.exit 2, { slots := [], objs := [.hol lA2 (.agg [])], m := 1 })]
def slices_symMergeCmpFunc_align_Pair_i3_c1 : ACode := (.seq (.seq (.region [] [oq 55 (.mov (.t 13)),
 oq 56 (.mov (.t 10)),
 oq 57 (.ibin .sub (.t 56) (.c lI [.int 1])),
 oq 58 (.icmp .lss (.t 55) (.t 57))] false 0)
 (.cond (.t 58) .skip
 (.exit 2)))
 (.seq (.block 3 (.region [] [oq 61 (.mov (.t 0)),
 oq 62 (.mov (.t 13)),
 oq 63 (.mov (.t 0)),
 oq 64 (.mov (.t 13)),
 ⟨some 65, .ibin .add (.t 64) (.c lI [.int 1]), none, [3]⟩,
 oq 66 (.mov (.t 0)),
 oq 67 (.mov (.t 13)),
 ⟨some 68, .ibin .add (.t 67) (.c lI [.int 1]), none, [6]⟩,
 ⟨some 69, .iad 27 lA2 (.t 66) (.t 68), none, [5, 6, 7]⟩,
 ⟨some 70, .ldH false lA2 (.t 69), none, [5, 6, 7, 8]⟩,
 oq 71 (.mov (.t 0)),
 oq 72 (.mov (.t 13)),
 ⟨some 73, .iad 27 lA2 (.t 71) (.t 72), none, [10, 11]⟩,
 ⟨some 74, .ldH false lA2 (.t 73), none, [10, 11, 12]⟩,
 ⟨some 75, .iad 27 lA2 (.t 61) (.t 62), none, [0, 1, 5, 6, 7, 8, 9, 10, 11, 12, 13]⟩,
 ⟨none, .stF lA2 (.t 75) (.t 70), none, [0, 1, 5, 6, 7, 8, 9, 10, 11, 12, 13, 14]⟩,
 ⟨some 76, .iad 27 lA2 (.t 63) (.t 65), none, [0, 1, 2, 3, 4, 5, 6, 7, 8, 9, 10, 11, 12, 13, 14, 15]⟩,
 ⟨none, .stF lA2 (.t 76) (.t 74), none, [0, 1, 2, 3, 4, 5, 6, 7, 8, 9, 10, 11, 12, 13, 14, 15, 16]⟩] true 0))
 (.region [] [oq 59 (.mov (.t 13)),
 oq 60 (.ibin .add (.t 59) (.c lI [.int 1])),
 oq 13 (.mov (.t 60))] false 0)))
noncomputable def slices_symMergeCmpFunc_align_Pair_i3_l1 (E : Env) (v0 : Int) (v1 : Int) (v2 : Row) : Option (Nat × List PV) := E.fix (stepOf E slices_symMergeCmpFunc_align_Pair_i3_c1 slices_symMergeCmpFunc_align_Pair_i3_h1 slices_symMergeCmpFunc_align_Pair_i3_o1) [.r [.int v0], .r [.int v1], .r v2]
noncomputable def slices_symMergeCmpFunc_align_Pair_i3_b1 (E : Env) (X : Int → Int → Row → Option (Nat × List PV)) (v0 : Int) (v1 : Int) (v2 : Row) : Option (Nat × List PV) :=
 if (decide (v1 < (Go.IntKind.i64.wrap (v0 - 1)))) = true then
 if (0 : Int) ≤ (Go.IntKind.i64.wrap (v1 + 1)) ∧ (Go.IntKind.i64.wrap (v1 + 1)) < (((at_ v2 0).rows).length : Int) then
 if ((Go.IntKind.i64.wrap (v1 + 1)).toNat) < ((at_ v2 0).rows).length ∧ ((Go.IntKind.i64.wrap (v1 + 1)).toNat) ≠ (((at_ v2 1).toI).toNat) then
 if (0 : Int) ≤ v1 ∧ v1 < (((at_ v2 0).rows).length : Int) then
 if v1.toNat < ((at_ v2 0).rows).length ∧ v1.toNat ≠ (((at_ v2 1).toI).toNat) then
 if (0 : Int) ≤ v1 ∧ v1 < (((at_ v2 0).rows).length : Int) then
 if ((at_ v2 0).rows).length ≤ (((at_ v2 1).toI).toNat) ∧ v1.toNat < ((at_ v2 0).rows).length then
 if (0 : Int) ≤ (Go.IntKind.i64.wrap (v1 + 1)) ∧ (Go.IntKind.i64.wrap (v1 + 1)) < ((((at_ v2 0).rows).set v1.toNat (rowsAt ((at_ v2 0).rows) ((Go.IntKind.i64.wrap (v1 + 1)).toNat))).length : Int) then
 if (((at_ v2 0).rows).set v1.toNat (rowsAt ((at_ v2 0).rows) ((Go.IntKind.i64.wrap (v1 + 1)).toNat))).length ≤ (((at_ v2 1).toI).toNat) ∧ ((Go.IntKind.i64.wrap (v1 + 1)).toNat) < (((at_ v2 0).rows).set v1.toNat (rowsAt ((at_ v2 0).rows) ((Go.IntKind.i64.wrap (v1 + 1)).toNat))).length then
 X v0 (Go.IntKind.i64.wrap (v1 + 1)) [.sl ((((at_ v2 0).rows).set v1.toNat (rowsAt ((at_ v2 0).rows) ((Go.IntKind.i64.wrap (v1 + 1)).toNat))).set ((Go.IntKind.i64.wrap (v1 + 1)).toNat) (rowsAt ((at_ v2 0).rows) v1.toNat)), .int ((((at_ v2 1).toI).toNat : Nat) : Int)]
 else none
 else none
 else none
 else none
 else none
 else none
 else none
 else none
 else
 some (0, [.r [at_ v2 0, .int ((((at_ v2 1).toI).toNat : Nat) : Int)]])
theorem slices_symMergeCmpFunc_align_Pair_i3_s1 (E : Env) (X : List PV → Option (Nat × List PV)) (v0 : Int) (v1 : Int) (v2 : Row) : stepOf E slices_symMergeCmpFunc_align_Pair_i3_c1 slices_symMergeCmpFunc_align_Pair_i3_h1 slices_symMergeCmpFunc_align_Pair_i3_o1 X [.r [.int v0], .r [.int v1], .r v2] = slices_symMergeCmpFunc_align_Pair_i3_b1 E (fun (v0 : Int) (v1 : Int) (v2 : Row) => X [.r [.int v0], .r [.int v1], .r v2]) v0 v1 v2 := by kernel_rfl
def slices_symMergeCmpFunc_align_Pair_i3_h2 : Shape := { slots := [(0, .hol 0), (2, .d lI), (4, .d (.one (.fn 55))), (14, .d lI), (15, .d lI)], objs := [.hol lA2 (.agg [])], m := 1 }
def slices_symMergeCmpFunc_align_Pair_i3_o2 : List (Exit' × Shape) := [(.exit 4, { slots := [(0, .hol 0), (2, .d lI), (14, .d lI)], objs := [.hol lA2 (.agg [])], m := 1 })]
def slices_symMergeCmpFunc_align_Pair_i3_c2 : ACode := (.seq (.seq (.region [] [oq 83 (.mov (.t 14)),
 oq 84 (.mov (.t 15)),
 oq 85 (.icmp .lss (.t 83) (.t 84))] false 0)
 (.cond (.t 85) .skip
 (.exit 4)))
 (.block 5 (.seq (.region [] [oq 86 (.mov (.t 14)),
 oq 87 (.mov (.t 15)),
 oq 88 (.ibin .add (.t 86) (.t 87)),
 oq 89 (.i2i .u64 (.t 88)),
 oq 90 (.shf .shr (.t 89) (.c lW [.int 1])),
 oq 91 (.i2i .i64 (.t 90)),
 oq 16 (.mov (.t 91))] false 0)
 (.seq (.region [] [oq 92 (.mov (.t 4)),
 oq 93 (.mov (.t 0)),
 oq 94 (.mov (.t 2)),
 ⟨some 95, .iad 27 lA2 (.t 93) (.t 94), none, [1, 2]⟩,
 ⟨some 96, .ldH false lA2 (.t 95), none, [1, 2, 3]⟩,
 oq 97 (.mov (.t 0)),
 oq 98 (.mov (.t 16)),
 ⟨some 99, .iad 27 lA2 (.t 97) (.t 98), none, [5, 6]⟩,
 ⟨some 100, .ldH false lA2 (.t 99), none, [5, 6, 7]⟩,
 ⟨some 101, .callv 55 [lA2, lA2] [lI] (.t 92) [(.t 96), (.t 100)], none, [0, 1, 2, 3, 4, 5, 6, 7, 8]⟩,
 ⟨some 102, .icmp .lss (.t 101) (.c lI [.int 0]), none, [0, 1, 2, 3, 4, 5, 6, 7, 8, 9]⟩,
 ⟨some 103, .not (.t 102), none, [0, 1, 2, 3, 4, 5, 6, 7, 8, 9, 10]⟩] true 0)
 (.cond (.t 103) (.region [] [oq 104 (.mov (.t 16)),
 oq 105 (.ibin .add (.t 104) (.c lI [.int 1])),
 oq 14 (.mov (.t 105))] false 0)
 (.region [] [oq 106 (.mov (.t 16)),
 oq 15 (.mov (.t 106))] false 0))))))
noncomputable def slices_symMergeCmpFunc_align_Pair_i3_l2 (E : Env) (v0 : Int) (v1 : C) (v2 : Int) (v3 : Int) (v4 : Row) : Option (Nat × List PV) := E.fix (stepOf E slices_symMergeCmpFunc_align_Pair_i3_c2 slices_symMergeCmpFunc_align_Pair_i3_h2 slices_symMergeCmpFunc_align_Pair_i3_o2) [.r [.int v0], .r [v1], .r [.int v2], .r [.int v3], .r v4]
noncomputable def slices_symMergeCmpFunc_align_Pair_i3_b2 (E : Env) (X : Int → C → Int → Int → Row → Option (Nat × List PV)) (v0 : Int) (v1 : C) (v2 : Int) (v3 : Int) (v4 : Row) : Option (Nat × List PV) :=
 if (decide (v2 < v3)) = true then
 if (0 : Int) ≤ v0 ∧ v0 < (((at_ v4 0).rows).length : Int) then
 if v0.toNat < ((at_ v4 0).rows).length ∧ v0.toNat ≠ (((at_ v4 1).toI).toNat) then
 if (0 : Int) ≤ (Go.IntKind.i64.wrap ((Go.IntKind.u64.wrap (Go.IntKind.i64.wrap (v2 + v3))).fdiv (2 ^ (min 1 (Go.IntKind.bits .u64))))) ∧ (Go.IntKind.i64.wrap ((Go.IntKind.u64.wrap (Go.IntKind.i64.wrap (v2 + v3))).fdiv (2 ^ (min 1 (Go.IntKind.bits .u64))))) < (((at_ v4 0).rows).length : Int) then
 if ((Go.IntKind.i64.wrap ((Go.IntKind.u64.wrap (Go.IntKind.i64.wrap (v2 + v3))).fdiv (2 ^ (min 1 (Go.IntKind.bits .u64))))).toNat) < ((at_ v4 0).rows).length ∧ ((Go.IntKind.i64.wrap ((Go.IntKind.u64.wrap (Go.IntKind.i64.wrap (v2 + v3))).fdiv (2 ^ (min 1 (Go.IntKind.bits .u64))))).toNat) ≠ (((at_ v4 1).toI).toNat) then
 (callC E v1 [rowsAt ((at_ v4 0).rows) v0.toNat, rowsAt ((at_ v4 0).rows) ((Go.IntKind.i64.wrap ((Go.IntKind.u64.wrap (Go.IntKind.i64.wrap (v2 + v3))).fdiv (2 ^ (min 1 (Go.IntKind.bits .u64))))).toNat)]).bind fun y4 =>
 if (!(decide (((at_ (rowsAt y4 0) 0).toI) < 0))) = true then
 X v0 v1 (Go.IntKind.i64.wrap ((Go.IntKind.i64.wrap ((Go.IntKind.u64.wrap (Go.IntKind.i64.wrap (v2 + v3))).fdiv (2 ^ (min 1 (Go.IntKind.bits .u64))))) + 1)) v3 [at_ v4 0, .int ((((at_ v4 1).toI).toNat : Nat) : Int)]
 else
 X v0 v1 v2 (Go.IntKind.i64.wrap ((Go.IntKind.u64.wrap (Go.IntKind.i64.wrap (v2 + v3))).fdiv (2 ^ (min 1 (Go.IntKind.bits .u64))))) [at_ v4 0, .int ((((at_ v4 1).toI).toNat : Nat) : Int)]
 else none
 else none
 else none
 else none
 else
 some (0, [.r [.int v0], .r [.int v2], .r [at_ v4 0, .int ((((at_ v4 1).toI).toNat : Nat) : Int)]])
theorem slices_symMergeCmpFunc_align_Pair_i3_s2 (E : Env) (X : List PV → Option (Nat × List PV)) (v0 : Int) (v1 : C) (v2 : Int) (v3 : Int) (v4 : Row) : stepOf E slices_symMergeCmpFunc_align_Pair_i3_c2 slices_symMergeCmpFunc_align_Pair_i3_h2 slices_symMergeCmpFunc_align_Pair_i3_o2 X [.r [.int v0], .r [v1], .r [.int v2], .r [.int v3], .r v4] = slices_symMergeCmpFunc_align_Pair_i3_b2 E (fun (v0 : Int) (v1 : C) (v2 : Int) (v3 : Int) (v4 : Row) => X [.r [.int v0], .r [v1], .r [.int v2], .r [.int v3], .r v4]) v0 v1 v2 v3 v4 := by kernel_rfl
def slices_symMergeCmpFunc_align_Pair_i3_h3 : Shape := { slots := [(0, .hol 0), (14, .d lI), (17, .d lI)], objs := [.hol lA2 (.agg [])], m := 1 }
def slices_symMergeCmpFunc_align_Pair_i3_o3 : List (Exit' × Shape) := [(.exit 6, { slots := [], objs := [.hol lA2 (.agg [])], m := 1 })]
def slices_symMergeCmpFunc_align_Pair_i3_c3 : ACode := (.seq (.seq (.region [] [oq 108 (.mov (.t 17)),
 oq 109 (.mov (.t 14)),
 oq 110 (.icmp .gtr (.t 108) (.t 109))] false 0)
 (.cond (.t 110) .skip
 (.exit 6)))
 (.seq (.block 7 (.region [] [oq 113 (.mov (.t 0)),
 oq 114 (.mov (.t 17)),
 oq 115 (.mov (.t 0)),
 oq 116 (.mov (.t 17)),
 ⟨some 117, .ibin .sub (.t 116) (.c lI [.int 1]), none, [3]⟩,
 oq 118 (.mov (.t 0)),
 oq 119 (.mov (.t 17)),
 ⟨some 120, .ibin .sub (.t 119) (.c lI [.int 1]), none, [6]⟩,
 ⟨some 121, .iad 27 lA2 (.t 118) (.t 120), none, [5, 6, 7]⟩,
 ⟨some 122, .ldH false lA2 (.t 121), none, [5, 6, 7, 8]⟩,
 oq 123 (.mov (.t 0)),
 oq 124 (.mov (.t 17)),
 ⟨some 125, .iad 27 lA2 (.t 123) (.t 124), none, [10, 11]⟩,
 ⟨some 126, .ldH false lA2 (.t 125), none, [10, 11, 12]⟩,
 ⟨some 127, .iad 27 lA2 (.t 113) (.t 114), none, [0, 1, 5, 6, 7, 8, 9, 10, 11, 12, 13]⟩,
 ⟨none, .stF lA2 (.t 127) (.t 122), none, [0, 1, 5, 6, 7, 8, 9, 10, 11, 12, 13, 14]⟩,
 ⟨some 128, .iad 27 lA2 (.t 115) (.t 117), none, [0, 1, 2, 3, 4, 5, 6, 7, 8, 9, 10, 11, 12, 13, 14, 15]⟩,
 ⟨none, .stF lA2 (.t 128) (.t 126), none, [0, 1, 2, 3, 4, 5, 6, 7, 8, 9, 10, 11, 12, 13, 14, 15, 16]⟩] true 0))
 (.region [] [oq 111 (.mov (.t 17)),
 oq 112 (.ibin .sub (.t 111) (.c lI [.int 1])),
 oq 17 (.mov (.t 112))] false 0)))
noncomputable def slices_symMergeCmpFunc_align_Pair_i3_l3 (E : Env) (v0 : Int) (v1 : Int) (v2 : Row) : Option (Nat × List PV) := E.fix (stepOf E slices_symMergeCmpFunc_align_Pair_i3_c3 slices_symMergeCmpFunc_align_Pair_i3_h3 slices_symMergeCmpFunc_align_Pair_i3_o3) [.r [.int v0], .r [.int v1], .r v2]
noncomputable def slices_symMergeCmpFunc_align_Pair_i3_b3 (E : Env) (X : Int → Int → Row → Option (Nat × List PV)) (v0 : Int) (v1 : Int) (v2 : Row) : Option (Nat × List PV) :=
 if (decide (v1 > v0)) = true then
 if (0 : Int) ≤ (Go.IntKind.i64.wrap (v1 - 1)) ∧ (Go.IntKind.i64.wrap (v1 - 1)) < (((at_ v2 0).rows).length : Int) then
 if ((Go.IntKind.i64.wrap (v1 - 1)).toNat) < ((at_ v2 0).rows).length ∧ ((Go.IntKind.i64.wrap (v1 - 1)).toNat) ≠ (((at_ v2 1).toI).toNat) then
 if (0 : Int) ≤ v1 ∧ v1 < (((at_ v2 0).rows).length : Int) then
 if v1.toNat < ((at_ v2 0).rows).length ∧ v1.toNat ≠ (((at_ v2 1).toI).toNat) then
 if (0 : Int) ≤ v1 ∧ v1 < (((at_ v2 0).rows).length : Int) then
 if ((at_ v2 0).rows).length ≤ (((at_ v2 1).toI).toNat) ∧ v1.toNat < ((at_ v2 0).rows).length then
 if (0 : Int) ≤ (Go.IntKind.i64.wrap (v1 - 1)) ∧ (Go.IntKind.i64.wrap (v1 - 1)) < ((((at_ v2 0).rows).set v1.toNat (rowsAt ((at_ v2 0).rows) ((Go.IntKind.i64.wrap (v1 - 1)).toNat))).length : Int) then
 if (((at_ v2 0).rows).set v1.toNat (rowsAt ((at_ v2 0).rows) ((Go.IntKind.i64.wrap (v1 - 1)).toNat))).length ≤ (((at_ v2 1).toI).toNat) ∧ ((Go.IntKind.i64.wrap (v1 - 1)).toNat) < (((at_ v2 0).rows).set v1.toNat (rowsAt ((at_ v2 0).rows) ((Go.IntKind.i64.wrap (v1 - 1)).toNat))).length then
 X v0 (Go.IntKind.i64.wrap (v1 - 1)) [.sl ((((at_ v2 0).rows).set v1.toNat (rowsAt ((at_ v2 0).rows) ((Go.IntKind.i64.wrap (v1 - 1)).toNat))).set ((Go.IntKind.i64.wrap (v1 - 1)).toNat) (rowsAt ((at_ v2 0).rows) v1.toNat)), .int ((((at_ v2 1).toI).toNat : Nat) : Int)]
 else none
 else none
 else none
 else none
 else none
 else none
 else none
 else none
 else
 some (0, [.r [at_ v2 0, .int ((((at_ v2 1).toI).toNat : Nat) : Int)]])
theorem slices_symMergeCmpFunc_align_Pair_i3_s3 (E : Env) (X : List PV → Option (Nat × List PV)) (v0 : Int) (v1 : Int) (v2 : Row) : stepOf E slices_symMergeCmpFunc_align_Pair_i3_c3 slices_symMergeCmpFunc_align_Pair_i3_h3 slices_symMergeCmpFunc_align_Pair_i3_o3 X [.r [.int v0], .r [.int v1], .r v2] = slices_symMergeCmpFunc_align_Pair_i3_b3 E (fun (v0 : Int) (v1 : Int) (v2 : Row) => X [.r [.int v0], .r [.int v1], .r v2]) v0 v1 v2 := by kernel_rfl
def slices_symMergeCmpFunc_align_Pair_i3_h4 : Shape := { slots := [(0, .hol 0), (1, .d lI), (2, .d lI), (3, .d lI), (4, .d (.one (.fn 55))), (18, .d lI), (19, .d lI), (20, .d lI), (21, .d lI), (22, .d lI)], objs := [.hol lA2 (.agg [])], m := 1 }
def slices_symMergeCmpFunc_align_Pair_i3_o4 : List (Exit' × Shape) := [(.exit 8, { slots := [(0, .hol 0), (1, .d lI), (2, .d lI), (3, .d lI), (4, .d (.one (.fn 55))), (18, .d lI), (19, .d lI), (20, .d lI)], objs := [.hol lA2 (.agg [])], m := 1 })]
def slices_symMergeCmpFunc_align_Pair_i3_c4 : ACode := (.seq (.seq (.region [] [oq 149 (.mov (.t 20)),
 oq 150 (.mov (.t 21)),
 oq 151 (.icmp .lss (.t 149) (.t 150))] false 0)
 (.cond (.t 151) .skip
 (.exit 8)))
 (.block 9 (.seq (.region [] [oq 152 (.mov (.t 20)),
 oq 153 (.mov (.t 21)),
 oq 154 (.ibin .add (.t 152) (.t 153)),
 oq 155 (.i2i .u64 (.t 154)),
 oq 156 (.shf .shr (.t 155) (.c lW [.int 1])),
 oq 157 (.i2i .i64 (.t 156)),
 oq 23 (.mov (.t 157))] false 0)
 (.seq (.region [] [oq 158 (.mov (.t 4)),
 oq 159 (.mov (.t 0)),
 oq 160 (.mov (.t 22)),
 oq 161 (.mov (.t 23)),
 ⟨some 162, .ibin .sub (.t 160) (.t 161), none, [2, 3]⟩,
 ⟨some 163, .iad 27 lA2 (.t 159) (.t 162), none, [1, 2, 3, 4]⟩,
 ⟨some 164, .ldH false lA2 (.t 163), none, [1, 2, 3, 4, 5]⟩,
 oq 165 (.mov (.t 0)),
 oq 166 (.mov (.t 23)),
 ⟨some 167, .iad 27 lA2 (.t 165) (.t 166), none, [7, 8]⟩,
 ⟨some 168, .ldH false lA2 (.t 167), none, [7, 8, 9]⟩,
 ⟨some 169, .callv 55 [lA2, lA2] [lI] (.t 158) [(.t 164), (.t 168)], none, [0, 1, 2, 3, 4, 5, 6, 7, 8, 9, 10]⟩,
 ⟨some 170, .icmp .lss (.t 169) (.c lI [.int 0]), none, [0, 1, 2, 3, 4, 5, 6, 7, 8, 9, 10, 11]⟩,
 ⟨some 171, .not (.t 170), none, [0, 1, 2, 3, 4, 5, 6, 7, 8, 9, 10, 11, 12]⟩] true 0)
 (.cond (.t 171) (.region [] [oq 172 (.mov (.t 23)),
 oq 173 (.ibin .add (.t 172) (.c lI [.int 1])),
 oq 20 (.mov (.t 173))] false 0)
 (.region [] [oq 174 (.mov (.t 23)),
 oq 21 (.mov (.t 174))] false 0))))))
noncomputable def slices_symMergeCmpFunc_align_Pair_i3_l4 (E : Env) (v0 : Int) (v1 : Int) (v2 : Int) (v3 : C) (v4 : Int) (v5 : Int) (v6 : Int) (v7 : Int) (v8 : Int) (v9 : Row) : Option (Nat × List PV) := E.fix (stepOf E slices_symMergeCmpFunc_align_Pair_i3_c4 slices_symMergeCmpFunc_align_Pair_i3_h4 slices_symMergeCmpFunc_align_Pair_i3_o4) [.r [.int v0], .r [.int v1], .r [.int v2], .r [v3], .r [.int v4], .r [.int v5], .r [.int v6], .r [.int v7], .r [.int v8], .r v9]
noncomputable def slices_symMergeCmpFunc_align_Pair_i3_b4 (E : Env) (X : Int → Int → Int → C → Int → Int → Int → Int → Int → Row → Option (Nat × List PV)) (v0 : Int) (v1 : Int) (v2 : Int) (v3 : C) (v4 : Int) (v5 : Int) (v6 : Int) (v7 : Int) (v8 : Int) (v9 : Row) : Option (Nat × List PV) :=
 if (decide (v6 < v7)) = true then
 if (0 : Int) ≤ (Go.IntKind.i64.wrap (v8 - (Go.IntKind.i64.wrap ((Go.IntKind.u64.wrap (Go.IntKind.i64.wrap (v6 + v7))).fdiv (2 ^ (min 1 (Go.IntKind.bits .u64))))))) ∧ (Go.IntKind.i64.wrap (v8 - (Go.IntKind.i64.wrap ((Go.IntKind.u64.wrap (Go.IntKind.i64.wrap (v6 + v7))).fdiv (2 ^ (min 1 (Go.IntKind.bits .u64))))))) < (((at_ v9 0).rows).length : Int) then
 if ((Go.IntKind.i64.wrap (v8 - (Go.IntKind.i64.wrap ((Go.IntKind.u64.wrap (Go.IntKind.i64.wrap (v6 + v7))).fdiv (2 ^ (min 1 (Go.IntKind.bits .u64))))))).toNat) < ((at_ v9 0).rows).length ∧ ((Go.IntKind.i64.wrap (v8 - (Go.IntKind.i64.wrap ((Go.IntKind.u64.wrap (Go.IntKind.i64.wrap (v6 + v7))).fdiv (2 ^ (min 1 (Go.IntKind.bits .u64))))))).toNat) ≠ (((at_ v9 1).toI).toNat) then
 if (0 : Int) ≤ (Go.IntKind.i64.wrap ((Go.IntKind.u64.wrap (Go.IntKind.i64.wrap (v6 + v7))).fdiv (2 ^ (min 1 (Go.IntKind.bits .u64))))) ∧ (Go.IntKind.i64.wrap ((Go.IntKind.u64.wrap (Go.IntKind.i64.wrap (v6 + v7))).fdiv (2 ^ (min 1 (Go.IntKind.bits .u64))))) < (((at_ v9 0).rows).length : Int) then
 if ((Go.IntKind.i64.wrap ((Go.IntKind.u64.wrap (Go.IntKind.i64.wrap (v6 + v7))).fdiv (2 ^ (min 1 (Go.IntKind.bits .u64))))).toNat) < ((at_ v9 0).rows).length ∧ ((Go.IntKind.i64.wrap ((Go.IntKind.u64.wrap (Go.IntKind.i64.wrap (v6 + v7))).fdiv (2 ^ (min 1 (Go.IntKind.bits .u64))))).toNat) ≠ (((at_ v9 1).toI).toNat) then
 (callC E v3 [rowsAt ((at_ v9 0).rows) ((Go.IntKind.i64.wrap (v8 - (Go.IntKind.i64.wrap ((Go.IntKind.u64.wrap (Go.IntKind.i64.wrap (v6 + v7))).fdiv (2 ^ (min 1 (Go.IntKind.bits .u64))))))).toNat), rowsAt ((at_ v9 0).rows) ((Go.IntKind.i64.wrap ((Go.IntKind.u64.wrap (Go.IntKind.i64.wrap (v6 + v7))).fdiv (2 ^ (min 1 (Go.IntKind.bits .u64))))).toNat)]).bind fun y8 =>
 if (!(decide (((at_ (rowsAt y8 0) 0).toI) < 0))) = true then
 X v0 v1 v2 v3 v4 v5 (Go.IntKind.i64.wrap ((Go.IntKind.i64.wrap ((Go.IntKind.u64.wrap (Go.IntKind.i64.wrap (v6 + v7))).fdiv (2 ^ (min 1 (Go.IntKind.bits .u64))))) + 1)) v7 v8 [at_ v9 0, .int ((((at_ v9 1).toI).toNat : Nat) : Int)]
 else
 X v0 v1 v2 v3 v4 v5 v6 (Go.IntKind.i64.wrap ((Go.IntKind.u64.wrap (Go.IntKind.i64.wrap (v6 + v7))).fdiv (2 ^ (min 1 (Go.IntKind.bits .u64))))) v8 [at_ v9 0, .int ((((at_ v9 1).toI).toNat : Nat) : Int)]
 else none
 else none
 else none
 else none
 else
 some (0, [.r [.int v0], .r [.int v1], .r [.int v2], .r [v3], .r [.int v4], .r [.int v5], .r [.int v6], .r [at_ v9 0, .int ((((at_ v9 1).toI).toNat : Nat) : Int)]])
theorem slices_symMergeCmpFunc_align_Pair_i3_s4 (E : Env) (X : List PV → Option (Nat × List PV)) (v0 : Int) (v1 : Int) (v2 : Int) (v3 : C) (v4 : Int) (v5 : Int) (v6 : Int) (v7 : Int) (v8 : Int) (v9 : Row) : stepOf E slices_symMergeCmpFunc_align_Pair_i3_c4 slices_symMergeCmpFunc_align_Pair_i3_h4 slices_symMergeCmpFunc_align_Pair_i3_o4 X [.r [.int v0], .r [.int v1], .r [.int v2], .r [v3], .r [.int v4], .r [.int v5], .r [.int v6], .r [.int v7], .r [.int v8], .r v9] = slices_symMergeCmpFunc_align_Pair_i3_b4 E (fun (v0 : Int) (v1 : Int) (v2 : Int) (v3 : C) (v4 : Int) (v5 : Int) (v6 : Int) (v7 : Int) (v8 : Int) (v9 : Row) => X [.r [.int v0], .r [.int v1], .r [.int v2], .r [v3], .r [.int v4], .r [.int v5], .r [.int v6], .r [.int v7], .r [.int v8], .r v9]) v0 v1 v2 v3 v4 v5 v6 v7 v8 v9 := by kernel_rfl
def slices_symMergeCmpFunc_align_Pair_i3_a : AImp := { fn := 33, entry := slices_symMergeCmpFunc_align_Pair_i3_en, res := [], exit := slices_symMergeCmpFunc_align_Pair_i3_ex, body := (.seq (.seq (.region [] [oq 25 (.mov (.t 2)),
 oq 26 (.mov (.t 1)),
 oq 27 (.ibin .sub (.t 25) (.t 26)),
 oq 28 (.icmp .eql (.t 27) (.c lI [.int 1]))] false 0)
 (.cond (.t 28) (.seq (.region [] [oq 29 (.mov (.t 2)),
 oq 10 (.mov (.t 29))] false 0)
 (.seq (.region [] [oq 30 (.mov (.t 3)),
 oq 11 (.mov (.t 30))] false 0)
 (.seq (.block 0 (.loop slices_symMergeCmpFunc_align_Pair_i3_h0 slices_symMergeCmpFunc_align_Pair_i3_o0 slices_symMergeCmpFunc_align_Pair_i3_c0))
 (.seq (.seq (.region [] [oq 54 (.mov (.t 1)),
 oq 13 (.mov (.t 54))] false 0)
 (.block 2 (.loop slices_symMergeCmpFunc_align_Pair_i3_h1 slices_symMergeCmpFunc_align_Pair_i3_o1 slices_symMergeCmpFunc_align_Pair_i3_c1)))
 .ret))))
 .skip))
 (.seq (.seq (.region [] [oq 77 (.mov (.t 3)),
 oq 78 (.mov (.t 2)),
 oq 79 (.ibin .sub (.t 77) (.t 78)),
 oq 80 (.icmp .eql (.t 79) (.c lI [.int 1]))] false 0)
 (.cond (.t 80) (.seq (.region [] [oq 81 (.mov (.t 1)),
 oq 14 (.mov (.t 81))] false 0)
 (.seq (.region [] [oq 82 (.mov (.t 2)),
 oq 15 (.mov (.t 82))] false 0)
 (.seq (.block 4 (.loop slices_symMergeCmpFunc_align_Pair_i3_h2 slices_symMergeCmpFunc_align_Pair_i3_o2 slices_symMergeCmpFunc_align_Pair_i3_c2))
 (.seq (.seq (.region [] [oq 107 (.mov (.t 2)),
 oq 17 (.mov (.t 107))] false 0)
 (.block 6 (.loop slices_symMergeCmpFunc_align_Pair_i3_h3 slices_symMergeCmpFunc_align_Pair_i3_o3 slices_symMergeCmpFunc_align_Pair_i3_c3)))
 .ret))))
 .skip))
 (.seq (.region [] [oq 129 (.mov (.t 1)),
 oq 130 (.mov (.t 3)),
 oq 131 (.ibin .add (.t 129) (.t 130)),
 oq 132 (.i2i .u64 (.t 131)),
 oq 133 (.shf .shr (.t 132) (.c lW [.int 1])),
 oq 134 (.i2i .i64 (.t 133)),
 oq 18 (.mov (.t 134))] false 0)
 (.seq (.region [] [oq 135 (.mov (.t 18)),
 oq 136 (.mov (.t 2)),
 oq 137 (.ibin .add (.t 135) (.t 136)),
 oq 19 (.mov (.t 137))] false 0)
 (.seq (.region [] [oq 20 (.mov (.c lI [.int 0])),
 oq 21 (.mov (.c lI [.int 0]))] false 0)
 (.seq (.seq (.region [] [oq 138 (.mov (.t 2)),
 oq 139 (.mov (.t 18)),
 oq 140 (.icmp .gtr (.t 138) (.t 139))] false 0)
 (.join [(.normal, { slots := [(0, .hol 0), (1, .d lI), (2, .d lI), (3, .d lI), (4, .d (.one (.fn 55))), (18, .d lI), (19, .d lI), (20, .d lI), (21, .d lI)], objs := [.hol lA2 (.agg [])], m := 1 })] (.cond (.t 140) (.seq (.region [] [oq 141 (.mov (.t 19)),
 oq 142 (.mov (.t 3)),
 oq 143 (.ibin .sub (.t 141) (.t 142)),
 oq 20 (.mov (.t 143))] false 0)
 (.region [] [oq 144 (.mov (.t 18)),
 oq 21 (.mov (.t 144))] false 0))
 (.seq (.region [] [oq 145 (.mov (.t 1)),
 oq 20 (.mov (.t 145))] false 0)
 (.region [] [oq 146 (.mov (.t 2)),
 oq 21 (.mov (.t 146))] false 0)))))
 (.seq (.region [] [oq 147 (.mov (.t 19)),
 oq 148 (.ibin .sub (.t 147) (.c lI [.int 1])),
 oq 22 (.mov (.t 148))] false 0)
 (.seq (.block 8 (.loop slices_symMergeCmpFunc_align_Pair_i3_h4 slices_symMergeCmpFunc_align_Pair_i3_o4 slices_symMergeCmpFunc_align_Pair_i3_c4))
 (.seq (.region [] [oq 175 (.mov (.t 19)),
 oq 176 (.mov (.t 20)),
 oq 177 (.ibin .sub (.t 175) (.t 176)),
 oq 24 (.mov (.t 177))] false 0)
 (.seq (.seq (.join [(.normal, { slots := [(0, .hol 0), (1, .d lI), (2, .d lI), (3, .d lI), (4, .d (.one (.fn 55))), (18, .d lI), (20, .d lI), (24, .d lI), (185, .d lB)], objs := [.hol lA2 (.agg [])], m := 1 })] (.region [] [oq 178 (.mov (.t 20)),
 oq 179 (.mov (.t 2)),
 oq 180 (.icmp .lss (.t 178) (.t 179)),
 oq 181 (.mov (.t 180)),
 ⟨some 182, .mov (.t 2), some (181, true), []⟩,
 ⟨some 183, .mov (.t 24), some (181, true), []⟩,
 ⟨some 184, .icmp .lss (.t 182) (.t 183), some (181, true), []⟩,
 oq 185 (.pick (.t 181) (.t 184) (.c lB [.bool false]))] false 0))
 (.join [(.normal, { slots := [(0, .hol 0), (1, .d lI), (3, .d lI), (4, .d (.one (.fn 55))), (18, .d lI), (20, .d lI), (24, .d lI)], objs := [.hol lA2 (.agg [])], m := 1 })] (.cond (.t 185) (.region [] [oq 186 (.mov (.t 0)),
 oq 187 (.mov (.t 20)),
 oq 188 (.mov (.t 2)),
 oq 189 (.mov (.t 24)),
 oq 190 (.mov (.t 4)),
 oq 191 (.icall 77 38 (slices_rotateCmpFunc_align_Pair_i4_en) (slices_rotateCmpFunc_align_Pair_i4_ex) [0] 0 none [(.t 186), (.t 187), (.t 188), (.t 189), (.t 190)])] false 0)
 .skip)))
 (.seq (.seq (.join [(.normal, { slots := [(0, .hol 0), (1, .d lI), (3, .d lI), (4, .d (.one (.fn 55))), (18, .d lI), (20, .d lI), (24, .d lI), (199, .d lB)], objs := [.hol lA2 (.agg [])], m := 1 })] (.region [] [oq 192 (.mov (.t 1)),
 oq 193 (.mov (.t 20)),
 oq 194 (.icmp .lss (.t 192) (.t 193)),
 oq 195 (.mov (.t 194)),
 ⟨some 196, .mov (.t 20), some (195, true), []⟩,
 ⟨some 197, .mov (.t 18), some (195, true), []⟩,
 ⟨some 198, .icmp .lss (.t 196) (.t 197), some (195, true), []⟩,
 oq 199 (.pick (.t 195) (.t 198) (.c lB [.bool false]))] false 0))
 (.join [(.normal, { slots := [(0, .hol 0), (3, .d lI), (4, .d (.one (.fn 55))), (18, .d lI), (24, .d lI)], objs := [.hol lA2 (.agg [])], m := 1 })] (.cond (.t 199) (.region [] [oq 200 (.mov (.t 0)),
 oq 201 (.mov (.t 1)),
 oq 202 (.mov (.t 20)),
 oq 203 (.mov (.t 18)),
 oq 204 (.mov (.t 4)),
 oq 205 (.icall 76 33 (slices_symMergeCmpFunc_align_Pair_i3_en) (slices_symMergeCmpFunc_align_Pair_i3_ex) [0] 0 none [(.t 200), (.t 201), (.t 202), (.t 203), (.t 204)])] false 0)
 .skip)))
 (.seq (.region [] [oq 206 (.mov (.t 18)),
 oq 207 (.mov (.t 24)),
 oq 208 (.icmp .lss (.t 206) (.t 207)),
 oq 209 (.mov (.t 208)),
 ⟨some 210, .mov (.t 24), some (209, true), []⟩,
 ⟨some 211, .mov (.t 3), some (209, true), []⟩,
 ⟨some 212, .icmp .lss (.t 210) (.t 211), some (209, true), []⟩,
 oq 213 (.pick (.t 209) (.t 212) (.c lB [.bool false]))] false 0)
 (.cond (.t 213) (.region [] [oq 214 (.mov (.t 0)),
 oq 215 (.mov (.t 18)),
 oq 216 (.mov (.t 24)),
 oq 217 (.mov (.t 3)),
 oq 218 (.mov (.t 4)),
 oq 219 (.icall 76 33 (slices_symMergeCmpFunc_align_Pair_i3_en) (slices_symMergeCmpFunc_align_Pair_i3_ex) [0] 0 none [(.t 214), (.t 215), (.t 216), (.t 217), (.t 218)])] false 0)
 .skip))))))))))))) }
noncomputable def slices_symMergeCmpFunc_align_Pair_i3 (E : Env) (p0 : Int) (p1 : Int) (p2 : Int) (p3 : C) (p4 : Row) : Option (List PV) :=
 if ((Go.IntKind.i64.wrap (p1 - p0)) == 1) = true then
 (slices_symMergeCmpFunc_align_Pair_i3_l0 E p0 p3 p1 p2 [at_ p4 0, .int ((((at_ p4 1).toI).toNat : Nat) : Int)]).bind fun x2 =>
 (slices_symMergeCmpFunc_align_Pair_i3_l1 E (gI 1 x2.2) (gI 0 x2.2) [gC 2 x2.2, .int ((((at_ (gR 2 x2.2) 1).toI).toNat : Nat) : Int)]).bind fun x3 =>
 some [.r [gC 0 x3.2, .int ((((at_ (gR 0 x3.2) 1).toI).toNat : Nat) : Int)]]
 else
 if ((Go.IntKind.i64.wrap (p2 - p1)) == 1) = true then
 (slices_symMergeCmpFunc_align_Pair_i3_l2 E p1 p3 p0 p1 [at_ p4 0, .int ((((at_ p4 1).toI).toNat : Nat) : Int)]).bind fun x5 =>
 (slices_symMergeCmpFunc_align_Pair_i3_l3 E (gI 1 x5.2) (gI 0 x5.2) [gC 2 x5.2, .int ((((at_ (gR 2 x5.2) 1).toI).toNat : Nat) : Int)]).bind fun x6 =>
 some [.r [gC 0 x6.2, .int ((((at_ (gR 0 x6.2) 1).toI).toNat : Nat) : Int)]]
 else
 (if (decide (p1 > (Go.IntKind.i64.wrap ((Go.IntKind.u64.wrap (Go.IntKind.i64.wrap (p0 + p2))).fdiv (2 ^ (min 1 (Go.IntKind.bits .u64))))))) = true then
 some (0, [.r [.int p0], .r [.int p1], .r [.int p2], .r [p3], .r [.int (Go.IntKind.i64.wrap ((Go.IntKind.u64.wrap (Go.IntKind.i64.wrap (p0 + p2))).fdiv (2 ^ (min 1 (Go.IntKind.bits .u64)))))], .r [.int (Go.IntKind.i64.wrap ((Go.IntKind.i64.wrap ((Go.IntKind.u64.wrap (Go.IntKind.i64.wrap (p0 + p2))).fdiv (2 ^ (min 1 (Go.IntKind.bits .u64))))) + p1))], .r [.int (Go.IntKind.i64.wrap ((Go.IntKind.i64.wrap ((Go.IntKind.i64.wrap ((Go.IntKind.u64.wrap (Go.IntKind.i64.wrap (p0 + p2))).fdiv (2 ^ (min 1 (Go.IntKind.bits .u64))))) + p1)) - p2))], .r [.int (Go.IntKind.i64.wrap ((Go.IntKind.u64.wrap (Go.IntKind.i64.wrap (p0 + p2))).fdiv (2 ^ (min 1 (Go.IntKind.bits .u64)))))], .r [at_ p4 0, .int ((((at_ p4 1).toI).toNat : Nat) : Int)]])
 else
 some (0, [.r [.int p0], .r [.int p1], .r [.int p2], .r [p3], .r [.int (Go.IntKind.i64.wrap ((Go.IntKind.u64.wrap (Go.IntKind.i64.wrap (p0 + p2))).fdiv (2 ^ (min 1 (Go.IntKind.bits .u64)))))], .r [.int (Go.IntKind.i64.wrap ((Go.IntKind.i64.wrap ((Go.IntKind.u64.wrap (Go.IntKind.i64.wrap (p0 + p2))).fdiv (2 ^ (min 1 (Go.IntKind.bits .u64))))) + p1))], .r [.int p0], .r [.int p1], .r [at_ p4 0, .int ((((at_ p4 1).toI).toNat : Nat) : Int)]])).bind fun x7 =>
 (slices_symMergeCmpFunc_align_Pair_i3_l4 E (gI 0 x7.2) (gI 1 x7.2) (gI 2 x7.2) (gC 3 x7.2) (gI 4 x7.2) (gI 5 x7.2) (gI 6 x7.2) (gI 7 x7.2) (Go.IntKind.i64.wrap ((gI 5 x7.2) - 1)) [gC 8 x7.2, .int ((((at_ (gR 8 x7.2) 1).toI).toNat : Nat) : Int)]).bind fun x9 =>
 (let K10 : Bool → Option (Nat × List PV) := fun q11 =>
 some (0, [.r [.int (gI 0 x9.2)], .r [.int (gI 1 x9.2)], .r [.int (gI 2 x9.2)], .r [gC 3 x9.2], .r [.int (gI 4 x9.2)], .r [.int (gI 6 x9.2)], .r [.int (Go.IntKind.i64.wrap ((gI 5 x9.2) - (gI 6 x9.2)))], .r [.bool q11], .r [gC 7 x9.2, .int ((((at_ (gR 7 x9.2) 1).toI).toNat : Nat) : Int)]])
 if (decide ((gI 6 x9.2) < (gI 1 x9.2))) = true then
 K10 (decide ((gI 1 x9.2) < (Go.IntKind.i64.wrap ((gI 5 x9.2) - (gI 6 x9.2)))))
 else
 K10 false).bind fun x12 =>
 (if (gB 7 x12.2) = true then
 (E.ic slices_rotateCmpFunc_align_Pair_i4_n [.r [.int (gI 5 x12.2)], .r [.int (gI 1 x12.2)], .r [.int (gI 6 x12.2)], .r [gC 3 x12.2], .r [gC 8 x12.2, .int ((((at_ (gR 8 x12.2) 1).toI).toNat : Nat) : Int)]]).bind fun y13 =>
 some (0, [.r [.int (gI 0 x12.2)], .r [.int (gI 2 x12.2)], .r [gC 3 x12.2], .r [.int (gI 4 x12.2)], .r [.int (gI 5 x12.2)], .r [.int (gI 6 x12.2)], .r [gC 0 y13, .int ((((at_ (gR 0 y13) 1).toI).toNat : Nat) : Int)]])
 else
 some (0, [.r [.int (gI 0 x12.2)], .r [.int (gI 2 x12.2)], .r [gC 3 x12.2], .r [.int (gI 4 x12.2)], .r [.int (gI 5 x12.2)], .r [.int (gI 6 x12.2)], .r [gC 8 x12.2, .int ((((at_ (gR 8 x12.2) 1).toI).toNat : Nat) : Int)]])).bind fun x14 =>
 (let K15 : Bool → Option (Nat × List PV) := fun q16 =>
 some (0, [.r [.int (gI 0 x14.2)], .r [.int (gI 1 x14.2)], .r [gC 2 x14.2], .r [.int (gI 3 x14.2)], .r [.int (gI 4 x14.2)], .r [.int (gI 5 x14.2)], .r [.bool q16], .r [gC 6 x14.2, .int ((((at_ (gR 6 x14.2) 1).toI).toNat : Nat) : Int)]])
 if (decide ((gI 0 x14.2) < (gI 4 x14.2))) = true then
 K15 (decide ((gI 4 x14.2) < (gI 3 x14.2)))
 else
 K15 false).bind fun x17 =>
 (if (gB 6 x17.2) = true then
 (E.ic slices_symMergeCmpFunc_align_Pair_i3_n [.r [.int (gI 0 x17.2)], .r [.int (gI 4 x17.2)], .r [.int (gI 3 x17.2)], .r [gC 2 x17.2], .r [gC 7 x17.2, .int ((((at_ (gR 7 x17.2) 1).toI).toNat : Nat) : Int)]]).bind fun y18 =>
 some (0, [.r [.int (gI 1 x17.2)], .r [gC 2 x17.2], .r [.int (gI 3 x17.2)], .r [.int (gI 5 x17.2)], .r [gC 0 y18, .int ((((at_ (gR 0 y18) 1).toI).toNat : Nat) : Int)]])
 else
 some (0, [.r [.int (gI 1 x17.2)], .r [gC 2 x17.2], .r [.int (gI 3 x17.2)], .r [.int (gI 5 x17.2)], .r [gC 7 x17.2, .int ((((at_ (gR 7 x17.2) 1).toI).toNat : Nat) : Int)]])).bind fun x19 =>
 let K20 : Bool → Option (List PV) := fun q21 =>
 if q21 = true then
 (E.ic slices_symMergeCmpFunc_align_Pair_i3_n [.r [.int (gI 2 x19.2)], .r [.int (gI 3 x19.2)], .r [.int (gI 0 x19.2)], .r [gC 1 x19.2], .r [gC 4 x19.2, .int ((((at_ (gR 4 x19.2) 1).toI).toNat : Nat) : Int)]]).bind fun y22 =>
 some [.r [gC 0 y22, .int ((((at_ (gR 0 y22) 1).toI).toNat : Nat) : Int)]]
 else
 some [.r [gC 4 x19.2, .int ((((at_ (gR 4 x19.2) 1).toI).toNat : Nat) : Int)]]
 if (decide ((gI 2 x19.2) < (gI 3 x19.2))) = true then
 K20 (decide ((gI 3 x19.2) < (gI 0 x19.2)))
 else
 K20 false
theorem slices_symMergeCmpFunc_align_Pair_i3_eq (E : Env) (p0 : Int) (p1 : Int) (p2 : Int) (p3 : C) (p4 : Row) : runI E slices_symMergeCmpFunc_align_Pair_i3_a [.r [.int p0], .r [.int p1], .r [.int p2], .r [p3], .r p4] = slices_symMergeCmpFunc_align_Pair_i3 E p0 p1 p2 p3 p4 := by kernel_rfl

def slices_stableCmpFunc_align_Pair_i1_h0 : Shape := { slots := [(0, .hol 0), (1, .d lI), (2, .d (.one (.fn 55))), (6, .d lI), (7, .d lI), (8, .d lI)], objs := [.hol lA2 (.agg [])], m := 1 }
def slices_stableCmpFunc_align_Pair_i1_o0 : List (Exit' × Shape) := [(.exit 0, { slots := [(0, .hol 0), (1, .d lI), (2, .d (.one (.fn 55))), (6, .d lI), (7, .d lI)], objs := [.hol lA2 (.agg [])], m := 1 })]
def slices_stableCmpFunc_align_Pair_i1_c0 : ACode := (.seq (.seq (.region [] [oq 11 (.mov (.t 8)),
 oq 12 (.mov (.t 1)),
 oq 13 (.icmp .leq (.t 11) (.t 12))] false 0)
 (.cond (.t 13) .skip
 (.exit 0)))
 (.block 1 (.seq (.region [] [oq 14 (.mov (.t 0)),
 oq 15 (.mov (.t 7)),
 oq 16 (.mov (.t 8)),
 oq 17 (.mov (.t 2)),
 oq 18 (.icall 75 32 (slices_insertionSortCmpFunc_align_Pair_i2_en) (slices_insertionSortCmpFunc_align_Pair_i2_ex) [0] 0 none [(.t 14), (.t 15), (.t 16), (.t 17)])] false 0)
 (.seq (.region [] [oq 19 (.mov (.t 8)),
 oq 7 (.mov (.t 19))] false 0)
 (.region [] [oq 20 (.mov (.t 8)),
 oq 21 (.mov (.t 6)),
 oq 22 (.ibin .add (.t 20) (.t 21)),
 oq 8 (.mov (.t 22))] false 0)))))
noncomputable def slices_stableCmpFunc_align_Pair_i1_l0 (E : Env) (v0 : Int) (v1 : C) (v2 : Int) (v3 : Int) (v4 : Int) (v5 : Row) : Option (Nat × List PV) := E.fix (stepOf E slices_stableCmpFunc_align_Pair_i1_c0 slices_stableCmpFunc_align_Pair_i1_h0 slices_stableCmpFunc_align_Pair_i1_o0) [.r [.int v0], .r [v1], .r [.int v2], .r [.int v3], .r [.int v4], .r v5]
noncomputable def slices_stableCmpFunc_align_Pair_i1_b0 (E : Env) (X : Int → C → Int → Int → Int → Row → Option (Nat × List PV)) (v0 : Int) (v1 : C) (v2 : Int) (v3 : Int) (v4 : Int) (v5 : Row) : Option (Nat × List PV) :=
 if (decide (v4 ≤ v0)) = true then
 (E.ic slices_insertionSortCmpFunc_align_Pair_i2_n [.r [.int v3], .r [.int v4], .r [v1], .r [at_ v5 0, .int ((((at_ v5 1).toI).toNat : Nat) : Int)]]).bind fun y1 =>
 X v0 v1 v2 v4 (Go.IntKind.i64.wrap (v4 + v2)) [gC 0 y1, .int ((((at_ (gR 0 y1) 1).toI).toNat : Nat) : Int)]
 else
 some (0, [.r [.int v0], .r [v1], .r [.int v2], .r [.int v3], .r [at_ v5 0, .int ((((at_ v5 1).toI).toNat : Nat) : Int)]])
theorem slices_stableCmpFunc_align_Pair_i1_s0 (E : Env) (X : List PV → Option (Nat × List PV)) (v0 : Int) (v1 : C) (v2 : Int) (v3 : Int) (v4 : Int) (v5 : Row) : stepOf E slices_stableCmpFunc_align_Pair_i1_c0 slices_stableCmpFunc_align_Pair_i1_h0 slices_stableCmpFunc_align_Pair_i1_o0 X [.r [.int v0], .r [v1], .r [.int v2], .r [.int v3], .r [.int v4], .r v5] = slices_stableCmpFunc_align_Pair_i1_b0 E (fun (v0 : Int) (v1 : C) (v2 : Int) (v3 : Int) (v4 : Int) (v5 : Row) => X [.r [.int v0], .r [v1], .r [.int v2], .r [.int v3], .r [.int v4], .r v5]) v0 v1 v2 v3 v4 v5 := by kernel_rfl
def slices_stableCmpFunc_align_Pair_i1_h2 : Shape := { slots := [(0, .hol 0), (1, .d lI), (2, .d (.one (.fn 55))), (6, .d lI), (7, .d lI), (8, .d lI)], objs := [.hol lA2 (.agg [])], m := 1 }
def slices_stableCmpFunc_align_Pair_i1_o2 : List (Exit' × Shape) := [(.exit 4, { slots := [(0, .hol 0), (1, .d lI), (2, .d (.one (.fn 55))), (6, .d lI), (7, .d lI)], objs := [.hol lA2 (.agg [])], m := 1 })]
def slices_stableCmpFunc_align_Pair_i1_c2 : ACode := (.seq (.seq (.region [] [oq 33 (.mov (.t 8)),
 oq 34 (.mov (.t 1)),
 oq 35 (.icmp .leq (.t 33) (.t 34))] false 0)
 (.cond (.t 35) .skip
 (.exit 4)))
 (.block 5 (.seq (.region [] [oq 36 (.mov (.t 0)),
 oq 37 (.mov (.t 7)),
 oq 38 (.mov (.t 7)),
 oq 39 (.mov (.t 6)),
 oq 40 (.ibin .add (.t 38) (.t 39)),
 oq 41 (.mov (.t 8)),
 oq 42 (.mov (.t 2)),
 oq 43 (.icall 76 33 (slices_symMergeCmpFunc_align_Pair_i3_en) (slices_symMergeCmpFunc_align_Pair_i3_ex) [0] 0 none [(.t 36), (.t 37), (.t 40), (.t 41), (.t 42)])] false 0)
 (.seq (.region [] [oq 44 (.mov (.t 8)),
 oq 7 (.mov (.t 44))] false 0)
 (.region [] [oq 45 (.mov (.t 8)),
 oq 46 (.mov (.t 6)),
 oq 47 (.ibin .mul (.c lI [.int 2]) (.t 46)),
 oq 48 (.ibin .add (.t 45) (.t 47)),
 oq 8 (.mov (.t 48))] false 0)))))
noncomputable def slices_stableCmpFunc_align_Pair_i1_l2 (E : Env) (v0 : Int) (v1 : C) (v2 : Int) (v3 : Int) (v4 : Int) (v5 : Row) : Option (Nat × List PV) := E.fix (stepOf E slices_stableCmpFunc_align_Pair_i1_c2 slices_stableCmpFunc_align_Pair_i1_h2 slices_stableCmpFunc_align_Pair_i1_o2) [.r [.int v0], .r [v1], .r [.int v2], .r [.int v3], .r [.int v4], .r v5]
noncomputable def slices_stableCmpFunc_align_Pair_i1_b2 (E : Env) (X : Int → C → Int → Int → Int → Row → Option (Nat × List PV)) (v0 : Int) (v1 : C) (v2 : Int) (v3 : Int) (v4 : Int) (v5 : Row) : Option (Nat × List PV) :=
 if (decide (v4 ≤ v0)) = true then
 (E.ic slices_symMergeCmpFunc_align_Pair_i3_n [.r [.int v3], .r [.int (Go.IntKind.i64.wrap (v3 + v2))], .r [.int v4], .r [v1], .r [at_ v5 0, .int ((((at_ v5 1).toI).toNat : Nat) : Int)]]).bind fun y4 =>
 X v0 v1 v2 v4 (Go.IntKind.i64.wrap (v4 + (Go.IntKind.i64.wrap (2 * v2)))) [gC 0 y4, .int ((((at_ (gR 0 y4) 1).toI).toNat : Nat) : Int)]
 else
 some (0, [.r [.int v0], .r [v1], .r [.int v2], .r [.int v3], .r [at_ v5 0, .int ((((at_ v5 1).toI).toNat : Nat) : Int)]])
theorem slices_stableCmpFunc_align_Pair_i1_s2 (E : Env) (X : List PV → Option (Nat × List PV)) (v0 : Int) (v1 : C) (v2 : Int) (v3 : Int) (v4 : Int) (v5 : Row) : stepOf E slices_stableCmpFunc_align_Pair_i1_c2 slices_stableCmpFunc_align_Pair_i1_h2 slices_stableCmpFunc_align_Pair_i1_o2 X [.r [.int v0], .r [v1], .r [.int v2], .r [.int v3], .r [.int v4], .r v5] = slices_stableCmpFunc_align_Pair_i1_b2 E (fun (v0 : Int) (v1 : C) (v2 : Int) (v3 : Int) (v4 : Int) (v5 : Row) => X [.r [.int v0], .r [v1], .r [.int v2], .r [.int v3], .r [.int v4], .r v5]) v0 v1 v2 v3 v4 v5 := by kernel_rfl
def slices_stableCmpFunc_align_Pair_i1_h1 : Shape := { slots := [(0, .hol 0), (1, .d lI), (2, .d (.one (.fn 55))), (6, .d lI)], objs := [.hol lA2 (.agg [])], m := 1 }
def slices_stableCmpFunc_align_Pair_i1_o1 : List (Exit' × Shape) := [(.exit 2, { slots := [], objs := [.hol lA2 (.agg [])], m := 1 })]
def slices_stableCmpFunc_align_Pair_i1_c1 : ACode := (.seq (.seq (.region [] [oq 28 (.mov (.t 6)),
 oq 29 (.mov (.t 1)),
 oq 30 (.icmp .lss (.t 28) (.t 29))] false 0)
 (.cond (.t 30) .skip
 (.exit 2)))
 (.block 3 (.seq (.region [] [oq 31 (.mov (.t 6)),
 oq 32 (.ibin .mul (.c lI [.int 2]) (.t 31)),
 oq 7 (.mov (.c lI [.int 0])),
 oq 8 (.mov (.t 32))] false 0)
 (.seq (.block 4 (.loop slices_stableCmpFunc_align_Pair_i1_h2 slices_stableCmpFunc_align_Pair_i1_o2 slices_stableCmpFunc_align_Pair_i1_c2))
 (.seq (.seq (.region [] [oq 49 (.mov (.t 7)),
 oq 50 (.mov (.t 6)),
 oq 51 (.ibin .add (.t 49) (.t 50)),
 oq 9 (.mov (.t 51))] false 0)
 (.seq (.region [] [oq 52 (.mov (.t 9)),
 oq 53 (.mov (.t 1)),
 oq 54 (.icmp .lss (.t 52) (.t 53))] false 0)
 (.cond (.t 54) (.region [] [oq 55 (.mov (.t 0)),
 oq 56 (.mov (.t 7)),
 oq 57 (.mov (.t 9)),
 oq 58 (.mov (.t 1)),
 oq 59 (.mov (.t 2)),
 oq 60 (.icall 76 33 (slices_symMergeCmpFunc_align_Pair_i3_en) (slices_symMergeCmpFunc_align_Pair_i3_ex) [0] 0 none [(.t 55), (.t 56), (.t 57), (.t 58), (.t 59)])] false 0)
 .skip)))
 (.region [] [oq 61 (.mov (.t 6)),
 oq 62 (.ibin .mul (.t 61) (.c lI [.int 2])),
 oq 6 (.mov (.t 62))] false 0))))))
noncomputable def slices_stableCmpFunc_align_Pair_i1_l1 (E : Env) (v0 : Int) (v1 : C) (v2 : Int) (v3 : Row) : Option (Nat × List PV) := E.fix (stepOf E slices_stableCmpFunc_align_Pair_i1_c1 slices_stableCmpFunc_align_Pair_i1_h1 slices_stableCmpFunc_align_Pair_i1_o1) [.r [.int v0], .r [v1], .r [.int v2], .r v3]
noncomputable def slices_stableCmpFunc_align_Pair_i1_b1 (E : Env) (X : Int → C → Int → Row → Option (Nat × List PV)) (v0 : Int) (v1 : C) (v2 : Int) (v3 : Row) : Option (Nat × List PV) :=
 if (decide (v2 < v0)) = true then
 (slices_stableCmpFunc_align_Pair_i1_l2 E v0 v1 v2 0 (Go.IntKind.i64.wrap (2 * v2)) [at_ v3 0, .int ((((at_ v3 1).toI).toNat : Nat) : Int)]).bind fun x5 =>
 if (decide ((Go.IntKind.i64.wrap ((gI 3 x5.2) + (gI 2 x5.2))) < (gI 0 x5.2))) = true then
 (E.ic slices_symMergeCmpFunc_align_Pair_i3_n [.r [.int (gI 3 x5.2)], .r [.int (Go.IntKind.i64.wrap ((gI 3 x5.2) + (gI 2 x5.2)))], .r [.int (gI 0 x5.2)], .r [gC 1 x5.2], .r [gC 4 x5.2, .int ((((at_ (gR 4 x5.2) 1).toI).toNat : Nat) : Int)]]).bind fun y6 =>
 X (gI 0 x5.2) (gC 1 x5.2) (Go.IntKind.i64.wrap ((gI 2 x5.2) * 2)) [gC 0 y6, .int ((((at_ (gR 0 y6) 1).toI).toNat : Nat) : Int)]
 else
 X (gI 0 x5.2) (gC 1 x5.2) (Go.IntKind.i64.wrap ((gI 2 x5.2) * 2)) [gC 4 x5.2, .int ((((at_ (gR 4 x5.2) 1).toI).toNat : Nat) : Int)]
 else
 some (0, [.r [at_ v3 0, .int ((((at_ v3 1).toI).toNat : Nat) : Int)]])
theorem slices_stableCmpFunc_align_Pair_i1_s1 (E : Env) (X : List PV → Option (Nat × List PV)) (v0 : Int) (v1 : C) (v2 : Int) (v3 : Row) : stepOf E slices_stableCmpFunc_align_Pair_i1_c1 slices_stableCmpFunc_align_Pair_i1_h1 slices_stableCmpFunc_align_Pair_i1_o1 X [.r [.int v0], .r [v1], .r [.int v2], .r v3] = slices_stableCmpFunc_align_Pair_i1_b1 E (fun (v0 : Int) (v1 : C) (v2 : Int) (v3 : Row) => X [.r [.int v0], .r [v1], .r [.int v2], .r v3]) v0 v1 v2 v3 := by kernel_rfl
def slices_stableCmpFunc_align_Pair_i1_a : AImp := { fn := 28, entry := slices_stableCmpFunc_align_Pair_i1_en, res := [], exit := slices_stableCmpFunc_align_Pair_i1_ex, body := (.seq (.region [] [oq 6 (.mov (.c lI [.int 20]))] false 0)
 (.seq (.region [] [oq 10 (.mov (.t 6)),
 oq 7 (.mov (.c lI [.int 0])),
 oq 8 (.mov (.t 10))] false 0)
 (.seq (.block 0 (.loop slices_stableCmpFunc_align_Pair_i1_h0 slices_stableCmpFunc_align_Pair_i1_o0 slices_stableCmpFunc_align_Pair_i1_c0))
 (.seq (.region [] [oq 23 (.mov (.t 0)),
 oq 24 (.mov (.t 7)),
 oq 25 (.mov (.t 1)),
 oq 26 (.mov (.t 2)),
 oq 27 (.icall 75 32 (slices_insertionSortCmpFunc_align_Pair_i2_en) (slices_insertionSortCmpFunc_align_Pair_i2_ex) [0] 0 none [(.t 23), (.t 24), (.t 25), (.t 26)])] false 0)
 (.block 2 (.loop slices_stableCmpFunc_align_Pair_i1_h1 slices_stableCmpFunc_align_Pair_i1_o1 slices_stableCmpFunc_align_Pair_i1_c1)))))) }
noncomputable def slices_stableCmpFunc_align_Pair_i1 (E : Env) (p0 : Int) (p1 : C) (p2 : Row) : Option (List PV) :=
 (slices_stableCmpFunc_align_Pair_i1_l0 E p0 p1 20 0 20 [at_ p2 0, .int ((((at_ p2 1).toI).toNat : Nat) : Int)]).bind fun x2 =>
 (E.ic slices_insertionSortCmpFunc_align_Pair_i2_n [.r [.int (gI 3 x2.2)], .r [.int (gI 0 x2.2)], .r [gC 1 x2.2], .r [gC 4 x2.2, .int ((((at_ (gR 4 x2.2) 1).toI).toNat : Nat) : Int)]]).bind fun y3 =>
 (slices_stableCmpFunc_align_Pair_i1_l1 E (gI 0 x2.2) (gC 1 x2.2) (gI 2 x2.2) [gC 0 y3, .int ((((at_ (gR 0 y3) 1).toI).toNat : Nat) : Int)]).bind fun x7 =>
 some [.r [gC 0 x7.2, .int ((((at_ (gR 0 x7.2) 1).toI).toNat : Nat) : Int)]]
theorem slices_stableCmpFunc_align_Pair_i1_eq (E : Env) (p0 : Int) (p1 : C) (p2 : Row) : runI E slices_stableCmpFunc_align_Pair_i1_a [.r [.int p0], .r [p1], .r p2] = slices_stableCmpFunc_align_Pair_i1 E p0 p1 p2 := by kernel_rfl

def slices_SortStableFunc_align_Pair_i0_a : AImp := { fn := 20, entry := slices_SortStableFunc_align_Pair_i0_en, res := [], exit := slices_SortStableFunc_align_Pair_i0_ex, body := (.region [] [oq 4 (.mov (.t 0)),
 oq 5 (.mov (.t 0)),
 oq 6 (.lenL (.t 5)),
 oq 7 (.mov (.t 1)),
 oq 8 (.icall 74 28 (slices_stableCmpFunc_align_Pair_i1_en) (slices_stableCmpFunc_align_Pair_i1_ex) [0] 0 none [(.t 4), (.t 6), (.t 7)])] false 0) }
noncomputable def slices_SortStableFunc_align_Pair_i0 (E : Env) (p0 : C) (p1 : Row) : Option (List PV) :=
 (E.ic slices_stableCmpFunc_align_Pair_i1_n [.r [.int (((at_ p1 0).rows).length : Int)], .r [p0], .r [at_ p1 0, .int ((((at_ p1 1).toI).toNat : Nat) : Int)]]).bind fun y1 =>
 some [.r [gC 0 y1, .int ((((at_ (gR 0 y1) 1).toI).toNat : Nat) : Int)]]
theorem slices_SortStableFunc_align_Pair_i0_eq (E : Env) (p0 : C) (p1 : Row) : runI E slices_SortStableFunc_align_Pair_i0_a [.r [p0], .r p1] = slices_SortStableFunc_align_Pair_i0 E p0 p1 := by kernel_rfl

def align_Invert_h0 : Shape := { slots := [(3, .whole 0), (6, .d (.one (.sl 27))), (7, .d lI), (8, .d lI)], objs := [.arr lA2] }
def align_Invert_o0 : List (Exit' × Shape) := [(.exit 0, { slots := [(3, .whole 0)], objs := [.arr lA2] })]
def align_Invert_c0 : ACode := (.seq (.region [] [oq 9 (.icmp .lss (.t 8) (.t 7))] false 0)
 (.seq (.cond (.t 9) .skip
 (.exit 0))
 (.seq (.block 1 (.seq (.region [] [oq 10 (.iad 27 lA2 (.t 6) (.t 8)),
 oq 11 (.ld lA2 27 (.t 10)),
 oq 5 (.allocO 0 lA2 [.int 0, .int 0]),
 ⟨none, .st lA2 (.t 5) (.t 11), none, []⟩] false 1)
 (.region [] [oq 12 (.mov (.t 3)),
 oq 13 (.fad 1 1 27 3 (.t 5)),
 oq 14 (.ld lI 3 (.t 13)),
 oq 15 (.fad 0 1 27 3 (.t 5)),
 oq 16 (.ld lI 3 (.t 15)),
 oq 17 (.bld lA2 [.int 0, .int 0] [(0, 1, (.t 14)), (1, 1, (.t 16))]),
 oq 18 (.bsl 27 lA2 1 [.int 0, .int 0] [(0, (.t 17))]),
 oq 19 (.app 0 27 lA2 16 (.t 12) (.t 18)),
 oq 3 (.mov (.t 19))] false 1)))
 (.region [] [oq 20 (.ibin .add (.t 8) (.c lI [.int 1])),
 oq 8 (.mov (.t 20))] false 0))))
noncomputable def align_Invert_l0 (E : Env) (v0 : C) (v1 : Int) (v2 : Int) (v3 : C) : Option (Nat × List PV) := E.fix (stepOf E align_Invert_c0 align_Invert_h0 align_Invert_o0) [.r [v0], .r [.int v1], .r [.int v2], .r [v3]]
noncomputable def align_Invert_b0 (E : Env) (X : C → Int → Int → C → Option (Nat × List PV)) (v0 : C) (v1 : Int) (v2 : Int) (v3 : C) : Option (Nat × List PV) :=
 if (decide (v2 < v1)) = true then
 if (0 : Int) ≤ v2 ∧ v2 < (v0.rows.length : Int) then
 if (v3.rows.length + ([[.int ((at_ (rowsAt v0.rows v2.toNat) 1).toI), .int ((at_ (rowsAt v0.rows v2.toNat) 0).toI)]] : List Row).length) * 16 ≤ 140737488355328 then
 X v0 v1 (Go.IntKind.i64.wrap (v2 + 1)) (appC v3 ([[.int ((at_ (rowsAt v0.rows v2.toNat) 1).toI), .int ((at_ (rowsAt v0.rows v2.toNat) 0).toI)]] : List Row))
 else none
 else none
 else
 some (0, [.r [v3]])
theorem align_Invert_s0 (E : Env) (X : List PV → Option (Nat × List PV)) (v0 : C) (v1 : Int) (v2 : Int) (v3 : C) : stepOf E align_Invert_c0 align_Invert_h0 align_Invert_o0 X [.r [v0], .r [.int v1], .r [.int v2], .r [v3]] = align_Invert_b0 E (fun (v0 : C) (v1 : Int) (v2 : Int) (v3 : C) => X [.r [v0], .r [.int v1], .r [.int v2], .r [v3]]) v0 v1 v2 v3 := by kernel_rfl
def align_Invert_a : AFun := { ps := [(.one (.sl 27))], rs := [(.one (.sl 27))], res := [(false, 2, (some lA2))], body := (.seq (.region [] [oq 2 (.mov (.c (.one (.sl 27)) [.nils]))] false 0)
 (.seq (.region [] [oq 3 (.nilO 0 lA2)] false 1)
 (.seq (.seq (.region [] [oq 6 (.mov (.t 0)),
 oq 7 (.lenL (.t 6)),
 oq 8 (.mov (.c lI [.int 0]))] false 0)
 (.block 0 (.loop align_Invert_h0 align_Invert_o0 align_Invert_c0)))
 (.seq (.ghost (.opnH 3 lA2) (.post (.clsF 3) (.region [] [oq 21 (.mov (.t 3)),
 oq 22 (.icall 73 20 (slices_SortStableFunc_align_Pair_i0_en) (slices_SortStableFunc_align_Pair_i0_ex) [1] 0 none [(.t 21), (.c (.one (.fn 55)) [.fn n_align_Invert_1 []])])] false 0)))
 (.seq (.region [] [oq 23 (.mov (.t 3)),
 oq 2 (.mov (.t 23))] false 0)
 .ret))))) }
noncomputable def align_Invert (E : Env) (p0 : C) : Option (List Row) :=
 (align_Invert_l0 E p0 (p0.rows.length : Int) 0 .nils).bind fun x1 =>
 (E.ic slices_SortStableFunc_align_Pair_i0_n [.r [.fn n_align_Invert_1 []], .r [gC 0 x1.2, .int ((((gC 0 x1.2).rows).length : Nat) : Int)]]).bind fun y2 =>
 if ((gC 0 y2).rows).length ≤ (((at_ (gR 0 y2) 1).toI).toNat) then
 some [[gC 0 y2]]
 else none
theorem align_Invert_eq (E : Env) (p0 : C) : runP E align_Invert_a [[p0]] = align_Invert E p0 := by kernel_rfl

def clapref3_spliced_clapref3_Two_a : AFun := { ps := [(.one (.sl 37)), lI, lI, (.one (.sl 37))], rs := [(.one (.sl 37))], res := [(false, 8, (some lA2))], body := (.seq (.region [] [oq 8 (.mov (.c (.one (.sl 37)) [.nils]))] false 0)
 (.seq (.region [] [oq 10 (.mov (.t 0)),
 oq 11 (.mov (.t 1)),
 oq 12 (.slc 37 lA2 (.t 10) none (some (.t 11))),
 oq 13 (.appW 0 37 lA2 16 (.c (.one (.sl 37)) [.nils]) (.t 12)),
 oq 9 (.mov (.t 13))] false 1)
 (.seq (.region [] [oq 14 (.mov (.t 9)),
 oq 15 (.mov (.t 3)),
 oq 16 (.appW 0 37 lA2 16 (.t 14) (.t 15)),
 oq 9 (.mov (.t 16))] false 1)
 (.seq (.region [] [oq 17 (.mov (.t 9)),
 oq 18 (.mov (.t 0)),
 oq 19 (.mov (.t 1)),
 oq 20 (.mov (.t 2)),
 oq 21 (.ibin .add (.t 19) (.t 20)),
 oq 22 (.slc 37 lA2 (.t 18) (some (.t 21)) none),
 oq 23 (.appW 0 37 lA2 16 (.t 17) (.t 22)),
 oq 8 (.mov (.t 23))] false 1)
 .ret)))) }
noncomputable def clapref3_spliced_clapref3_Two (E : Env) (p0 : C) (p1 : Int) (p2 : Int) (p3 : C) : Option (List Row) :=
 if (0 : Int) ≤ 0 ∧ 0 ≤ p1 ∧ p1 ≤ (p0.rows.length : Int) then
 if ((slcC p0 0 p1).rows).length * 16 ≤ 140737488355328 then
 if (((appC .nils ((slcC p0 0 p1).rows)).rows).length + p3.rows.length) * 16 ≤ 140737488355328 then
 if (0 : Int) ≤ (Go.IntKind.i64.wrap (p1 + p2)) ∧ (Go.IntKind.i64.wrap (p1 + p2)) ≤ (p0.rows.length : Int) ∧ (p0.rows.length : Int) ≤ (p0.rows.length : Int) then
 if (((appC (appC .nils ((slcC p0 0 p1).rows)) p3.rows).rows).length + ((slcC p0 (Go.IntKind.i64.wrap (p1 + p2)) (p0.rows.length : Int)).rows).length) * 16 ≤ 140737488355328 then
 some [[appC (appC (appC .nils ((slcC p0 0 p1).rows)) p3.rows) ((slcC p0 (Go.IntKind.i64.wrap (p1 + p2)) (p0.rows.length : Int)).rows)]]
 else none
 else none
 else none
 else none
 else none
theorem clapref3_spliced_clapref3_Two_eq (E : Env) (p0 : C) (p1 : Int) (p2 : Int) (p3 : C) : runP E clapref3_spliced_clapref3_Two_a [[p0], [.int p1], [.int p2], [p3]] = clapref3_spliced_clapref3_Two E p0 p1 p2 p3 := by kernel_rfl
end Go.Ev
