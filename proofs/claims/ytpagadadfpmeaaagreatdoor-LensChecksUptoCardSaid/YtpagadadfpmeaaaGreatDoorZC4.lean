/-
  A part of the proof: what the functions of the program compute.
-/
import Derived.Test.YtpagadadfpmeaaaGreatDoorZNum
set_option linter.all false
set_option maxRecDepth 100000
namespace Go.Ev
def pattern_plan_at_h1 : Shape := { slots := [(0, .d (.one (.ref 108))), (3, .ptr 0 0), (4, .d lI), (6, .d lI), (13, .d lI), (14, .d lI)], objs := bS0 }
def pattern_plan_at_o1 : List (Exit' × Shape) := [(.exit 2, { slots := [(0, .d (.one (.ref 108))), (3, .ptr 0 0), (6, .d lI)], objs := bS0 })]
def pattern_plan_at_c1 : ACode := (.seq (.region [] [oq 15 (.icmp .lss (.t 14) (.t 13))] false 0)
 (.seq (.cond (.t 15) .skip
 (.exit 2))
 (.seq (.block 3 (.seq (.region [] [oq 16 (.mov (.t 14)),
 oq 5 (.mov (.t 16))] false 0)
 (.seq (.region [] [oq 17 (.mov (.t 0)),
 oq 18 (.nchk (.t 17)),
 oq 19 (.fad 0 1 108 100 (.t 18)),
 oq 20 (.ld (.one (.sl 133)) 100 (.t 19)),
 oq 21 (.mov (.t 5)),
 oq 22 (.iad 133 lA5 (.t 20) (.t 21)),
 oq 23 (.mov (.t 4)),
 oq 24 (.i2i .u8 (.t 23)),
 oq 25 (.call 83 [(.one (.ref 133)), lU] [lB] [(.t 22), (.t 24)])] false 0)
 (.cond (.t 25) (.region [] [oq 26 (.mov (.t 4)),
 oq 27 (.iadA 256 139 104 lA5 (.t 3) (.t 26)),
 oq 28 (.mov (.t 5)),
 oq 29 (.icall 160 71 (pattern_set_add_i18_en) (pattern_set_add_i18_ex) [0] 0 none [(.t 27), (.t 28)])] false 0)
 .skip))))
 (.region [] [oq 30 (.ibin .add (.t 14) (.c lI [.int 1])),
 oq 14 (.mov (.t 30))] false 0))))
noncomputable def pattern_plan_at_l1 (E : Env) (v0 : C) (v1 : Int) (v2 : Int) (v3 : Int) (v4 : Int) (v5 : Row) : Option (Nat × List PV) := E.fix (stepOf E pattern_plan_at_c1 pattern_plan_at_h1 pattern_plan_at_o1) [.r [v0], .r [.int v1], .r [.int v2], .r [.int v3], .r [.int v4], .r v5]
noncomputable def pattern_plan_at_b1 (E : Env) (X : C → Int → Int → Int → Int → Row → Option (Nat × List PV)) (v0 : C) (v1 : Int) (v2 : Int) (v3 : Int) (v4 : Int) (v5 : Row) : Option (Nat × List PV) :=
 if (decide (v4 < v3)) = true then
 if v0.isDp = true then
 if v0.isDp = true then
 if (0 : Int) ≤ v4 ∧ v4 < (((at_ v0.dpRow 0).rows).length : Int) then
 (E.pc n_pattern_class_has [[.dp (rowsAt ((at_ v0.dpRow 0).rows) v4.toNat)], [.int (Go.IntKind.u8.wrap v1)]]).bind fun y1 =>
 if ((at_ (rowsAt y1 0) 0).toB) = true then
 if (0 : Int) ≤ v1 ∧ v1 < (256 : Int) then
 (E.ic pattern_set_add_i18_n [.r [.int ((0 + (v1.toNat * 4) : Nat) : Int)], .r [.int v4], .r v5]).bind fun y2 =>
 X v0 v1 v2 v3 (Go.IntKind.i64.wrap (v4 + 1)) (gR 0 y2)
 else none
 else
 X v0 v1 v2 v3 (Go.IntKind.i64.wrap (v4 + 1)) v5
 else none
 else none
 else none
 else
 some (0, [.r [v0], .r [.int v2], .r v5])
theorem pattern_plan_at_s1 (E : Env) (X : List PV → Option (Nat × List PV)) (v0 : C) (v1 : Int) (v2 : Int) (v3 : Int) (v4 : Int) (v5 : Row) : stepOf E pattern_plan_at_c1 pattern_plan_at_h1 pattern_plan_at_o1 X [.r [v0], .r [.int v1], .r [.int v2], .r [.int v3], .r [.int v4], .r v5] = pattern_plan_at_b1 E (fun (v0 : C) (v1 : Int) (v2 : Int) (v3 : Int) (v4 : Int) (v5 : Row) => X [.r [v0], .r [.int v1], .r [.int v2], .r [.int v3], .r [.int v4], .r v5]) v0 v1 v2 v3 v4 v5 := by kernel_rfl
def pattern_plan_at_h0 : Shape := { slots := [(0, .d (.one (.ref 108))), (3, .ptr 0 0), (6, .d lI)], objs := bS0 }
def pattern_plan_at_o0 : List (Exit' × Shape) := [(.exit 0, { slots := [(3, .ptr 0 0)], objs := bS0 })]
def pattern_plan_at_c0 : ACode := (.seq (.region [] [oq 7 (.icmp .lss (.t 6) (.c lI [.int 256]))] false 0)
 (.seq (.cond (.t 7) .skip
 (.exit 0))
 (.seq (.block 1 (.seq (.region [] [oq 8 (.mov (.t 6)),
 oq 4 (.mov (.t 8))] false 0)
 (.seq (.region [] [oq 9 (.mov (.t 0)),
 oq 10 (.nchk (.t 9)),
 oq 11 (.fad 0 1 108 100 (.t 10)),
 oq 12 (.ld (.one (.sl 133)) 100 (.t 11)),
 oq 13 (.lenL (.t 12)),
 oq 14 (.mov (.c lI [.int 0]))] false 0)
 (.block 2 (.loop pattern_plan_at_h1 pattern_plan_at_o1 pattern_plan_at_c1)))))
 (.region [] [oq 31 (.ibin .add (.t 6) (.c lI [.int 1])),
 oq 6 (.mov (.t 31))] false 0))))
noncomputable def pattern_plan_at_l0 (E : Env) (v0 : C) (v1 : Int) (v2 : Row) : Option (Nat × List PV) := E.fix (stepOf E pattern_plan_at_c0 pattern_plan_at_h0 pattern_plan_at_o0) [.r [v0], .r [.int v1], .r v2]
noncomputable def pattern_plan_at_b0 (E : Env) (X : C → Int → Row → Option (Nat × List PV)) (v0 : C) (v1 : Int) (v2 : Row) : Option (Nat × List PV) :=
 if (decide (v1 < 256)) = true then
 if v0.isDp = true then
 if v0.isDp = true then
 (pattern_plan_at_l1 E v0 v1 v1 (((at_ v0.dpRow 0).rows).length : Int) 0 v2).bind fun x3 =>
 X (gC 0 x3.2) (Go.IntKind.i64.wrap ((gI 1 x3.2) + 1)) (gR 2 x3.2)
 else none
 else none
 else
 some (0, [.r v2])
theorem pattern_plan_at_s0 (E : Env) (X : List PV → Option (Nat × List PV)) (v0 : C) (v1 : Int) (v2 : Row) : stepOf E pattern_plan_at_c0 pattern_plan_at_h0 pattern_plan_at_o0 X [.r [v0], .r [.int v1], .r v2] = pattern_plan_at_b0 E (fun (v0 : C) (v1 : Int) (v2 : Row) => X [.r [v0], .r [.int v1], .r v2]) v0 v1 v2 := by kernel_rfl
def pattern_plan_at_a : AFun := { ps := [(.one (.ref 108))], rs := [(.one (.ref 139))], res := [(false, 2, none)], body := (.seq (.region [] [oq 2 (.mov (.c (.one (.ref 139)) [.nilp]))] false 0)
 (.seq (.region [] [oq 3 (.allocO 0 (.agg (List.replicate 1024 (.int .u64))) (List.replicate 1024 (C.int 0)))] false 1)
 (.seq (.seq (.region [] [oq 6 (.mov (.c lI [.int 0]))] false 0)
 (.block 0 (.loop pattern_plan_at_h0 pattern_plan_at_o0 pattern_plan_at_c0)))
 (.seq (.region [(3, 139, some (.agg (List.replicate 1024 (.int .u64))))] [oq 2 (.mov (.t 3))] false 0)
 .ret)))) }
/-- (*clapperbridge/pattern.plan).at -/
noncomputable def pattern_plan_at (E : Env) (p0 : C) : Option (List Row) :=
 (pattern_plan_at_l0 E p0 0 (List.replicate 1024 (C.int 0))).bind fun x4 =>
 some [[.dp (gR 0 x4.2)]]
theorem pattern_plan_at_eq (E : Env) (p0 : C) : runP E pattern_plan_at_a [[p0]] = pattern_plan_at E p0 := by kernel_rfl

def pattern_set_join_i19_h0 : Shape := { slots := [(0, .ptr 0 0), (3, .d (.one (.ref 104))), (5, .d lI)], objs := [.var lA5], m := 1 }
def pattern_set_join_i19_o0 : List (Exit' × Shape) := [(.exit 0, { slots := [], objs := [.var lA5], m := 1 })]
def pattern_set_join_i19_c0 : ACode := (.seq (.region [] [oq 6 (.icmp .lss (.t 5) (.c lI [.int 4]))] false 0)
 (.seq (.cond (.t 6) .skip
 (.exit 0))
 (.seq (.block 1 (.seq (.region [] [oq 7 (.mov (.t 5)),
 oq 4 (.mov (.t 7))] false 0)
 (.region [] [oq 8 (.mov (.t 0)),
 oq 9 (.mov (.t 4)),
 ⟨some 10, .nchk (.t 8), none, [0]⟩,
 ⟨some 11, .iadA 4 104 102 lW (.t 10) (.t 9), none, [0, 1, 2]⟩,
 ⟨some 12, .ld lW 102 (.t 11), none, [0, 1, 2, 3]⟩,
 oq 13 (.mov (.t 4)),
 ⟨some 14, .iadA 4 104 102 lW (.t 3) (.t 13), none, [5]⟩,
 ⟨some 15, .ld lW 102 (.t 14), none, [5, 6]⟩,
 ⟨some 16, .ibin .or (.t 12) (.t 15), none, [0, 1, 2, 3, 4, 5, 6, 7]⟩,
 ⟨some 17, .nchk (.t 8), none, [0]⟩,
 ⟨some 18, .iadA 4 104 102 lW (.t 17) (.t 9), none, [0, 1, 2, 3, 4, 5, 6, 7, 8, 9]⟩,
 ⟨none, .st lW (.t 18) (.t 16), none, [0, 1, 2, 3, 4, 5, 6, 7, 8, 9, 10]⟩] true 0)))
 (.region [] [oq 19 (.ibin .add (.t 5) (.c lI [.int 1])),
 oq 5 (.mov (.t 19))] false 0))))
noncomputable def pattern_set_join_i19_l0 (E : Env) (v0 : C) (v1 : Int) (v2 : Row) : Option (Nat × List PV) := E.fix (stepOf E pattern_set_join_i19_c0 pattern_set_join_i19_h0 pattern_set_join_i19_o0) [.r [v0], .r [.int v1], .r v2]
noncomputable def pattern_set_join_i19_b0 (E : Env) (X : C → Int → Row → Option (Nat × List PV)) (v0 : C) (v1 : Int) (v2 : Row) : Option (Nat × List PV) :=
 if (decide (v1 < 4)) = true then
 if (0 : Int) ≤ v1 ∧ v1 < (4 : Int) then
 part lW lA5 (0 + (v1.toNat * 1)) v2 fun y1 =>
 if (0 : Int) ≤ v1 ∧ v1 < (4 : Int) ∧ v0.isDp = true then
 if (0 : Int) ≤ v1 ∧ v1 < (4 : Int) then
 turn lW lA5 (0 + (v1.toNat * 1)) v2 [.int (bitsOf .or .u64 ((at_ y1 0).toI) ((at_ v0.dpRow (v1.toNat * 1)).toI))] fun r2 =>
 X v0 (Go.IntKind.i64.wrap (v1 + 1)) r2
 else none
 else none
 else none
 else
 some (0, [.r v2])
theorem pattern_set_join_i19_s0 (E : Env) (X : List PV → Option (Nat × List PV)) (v0 : C) (v1 : Int) (v2 : Row) : stepOf E pattern_set_join_i19_c0 pattern_set_join_i19_h0 pattern_set_join_i19_o0 X [.r [v0], .r [.int v1], .r v2] = pattern_set_join_i19_b0 E (fun (v0 : C) (v1 : Int) (v2 : Row) => X [.r [v0], .r [.int v1], .r v2]) v0 v1 v2 := by kernel_rfl
def pattern_set_join_i19_a : AImp := { fn := 85, entry := pattern_set_join_i19_en, res := [], exit := pattern_set_join_i19_ex, body := (.seq (.region [] [oq 3 (.boxP lA5 104 (.t 1))] false 0)
 (.seq (.region [] [oq 5 (.mov (.c lI [.int 0]))] false 0)
 (.block 0 (.loop pattern_set_join_i19_h0 pattern_set_join_i19_o0 pattern_set_join_i19_c0)))) }
/-- (*clapperbridge/pattern.set).join, to which objects are handed -/
noncomputable def pattern_set_join_i19 (E : Env) (p0 : Row) (p1 : Row) : Option (List PV) :=
 (pattern_set_join_i19_l0 E (.dp p0) 0 p1).bind fun x3 =>
 some [.r (gR 0 x3.2)]
theorem pattern_set_join_i19_eq (E : Env) (p0 : Row) (p1 : Row) : runI E pattern_set_join_i19_a [.r p0, .r p1] = pattern_set_join_i19 E p0 p1 := by kernel_rfl

def pattern_plan_behind_h0 : Shape := { slots := [(0, .d (.one (.ref 108))), (3, .d (.one (.ref 104))), (4, .ptr 0 0), (5, .ptr 1 0), (11, .d lI), (12, .d lI)], objs := [.var lA5, .var lA5] }
def pattern_plan_behind_o0 : List (Exit' × Shape) := [(.exit 0, { slots := [(4, .ptr 0 0), (5, .ptr 1 0)], objs := [.var lA5, .var lA5] })]
def pattern_plan_behind_c0 : ACode := (.seq (.region [] [oq 13 (.icmp .lss (.t 12) (.t 11))] false 0)
 (.seq (.cond (.t 13) .skip
 (.exit 0))
 (.seq (.block 1 (.seq (.region [] [oq 14 (.mov (.t 12)),
 oq 6 (.mov (.t 14))] false 0)
 (.seq (.region [] [oq 15 (.mov (.t 6)),
 oq 16 (.call 84 [(.one (.ref 104)), lI] [lB] [(.t 3), (.t 15)])] false 0)
 (.cond (.t 16) (.region [] [oq 17 (.mov (.t 0)),
 oq 18 (.nchk (.t 17)),
 oq 19 (.fad 1 1 108 101 (.t 18)),
 oq 20 (.ld (.one (.sl 104)) 101 (.t 19)),
 oq 21 (.mov (.t 6)),
 oq 22 (.iad 104 lA5 (.t 20) (.t 21)),
 oq 23 (.ld lA5 104 (.t 22)),
 oq 24 (.icall 161 85 (pattern_set_join_i19_en) (pattern_set_join_i19_ex) [1] 0 none [(.t 5), (.t 23)])] false 0)
 .skip))))
 (.region [] [oq 25 (.ibin .add (.t 12) (.c lI [.int 1])),
 oq 12 (.mov (.t 25))] false 0))))
noncomputable def pattern_plan_behind_l0 (E : Env) (v0 : C) (v1 : C) (v2 : Int) (v3 : Int) (v4 : Row) (v5 : Row) : Option (Nat × List PV) := E.fix (stepOf E pattern_plan_behind_c0 pattern_plan_behind_h0 pattern_plan_behind_o0) [.r [v0], .r [v1], .r [.int v2], .r [.int v3], .r v4, .r v5]
noncomputable def pattern_plan_behind_b0 (E : Env) (X : C → C → Int → Int → Row → Row → Option (Nat × List PV)) (v0 : C) (v1 : C) (v2 : Int) (v3 : Int) (v4 : Row) (v5 : Row) : Option (Nat × List PV) :=
 if (decide (v3 < v2)) = true then
 (E.pc n_pattern_set_has [[v1], [.int v3]]).bind fun y1 =>
 if ((at_ (rowsAt y1 0) 0).toB) = true then
 if v0.isDp = true then
 if v0.isDp = true then
 if (0 : Int) ≤ v3 ∧ v3 < (((at_ v0.dpRow 1).rows).length : Int) then
 (E.ic pattern_set_join_i19_n [.r (rowsAt ((at_ v0.dpRow 1).rows) v3.toNat), .r v5]).bind fun y2 =>
 X v0 v1 v2 (Go.IntKind.i64.wrap (v3 + 1)) v4 (gR 0 y2)
 else none
 else none
 else none
 else
 X v0 v1 v2 (Go.IntKind.i64.wrap (v3 + 1)) v4 v5
 else
 some (0, [.r v4, .r v5])
theorem pattern_plan_behind_s0 (E : Env) (X : List PV → Option (Nat × List PV)) (v0 : C) (v1 : C) (v2 : Int) (v3 : Int) (v4 : Row) (v5 : Row) : stepOf E pattern_plan_behind_c0 pattern_plan_behind_h0 pattern_plan_behind_o0 X [.r [v0], .r [v1], .r [.int v2], .r [.int v3], .r v4, .r v5] = pattern_plan_behind_b0 E (fun (v0 : C) (v1 : C) (v2 : Int) (v3 : Int) (v4 : Row) (v5 : Row) => X [.r [v0], .r [v1], .r [.int v2], .r [.int v3], .r v4, .r v5]) v0 v1 v2 v3 v4 v5 := by kernel_rfl
def pattern_plan_behind_a : AFun := { ps := [(.one (.ref 108)), lA5], rs := [lA5], res := [(true, 4, none)], body := (.seq (.region [] [oq 3 (.boxP lA5 104 (.t 1)),
 oq 4 (.allocO 0 lA5 [.int 0, .int 0, .int 0, .int 0])] false 1)
 (.seq (.region [] [oq 5 (.allocO 0 lA5 [.int 0, .int 0, .int 0, .int 0])] false 1)
 (.seq (.seq (.region [] [oq 7 (.mov (.t 0)),
 oq 8 (.nchk (.t 7)),
 oq 9 (.fad 1 1 108 101 (.t 8)),
 oq 10 (.ld (.one (.sl 104)) 101 (.t 9)),
 oq 11 (.lenL (.t 10)),
 oq 12 (.mov (.c lI [.int 0]))] false 0)
 (.block 0 (.loop pattern_plan_behind_h0 pattern_plan_behind_o0 pattern_plan_behind_c0)))
 (.seq (.region [] [oq 26 (.ld lA5 104 (.t 5)),
 ⟨none, .st lA5 (.t 4) (.t 26), none, []⟩] false 0)
 .ret)))) }
/-- (*clapperbridge/pattern.plan).behind -/
noncomputable def pattern_plan_behind (E : Env) (p0 : C) (p1 : Row) : Option (List Row) :=
 if p0.isDp = true then
 if p0.isDp = true then
 (pattern_plan_behind_l0 E p0 (.dp p1) (((at_ p0.dpRow 1).rows).length : Int) 0 [.int 0, .int 0, .int 0, .int 0] [.int 0, .int 0, .int 0, .int 0]).bind fun x3 =>
 some [gR 1 x3.2]
 else none
 else none
theorem pattern_plan_behind_eq (E : Env) (p0 : C) (p1 : Row) : runP E pattern_plan_behind_a [[p0], p1] = pattern_plan_behind E p0 p1 := by kernel_rfl

def pattern_plan_ends_h0 : Shape := { slots := [(0, .d (.one (.ref 108))), (3, .d (.one (.ref 104))), (14, .d lI)], objs := [] }
def pattern_plan_ends_o0 : List (Exit' × Shape) := [(.exit 0, { slots := [], objs := [] }), (.ret, { slots := [(4, .d lB)], objs := [] })]
def pattern_plan_ends_c0 : ACode := (.seq (.region [] [oq 15 (.icmp .lss (.t 14) (.c lI [.int 4]))] false 0)
 (.seq (.cond (.t 15) .skip
 (.exit 0))
 (.seq (.block 1 (.seq (.region [] [oq 16 (.mov (.t 14)),
 oq 5 (.mov (.t 16))] false 0)
 (.seq (.region [] [oq 17 (.mov (.t 5)),
 ⟨some 18, .iadA 4 104 102 lW (.t 3) (.t 17), none, [0]⟩,
 ⟨some 19, .ld lW 102 (.t 18), none, [0, 1]⟩,
 oq 20 (.mov (.t 0)),
 oq 21 (.mov (.t 5)),
 ⟨some 22, .nchk (.t 20), none, [3]⟩,
 ⟨some 23, .fad 2 9 108 106 (.t 22), none, [3, 5]⟩,
 ⟨some 24, .fad 5 4 106 104 (.t 23), none, [3, 5, 6]⟩,
 ⟨some 25, .iadA 4 104 102 lW (.t 24) (.t 21), none, [3, 4, 5, 6, 7]⟩,
 ⟨some 26, .ld lW 102 (.t 25), none, [3, 4, 5, 6, 7, 8]⟩,
 ⟨some 27, .ibin .and (.t 19) (.t 26), none, [0, 1, 2, 3, 4, 5, 6, 7, 8, 9]⟩,
 ⟨some 28, .icmp .neq (.t 27) (.c lW [.int 0]), none, [0, 1, 2, 3, 4, 5, 6, 7, 8, 9, 10]⟩] true 0)
 (.cond (.t 28) (.seq (.region [] [oq 4 (.mov (.c lB [.bool true]))] false 0)
 .ret)
 .skip))))
 (.region [] [oq 29 (.ibin .add (.t 14) (.c lI [.int 1])),
 oq 14 (.mov (.t 29))] false 0))))
noncomputable def pattern_plan_ends_l0 (E : Env) (v0 : C) (v1 : C) (v2 : Int) : Option (Nat × List PV) := E.fix (stepOf E pattern_plan_ends_c0 pattern_plan_ends_h0 pattern_plan_ends_o0) [.r [v0], .r [v1], .r [.int v2]]
noncomputable def pattern_plan_ends_b0 (E : Env) (X : C → C → Int → Option (Nat × List PV)) (v0 : C) (v1 : C) (v2 : Int) : Option (Nat × List PV) :=
 if (decide (v2 < 4)) = true then
 if (0 : Int) ≤ v2 ∧ v2 < (4 : Int) ∧ v1.isDp = true then
 if v0.isDp = true then
 if v0.isDp = true then
 if (0 : Int) ≤ v2 ∧ v2 < (4 : Int) ∧ (C.dp [at_ v0.dpRow 7, at_ v0.dpRow 8, at_ v0.dpRow 9, at_ v0.dpRow 10]).isDp = true then
 if ((bitsOf .and .u64 ((at_ v1.dpRow (v2.toNat * 1)).toI) ((at_ [at_ v0.dpRow 7, at_ v0.dpRow 8, at_ v0.dpRow 9, at_ v0.dpRow 10] (v2.toNat * 1)).toI)) != 0) = true then
 some (1, [.r [.bool true]])
 else
 X v0 v1 (Go.IntKind.i64.wrap (v2 + 1))
 else none
 else none
 else none
 else none
 else
 some (0, [])
theorem pattern_plan_ends_s0 (E : Env) (X : List PV → Option (Nat × List PV)) (v0 : C) (v1 : C) (v2 : Int) : stepOf E pattern_plan_ends_c0 pattern_plan_ends_h0 pattern_plan_ends_o0 X [.r [v0], .r [v1], .r [.int v2]] = pattern_plan_ends_b0 E (fun (v0 : C) (v1 : C) (v2 : Int) => X [.r [v0], .r [v1], .r [.int v2]]) v0 v1 v2 := by kernel_rfl
def pattern_plan_ends_a : AFun := { ps := [(.one (.ref 108)), lA5], rs := [lB], res := [(false, 4, none)], body := (.seq (.region [] [oq 3 (.boxP lA5 104 (.t 1)),
 oq 4 (.mov (.c lB [.bool false]))] false 0)
 (.seq (.seq (.join [(.normal, { slots := [(0, .d (.one (.ref 108))), (3, .d (.one (.ref 104))), (13, .d lB)], objs := [] })] (.region [] [oq 6 (.call 84 [(.one (.ref 104)), lI] [lB] [(.t 3), (.c lI [.int 0])]),
 oq 7 (.mov (.t 6)),
 ⟨some 8, .mov (.t 0), some (7, true), []⟩,
 ⟨some 9, .nchk (.t 8), some (7, true), []⟩,
 ⟨some 10, .fad 2 9 108 106 (.t 9), some (7, true), []⟩,
 ⟨some 11, .fad 0 1 106 4 (.t 10), some (7, true), []⟩,
 ⟨some 12, .ld lB 4 (.t 11), some (7, true), []⟩,
 oq 13 (.pick (.t 7) (.t 12) (.c lB [.bool false]))] false 0))
 (.cond (.t 13) (.seq (.region [] [oq 4 (.mov (.c lB [.bool true]))] false 0)
 .ret)
 .skip))
 (.seq (.seq (.region [] [oq 14 (.mov (.c lI [.int 0]))] false 0)
 (.block 0 (.loop pattern_plan_ends_h0 pattern_plan_ends_o0 pattern_plan_ends_c0)))
 (.seq (.region [] [oq 4 (.mov (.c lB [.bool false]))] false 0)
 .ret)))) }
/-- (*clapperbridge/pattern.plan).ends -/
noncomputable def pattern_plan_ends (E : Env) (p0 : C) (p1 : Row) : Option (List Row) :=
 ((E.pc n_pattern_set_has [[.dp p1], [.int 0]]).bind fun y1 =>
 let K2 : Bool → Option (Nat × List PV) := fun q3 =>
 some (0, [.r [p0], .r [.dp p1], .r [.bool q3]])
 if ((at_ (rowsAt y1 0) 0).toB) = true then
 if p0.isDp = true then
 if p0.isDp = true then
 K2 ((at_ p0.dpRow 2).toB)
 else none
 else none
 else
 K2 false).bind fun x4 =>
 if (gB 2 x4.2) = true then
 some [[.bool true]]
 else
 (pattern_plan_ends_l0 E (gC 0 x4.2) (gC 1 x4.2) 0).bind fun x5 =>
 match x5.1 with
 | 0 =>
 some [[.bool false]]
 | i6 + 1 =>
 some [[.bool (gB 0 x5.2)]]
theorem pattern_plan_ends_eq (E : Env) (p0 : C) (p1 : Row) : runP E pattern_plan_ends_a [[p0], p1] = pattern_plan_ends E p0 p1 := by kernel_rfl

def pattern_set_add_i0_a : AImp := { fn := 71, entry := pattern_set_add_i0_en, res := [], exit := pattern_set_add_i0_ex, body := (.region [] [oq 4 (.mov (.t 0)),
 oq 5 (.mov (.t 1)),
 ⟨some 6, .idiv .quo (.t 5) (.c lI [.int 64]), none, [1]⟩,
 ⟨some 7, .nchk (.t 4), none, [0]⟩,
 ⟨some 8, .iadA 4 104 102 lW (.t 7) (.t 6), none, [0, 1, 2, 3]⟩,
 ⟨some 9, .ld lW 102 (.t 8), none, [0, 1, 2, 3, 4]⟩,
 oq 10 (.mov (.t 1)),
 ⟨some 11, .idiv .rem (.t 10) (.c lI [.int 64]), none, [6]⟩,
 ⟨some 12, .shf .shl (.c lW [.int 1]) (.t 11), none, [6, 7]⟩,
 ⟨some 13, .ibin .or (.t 9) (.t 12), none, [0, 1, 2, 3, 4, 5, 6, 7, 8]⟩,
 ⟨some 14, .nchk (.t 4), none, [0]⟩,
 ⟨some 15, .iadA 4 104 102 lW (.t 14) (.t 6), none, [0, 1, 2, 3, 4, 5, 6, 7, 8, 9, 10]⟩,
 ⟨none, .st lW (.t 15) (.t 13), none, [0, 1, 2, 3, 4, 5, 6, 7, 8, 9, 10, 11]⟩] true 0) }
/-- (*clapperbridge/pattern.set).add, to which objects are handed -/
noncomputable def pattern_set_add_i0 (E : Env) (p0 : Int) (p1 : Row) : Option (List PV) :=
 if (0 : Int) ≤ (Go.IntKind.i64.wrap (p0.tdiv 64)) ∧ (Go.IntKind.i64.wrap (p0.tdiv 64)) < (4 : Int) then
 part lW lA5 (0 + (((Go.IntKind.i64.wrap (p0.tdiv 64)).toNat) * 1)) p1 fun y1 =>
 if p0.tmod 64 < 0 then none else  if (0 : Int) ≤ (Go.IntKind.i64.wrap (p0.tdiv 64)) ∧ (Go.IntKind.i64.wrap (p0.tdiv 64)) < (4 : Int) then
 turn lW lA5 (0 + (((Go.IntKind.i64.wrap (p0.tdiv 64)).toNat) * 1)) p1 [.int (bitsOf .or .u64 ((at_ y1 0).toI) (Go.IntKind.u64.wrap (1 * 2 ^ (min ((p0.tmod 64).toNat) (Go.IntKind.bits .u64)))))] fun r2 =>
 some [.r r2]
 else none
 else none
theorem pattern_set_add_i0_eq (E : Env) (p0 : Int) (p1 : Row) : runI E pattern_set_add_i0_a [.r [.int p0], .r p1] = pattern_set_add_i0 E p0 p1 := by kernel_rfl

def pattern_build_h2 : Shape := { slots := [(2, .ptr 0 0), (4, .d (.one (.ref 108))), (7, .map 1), (8, .sw 2), (9, .ptr 3 0), (10, .d (.one (.ref 139))), (11, .d lI), (12, .ptr 4 0), (13, .ptr 5 0), (14, .d lI), (15, .ptr 6 0), (46, .d lI), (50, .d lI)], objs := [.var lA7, .map lA5 (.one (.int .i16)), .sarr 104 lA5, .cells false [.sw 7, .sw 8], .var (.agg (List.replicate 256 (.int .i16))), .var lA5, .var lA5, .sarr 116 (.agg (List.replicate 256 (.int .i16))), .sarr 4 lB] }
def pattern_build_o2 : List (Exit' × Shape) := [(.exit 4, { slots := [(2, .ptr 0 0), (4, .d (.one (.ref 108))), (7, .map 1), (8, .sw 2), (9, .ptr 3 0), (10, .d (.one (.ref 139))), (11, .d lI), (12, .ptr 4 0), (13, .ptr 5 0), (14, .d lI), (15, .ptr 6 0), (46, .d lI)], objs := [.var lA7, .map lA5 (.one (.int .i16)), .sarr 104 lA5, .cells false [.sw 7, .sw 8], .var (.agg (List.replicate 256 (.int .i16))), .var lA5, .var lA5, .sarr 116 (.agg (List.replicate 256 (.int .i16))), .sarr 4 lB] })]
def pattern_build_c2 : ACode := (.seq (.region [] [oq 51 (.icmp .lss (.t 50) (.c lI [.int 4]))] false 0)
 (.seq (.cond (.t 51) .skip
 (.exit 4))
 (.seq (.block 5 (.seq (.region [] [oq 52 (.mov (.t 50)),
 oq 16 (.mov (.t 52))] false 0)
 (.region [] [oq 53 (.mov (.t 16)),
 ⟨some 54, .iadA 4 104 102 lW (.t 15) (.t 53), none, [0]⟩,
 ⟨some 55, .ld lW 102 (.t 54), none, [0, 1]⟩,
 oq 56 (.mov (.t 10)),
 oq 57 (.mov (.t 14)),
 oq 58 (.mov (.t 16)),
 ⟨some 59, .nchk (.t 56), none, [3]⟩,
 ⟨some 60, .iadA 256 139 104 lA5 (.t 59) (.t 57), none, [3, 4, 6]⟩,
 ⟨some 61, .iadA 4 104 102 lW (.t 60) (.t 58), none, [3, 4, 5, 6, 7]⟩,
 ⟨some 62, .ld lW 102 (.t 61), none, [3, 4, 5, 6, 7, 8]⟩,
 ⟨some 63, .ibin .and (.t 55) (.t 62), none, [0, 1, 2, 3, 4, 5, 6, 7, 8, 9]⟩,
 ⟨some 64, .iadA 4 104 102 lW (.t 15) (.t 53), none, [0, 1, 2, 3, 4, 5, 6, 7, 8, 9, 10]⟩,
 ⟨none, .st lW (.t 64) (.t 63), none, [0, 1, 2, 3, 4, 5, 6, 7, 8, 9, 10, 11]⟩] true 0)))
 (.region [] [oq 65 (.ibin .add (.t 50) (.c lI [.int 1])),
 oq 50 (.mov (.t 65))] false 0))))
noncomputable def pattern_build_l2 (E : Env) (v0 : C) (v1 : C) (v2 : Int) (v3 : Int) (v4 : Int) (v5 : Int) (v6 : Row) (v7 : List (Row × Row)) (v8 : C) (v9 : Row) (v10 : Row) (v11 : Row) (v12 : C) (v13 : C) : Option (Nat × List PV) := E.fix (stepOf E pattern_build_c2 pattern_build_h2 pattern_build_o2) [.r [v0], .r [v1], .r [.int v2], .r [.int v3], .r [.int v4], .r [.int v5], .r v6, .m v7, .r [v8], .r v9, .r v10, .r v11, .r [v12], .r [v13]]
noncomputable def pattern_build_b2 (E : Env) (X : C → C → Int → Int → Int → Int → Row → List (Row × Row) → C → Row → Row → Row → C → C → Option (Nat × List PV)) (v0 : C) (v1 : C) (v2 : Int) (v3 : Int) (v4 : Int) (v5 : Int) (v6 : Row) (v7 : List (Row × Row)) (v8 : C) (v9 : Row) (v10 : Row) (v11 : Row) (v12 : C) (v13 : C) : Option (Nat × List PV) :=
 if (decide (v5 < 4)) = true then
 if (0 : Int) ≤ v5 ∧ v5 < (4 : Int) then
 part lW lA5 (0 + (v5.toNat * 1)) v11 fun y5 =>
 if v1.isDp = true then
 if (0 : Int) ≤ v3 ∧ v3 < (256 : Int) ∧ v1.isDp = true then
 if (0 : Int) ≤ v5 ∧ v5 < (4 : Int) ∧ (C.dp [at_ v1.dpRow (v3.toNat * 4), at_ v1.dpRow (v3.toNat * 4 + 1), at_ v1.dpRow (v3.toNat * 4 + 2), at_ v1.dpRow (v3.toNat * 4 + 3)]).isDp = true then
 if (0 : Int) ≤ v5 ∧ v5 < (4 : Int) then
 turn lW lA5 (0 + (v5.toNat * 1)) v11 [.int (bitsOf .and .u64 ((at_ y5 0).toI) ((at_ [at_ v1.dpRow (v3.toNat * 4), at_ v1.dpRow (v3.toNat * 4 + 1), at_ v1.dpRow (v3.toNat * 4 + 2), at_ v1.dpRow (v3.toNat * 4 + 3)] (v5.toNat * 1)).toI))] fun r6 =>
 X v0 v1 v2 v3 v4 (Go.IntKind.i64.wrap (v5 + 1)) v6 v7 v8 v9 v10 r6 v12 v13
 else none
 else none
 else none
 else none
 else none
 else
 some (0, [.r [v0], .r [v1], .r [.int v2], .r [.int v3], .r [.int v4], .r v6, .m v7, .r [v8], .r v9, .r v10, .r v11, .r [v12], .r [v13]])
theorem pattern_build_s2 (E : Env) (X : List PV → Option (Nat × List PV)) (v0 : C) (v1 : C) (v2 : Int) (v3 : Int) (v4 : Int) (v5 : Int) (v6 : Row) (v7 : List (Row × Row)) (v8 : C) (v9 : Row) (v10 : Row) (v11 : Row) (v12 : C) (v13 : C) : stepOf E pattern_build_c2 pattern_build_h2 pattern_build_o2 X [.r [v0], .r [v1], .r [.int v2], .r [.int v3], .r [.int v4], .r [.int v5], .r v6, .m v7, .r [v8], .r v9, .r v10, .r v11, .r [v12], .r [v13]] = pattern_build_b2 E (fun (v0 : C) (v1 : C) (v2 : Int) (v3 : Int) (v4 : Int) (v5 : Int) (v6 : Row) (v7 : List (Row × Row)) (v8 : C) (v9 : Row) (v10 : Row) (v11 : Row) (v12 : C) (v13 : C) => X [.r [v0], .r [v1], .r [.int v2], .r [.int v3], .r [.int v4], .r [.int v5], .r v6, .m v7, .r [v8], .r v9, .r v10, .r v11, .r [v12], .r [v13]]) v0 v1 v2 v3 v4 v5 v6 v7 v8 v9 v10 v11 v12 v13 := by kernel_rfl
def pattern_build_h1 : Shape := { slots := [(2, .ptr 0 0), (4, .d (.one (.ref 108))), (7, .map 1), (8, .sw 2), (9, .ptr 3 0), (10, .d (.one (.ref 139))), (11, .d lI), (12, .ptr 4 0), (13, .ptr 5 0), (46, .d lI)], objs := [.var lA7, .map lA5 (.one (.int .i16)), .sarr 104 lA5, .cells false [.sw 6, .sw 7], .var (.agg (List.replicate 256 (.int .i16))), .var lA5, .sarr 116 (.agg (List.replicate 256 (.int .i16))), .sarr 4 lB] }
def pattern_build_o1 : List (Exit' × Shape) := [(.exit 2, { slots := [(2, .ptr 0 0), (4, .d (.one (.ref 108))), (7, .map 1), (8, .sw 2), (9, .ptr 3 0), (10, .d (.one (.ref 139))), (11, .d lI), (12, .ptr 4 0)], objs := [.var lA7, .map lA5 (.one (.int .i16)), .sarr 104 lA5, .cells false [.sw 5, .sw 6], .var (.agg (List.replicate 256 (.int .i16))), .sarr 116 (.agg (List.replicate 256 (.int .i16))), .sarr 4 lB] }), (.ret, { slots := [(2, .ptr 0 0), (3, .d lI)], objs := [.var lA7] })]
def pattern_build_c1 : ACode := (.seq (.region [] [oq 47 (.icmp .lss (.t 46) (.c lI [.int 256]))] false 0)
 (.seq (.cond (.t 47) .skip
 (.exit 2))
 (.seq (.block 3 (.seq (.region [] [oq 48 (.mov (.t 46)),
 oq 14 (.mov (.t 48))] false 0)
 (.seq (.region [] [oq 49 (.ld lA5 104 (.t 13)),
 oq 15 (.allocO 0 lA5 [.int 0, .int 0, .int 0, .int 0]),
 ⟨none, .st lA5 (.t 15) (.t 49), none, []⟩] false 1)
 (.seq (.seq (.region [] [oq 50 (.mov (.c lI [.int 0]))] false 0)
 (.block 4 (.loop pattern_build_h2 pattern_build_o2 pattern_build_c2)))
 (.seq (.region [] [oq 67 (.mov (.t 7)),
 oq 68 (.ld lA5 104 (.t 15)),
 oq 69 (.lk lA5 (.one (.int .i16)) [.int 0] (.t 67) (.t 68) true),
 oq 66 (.mov (.t 69)),
 oq 70 (.ext 0 (.t 66)),
 oq 71 (.ext 1 (.t 66)),
 oq 17 (.mov (.t 70)),
 oq 18 (.mov (.t 71))] false 0)
 (.seq (.seq (.region [] [oq 72 (.mov (.t 18)),
 oq 73 (.not (.t 72))] false 0)
 (.cond (.t 73) (.seq (.region [] [oq 74 (.mov (.t 8)),
 oq 75 (.lenL (.t 74)),
 oq 76 (.i2i .i16 (.t 75)),
 oq 17 (.mov (.t 76))] false 0)
 (.seq (.region [] [oq 77 (.mov (.t 7)),
 oq 78 (.ld lA5 104 (.t 15)),
 oq 79 (.mov (.t 17)),
 ⟨none, .mup lA5 (.t 77) (.t 78) (.t 79), none, []⟩] false 0)
 (.seq (.region [] [oq 80 (.mov (.t 8)),
 oq 81 (.ld lA5 104 (.t 15)),
 oq 82 (.bsl 104 lA5 1 [.int 0, .int 0, .int 0, .int 0] [(0, (.t 81))]),
 oq 83 (.appW 0 104 lA5 32 (.t 80) (.t 82)),
 oq 8 (.mov (.t 83))] false 1)
 (.seq (.region [] [oq 84 (.mov (.t 8)),
 oq 85 (.lenL (.t 84)),
 oq 86 (.icmp .gtr (.t 85) (.c lI [.int 400]))] false 0)
 (.cond (.t 86) (.seq (.region [] [oq 87 (.bld lA7 [.nils, .nils] []),
 ⟨none, .st lA7 (.t 2) (.t 87), none, []⟩,
 oq 3 (.mov (.c lI [.int 2]))] false 0)
 .ret)
 .skip)))))
 .skip))
 (.region [] [oq 88 (.mov (.t 14)),
 oq 89 (.mov (.t 17)),
 oq 90 (.iadA 256 116 112 (.one (.int .i16)) (.t 12) (.t 88)),
 ⟨none, .st (.one (.int .i16)) (.t 90) (.t 89), none, []⟩] false 0)))))))
 (.region [] [oq 91 (.ibin .add (.t 46) (.c lI [.int 1])),
 oq 46 (.mov (.t 91))] false 0))))
noncomputable def pattern_build_l1 (E : Env) (v0 : C) (v1 : C) (v2 : Int) (v3 : Int) (v4 : Row) (v5 : List (Row × Row)) (v6 : C) (v7 : Row) (v8 : Row) (v9 : C) (v10 : C) : Option (Nat × List PV) := E.fix (stepOf E pattern_build_c1 pattern_build_h1 pattern_build_o1) [.r [v0], .r [v1], .r [.int v2], .r [.int v3], .r v4, .m v5, .r [v6], .r v7, .r v8, .r [v9], .r [v10]]
noncomputable def pattern_build_b1 (E : Env) (X : C → C → Int → Int → Row → List (Row × Row) → C → Row → Row → C → C → Option (Nat × List PV)) (v0 : C) (v1 : C) (v2 : Int) (v3 : Int) (v4 : Row) (v5 : List (Row × Row)) (v6 : C) (v7 : Row) (v8 : Row) (v9 : C) (v10 : C) : Option (Nat × List PV) :=
 if (decide (v3 < 256)) = true then
 (pattern_build_l2 E v0 v1 v2 v3 v3 0 v4 v5 v6 v7 v8 v8 v9 v10).bind fun x7 =>
 if (!((findE lA5 (gR 10 x7.2) (gM 6 x7.2)).isSome)) = true then
 if (((gC 7 x7.2).rows).length + ([gR 10 x7.2] : List Row).length) * 32 ≤ 140737488355328 then
 if (decide ((((appC (gC 7 x7.2) ([gR 10 x7.2] : List Row)).rows).length : Int) > 400)) = true then
 some (1, [.r [.int 2], .r [.nils, .nils]])
 else
 if (0 : Int) ≤ (gI 3 x7.2) ∧ (gI 3 x7.2) < (256 : Int) then
 turn (.one (.int .i16)) (.agg (List.replicate 256 (.int .i16))) (0 + (((gI 3 x7.2).toNat) * 1)) (gR 8 x7.2) [.int (Go.IntKind.i16.wrap (((gC 7 x7.2).rows).length : Int))] fun r8 =>
 X (gC 0 x7.2) (gC 1 x7.2) (gI 2 x7.2) (Go.IntKind.i64.wrap ((gI 4 x7.2) + 1)) (gR 5 x7.2) (setE lA5 (gR 10 x7.2) [.int (Go.IntKind.i16.wrap (((gC 7 x7.2).rows).length : Int))] (gM 6 x7.2)) (appC (gC 7 x7.2) ([gR 10 x7.2] : List Row)) r8 (gR 9 x7.2) (gC 11 x7.2) (gC 12 x7.2)
 else none
 else none
 else
 if (0 : Int) ≤ (gI 3 x7.2) ∧ (gI 3 x7.2) < (256 : Int) then
 turn (.one (.int .i16)) (.agg (List.replicate 256 (.int .i16))) (0 + (((gI 3 x7.2).toNat) * 1)) (gR 8 x7.2) [.int ((at_ ((findE lA5 (gR 10 x7.2) (gM 6 x7.2)).getD [.int 0]) 0).toI)] fun r9 =>
 X (gC 0 x7.2) (gC 1 x7.2) (gI 2 x7.2) (Go.IntKind.i64.wrap ((gI 4 x7.2) + 1)) (gR 5 x7.2) (gM 6 x7.2) (gC 7 x7.2) r9 (gR 9 x7.2) (gC 11 x7.2) (gC 12 x7.2)
 else none
 else
 some (0, [.r [v0], .r [v1], .r [.int v2], .r v4, .m v5, .r [v6], .r v7, .r [v9], .r [v10]])
theorem pattern_build_s1 (E : Env) (X : List PV → Option (Nat × List PV)) (v0 : C) (v1 : C) (v2 : Int) (v3 : Int) (v4 : Row) (v5 : List (Row × Row)) (v6 : C) (v7 : Row) (v8 : Row) (v9 : C) (v10 : C) : stepOf E pattern_build_c1 pattern_build_h1 pattern_build_o1 X [.r [v0], .r [v1], .r [.int v2], .r [.int v3], .r v4, .m v5, .r [v6], .r v7, .r v8, .r [v9], .r [v10]] = pattern_build_b1 E (fun (v0 : C) (v1 : C) (v2 : Int) (v3 : Int) (v4 : Row) (v5 : List (Row × Row)) (v6 : C) (v7 : Row) (v8 : Row) (v9 : C) (v10 : C) => X [.r [v0], .r [v1], .r [.int v2], .r [.int v3], .r v4, .m v5, .r [v6], .r v7, .r v8, .r [v9], .r [v10]]) v0 v1 v2 v3 v4 v5 v6 v7 v8 v9 v10 := by kernel_rfl
def pattern_build_h0 : Shape := { slots := [(2, .ptr 0 0), (4, .d (.one (.ref 108))), (7, .map 1), (8, .sw 2), (9, .ptr 3 0), (10, .d (.one (.ref 139))), (11, .d lI)], objs := [.var lA7, .map lA5 (.one (.int .i16)), .sarr 104 lA5, .cells false [.sw 4, .sw 5], .sarr 116 (.agg (List.replicate 256 (.int .i16))), .sarr 4 lB] }
def pattern_build_o0 : List (Exit' × Shape) := [(.exit 0, { slots := [(2, .ptr 0 0), (9, .ptr 1 0)], objs := [.var lA7, .cells false [.sw 2, .sw 3], .sarr 116 (.agg (List.replicate 256 (.int .i16))), .sarr 4 lB] }), (.ret, { slots := [(2, .ptr 0 0), (3, .d lI)], objs := [.var lA7] })]
def pattern_build_c0 : ACode := (.seq (.seq (.region [] [oq 35 (.mov (.t 11)),
 oq 36 (.mov (.t 8)),
 oq 37 (.lenL (.t 36)),
 oq 38 (.icmp .lss (.t 35) (.t 37))] false 0)
 (.cond (.t 38) .skip
 (.exit 0)))
 (.seq (.block 1 (.seq (.region [] [oq 12 (.allocO 0 (.agg (List.replicate 256 (.int .i16))) (List.replicate 256 (C.int 0)))] false 1)
 (.seq (.region [] [oq 41 (.mov (.t 8)),
 oq 42 (.mov (.t 11)),
 oq 43 (.iad 104 lA5 (.t 41) (.t 42)),
 oq 44 (.ld lA5 104 (.t 43)),
 oq 45 (.call 73 [(.one (.ref 108)), lA5] [lA5] [(.t 4), (.t 44)]),
 oq 13 (.allocO 0 lA5 [.int 0, .int 0, .int 0, .int 0]),
 ⟨none, .st lA5 (.t 13) (.t 45), none, []⟩] false 1)
 (.seq (.seq (.region [] [oq 46 (.mov (.c lI [.int 0]))] false 0)
 (.block 2 (.loop pattern_build_h1 pattern_build_o1 pattern_build_c1)))
 (.seq (.region [] [oq 92 (.fad 0 1 84 81 (.t 9)),
 oq 93 (.ldC (.t 92)),
 oq 94 (.ld (.agg (List.replicate 256 (.int .i16))) 116 (.t 12)),
 oq 95 (.bsl 116 (.agg (List.replicate 256 (.int .i16))) 1 (List.replicate 256 (C.int 0)) [(0, (.t 94))]),
 oq 96 (.appW 0 116 (.agg (List.replicate 256 (.int .i16))) 512 (.t 93) (.t 95)),
 oq 97 (.fad 0 1 84 81 (.t 9)),
 ⟨none, .stC (.t 97) (.t 96), none, []⟩] false 1)
 (.region [] [oq 98 (.fad 1 1 84 82 (.t 9)),
 ⟨some 99, .ldC (.t 98), none, [0]⟩,
 oq 100 (.mov (.t 8)),
 oq 101 (.mov (.t 11)),
 ⟨some 102, .iad 104 lA5 (.t 100) (.t 101), none, [2, 3]⟩,
 ⟨some 103, .ld lA5 104 (.t 102), none, [2, 3, 4]⟩,
 ⟨some 104, .call 74 [(.one (.ref 108)), lA5] [lB] [(.t 4), (.t 103)], none, [2, 3, 4, 5]⟩,
 ⟨some 105, .bsl 4 lB 1 [.bool false] [(0, (.t 104))], none, [2, 3, 4, 5, 6]⟩,
 ⟨some 106, .appW 0 4 lB 1 (.t 99) (.t 105), none, [0, 1, 2, 3, 4, 5, 6, 7]⟩,
 ⟨some 107, .fad 1 1 84 82 (.t 9), none, [0, 1, 2, 3, 4, 5, 6, 7, 8]⟩,
 ⟨none, .stC (.t 107) (.t 106), none, [0, 1, 2, 3, 4, 5, 6, 7, 8, 9]⟩] true 1))))))
 (.region [] [oq 39 (.mov (.t 11)),
 oq 40 (.ibin .add (.t 39) (.c lI [.int 1])),
 oq 11 (.mov (.t 40))] false 0)))
noncomputable def pattern_build_l0 (E : Env) (v0 : C) (v1 : C) (v2 : Int) (v3 : Row) (v4 : List (Row × Row)) (v5 : C) (v6 : C) (v7 : C) : Option (Nat × List PV) := E.fix (stepOf E pattern_build_c0 pattern_build_h0 pattern_build_o0) [.r [v0], .r [v1], .r [.int v2], .r v3, .m v4, .r [v5], .r [v6], .r [v7]]
noncomputable def pattern_build_b0 (E : Env) (X : C → C → Int → Row → List (Row × Row) → C → C → C → Option (Nat × List PV)) (v0 : C) (v1 : C) (v2 : Int) (v3 : Row) (v4 : List (Row × Row)) (v5 : C) (v6 : C) (v7 : C) : Option (Nat × List PV) :=
 if (decide (v2 < (v5.rows.length : Int))) = true then
 if (0 : Int) ≤ v2 ∧ v2 < (v5.rows.length : Int) then
 (E.pc n_pattern_plan_behind [[v0], rowsAt v5.rows v2.toNat]).bind fun y4 =>
 (pattern_build_l1 E v0 v1 v2 0 v3 v4 v5 (List.replicate 256 (C.int 0)) (rowsAt y4 0) v6 v7).bind fun x10 =>
 match x10.1 with
 | 0 =>
 if (((gC 7 x10.2).rows).length + ([gR 6 x10.2] : List Row).length) * 512 ≤ 140737488355328 then
 if (0 : Int) ≤ (gI 2 x10.2) ∧ (gI 2 x10.2) < (((gC 5 x10.2).rows).length : Int) then
 (E.pc n_pattern_plan_ends [[gC 0 x10.2], rowsAt ((gC 5 x10.2).rows) ((gI 2 x10.2).toNat)]).bind fun y12 =>
 if (((gC 8 x10.2).rows).length + ([[.bool ((at_ (rowsAt y12 0) 0).toB)]] : List Row).length) * 1 ≤ 140737488355328 then
 X (gC 0 x10.2) (gC 1 x10.2) (Go.IntKind.i64.wrap ((gI 2 x10.2) + 1)) (gR 3 x10.2) (gM 4 x10.2) (gC 5 x10.2) (appC (gC 7 x10.2) ([gR 6 x10.2] : List Row)) (appC (gC 8 x10.2) ([[.bool ((at_ (rowsAt y12 0) 0).toB)]] : List Row))
 else none
 else none
 else none
 | i11 + 1 =>
 some (1, [.r [.int (gI 0 x10.2)], .r (gR 1 x10.2)])
 else none
 else
 some (0, [.r v3, .r [v6], .r [v7]])
theorem pattern_build_s0 (E : Env) (X : List PV → Option (Nat × List PV)) (v0 : C) (v1 : C) (v2 : Int) (v3 : Row) (v4 : List (Row × Row)) (v5 : C) (v6 : C) (v7 : C) : stepOf E pattern_build_c0 pattern_build_h0 pattern_build_o0 X [.r [v0], .r [v1], .r [.int v2], .r v3, .m v4, .r [v5], .r [v6], .r [v7]] = pattern_build_b0 E (fun (v0 : C) (v1 : C) (v2 : Int) (v3 : Row) (v4 : List (Row × Row)) (v5 : C) (v6 : C) (v7 : C) => X [.r [v0], .r [v1], .r [.int v2], .r v3, .m v4, .r [v5], .r [v6], .r [v7]]) v0 v1 v2 v3 v4 v5 v6 v7 := by kernel_rfl
def pattern_build_a : AFun := { ps := [lS], rs := [lA7, lI], res := [(true, 2, none), (false, 3, none)], body := (.seq (.region [] [oq 2 (.allocO 0 lA7 [.nils, .nils]),
 oq 3 (.mov (.c lI [.int 0]))] false 1)
 (.seq (.region [] [oq 20 (.mov (.t 0)),
 oq 21 (.call 70 [lS] [lA4, lI] [(.t 20)]),
 oq 19 (.mov (.t 21)),
 oq 22 (.ext 0 (.t 19)),
 oq 23 (.ext 1 (.t 19)),
 oq 4 (.allocO 0 lA4 [.nils, .nils, .bool false, .int 0, .int 0, .int 0, .int 0, .int 0, .int 0, .int 0, .int 0]),
 ⟨none, .st lA4 (.t 4) (.t 22), none, []⟩,
 oq 5 (.mov (.t 23))] false 1)
 (.seq (.seq (.region [] [oq 24 (.mov (.t 5)),
 oq 25 (.icmp .neq (.t 24) (.c lI [.int 0]))] false 0)
 (.cond (.t 25) (.seq (.region [] [oq 26 (.bld lA7 [.nils, .nils] []),
 oq 27 (.mov (.t 5)),
 ⟨none, .st lA7 (.t 2) (.t 26), none, []⟩,
 oq 3 (.mov (.t 27))] false 0)
 .ret)
 .skip))
 (.seq (.region [] [oq 6 (.allocO 0 lA5 [.int 0, .int 0, .int 0, .int 0])] false 1)
 (.seq (.region [] [oq 28 (.icall 142 71 (pattern_set_add_i0_en) (pattern_set_add_i0_ex) [2] 0 none [(.t 6), (.c lI [.int 0])])] false 0)
 (.seq (.region [] [oq 29 (.mkm 0 lA5 (.one (.int .i16))),
 oq 30 (.ld lA5 104 (.t 6)),
 ⟨none, .mup lA5 (.t 29) (.t 30) (.c (.one (.int .i16)) [.int 0]), none, []⟩,
 oq 31 (.mov (.t 29)),
 oq 7 (.mov (.t 31))] false 1)
 (.seq (.region [] [oq 32 (.ld lA5 104 (.t 6)),
 oq 33 (.bslS 0 104 lA5 1 [.int 0, .int 0, .int 0, .int 0] [(0, (.t 32))]),
 oq 8 (.mov (.t 33))] false 1)
 (.seq (.post (.lft 9 (some 1) 4 lB) (.post (.lft 9 (some 0) 116 (.agg (List.replicate 256 (.int .i16)))) (.region [] [oq 9 (.allocA 0 [some ((.sl 116), .nils), some ((.sl 4), .nils)])] false 1)))
 (.seq (.region [(4, 108, some lA4)] [oq 34 (.call 72 [(.one (.ref 108))] [(.one (.ref 139))] [(.t 4)]),
 oq 10 (.mov (.t 34))] false 0)
 (.seq (.seq (.region [] [oq 11 (.mov (.c lI [.int 0]))] false 0)
 (.block 0 (.loop pattern_build_h0 pattern_build_o0 pattern_build_c0)))
 (.seq (.region [] [oq 108 (.ldA 2 (.t 9)),
 ⟨none, .st lA7 (.t 2) (.t 108), none, []⟩,
 oq 3 (.mov (.c lI [.int 0]))] false 0)
 .ret))))))))))) }
/-- clapperbridge/pattern.build -/
noncomputable def pattern_build (E : Env) (p0 : List UInt8) : Option (List Row) :=
 (E.pc n_pattern_parse [[.str p0]]).bind fun y1 =>
 if (((at_ (rowsAt y1 1) 0).toI) != 0) = true then
 some [[.nils, .nils], [.int ((at_ (rowsAt y1 1) 0).toI)]]
 else
 (E.ic pattern_set_add_i0_n [.r [.int 0], .r [.int 0, .int 0, .int 0, .int 0]]).bind fun y2 =>
 (E.pc n_pattern_plan_at [[.dp (rowsAt y1 0)]]).bind fun y3 =>
 (pattern_build_l0 E (.dp (rowsAt y1 0)) (at_ (rowsAt y3 0) 0) 0 [.nils, .nils] (setE lA5 (gR 0 y2) [.int 0] []) (.sl ([gR 0 y2] : List Row)) .nils .nils).bind fun x13 =>
 match x13.1 with
 | 0 =>
 some [[gC 1 x13.2, gC 2 x13.2], [.int 0]]
 | i14 + 1 =>
 some [gR 1 x13.2, [.int (gI 0 x13.2)]]
theorem pattern_build_eq (E : Env) (p0 : List UInt8) : runP E pattern_build_a [[.str p0]] = pattern_build E p0 := by kernel_rfl

def pattern_Check_a : AFun := { ps := [lS], rs := [lI], res := [(false, 2, none)], body := (.seq (.region [] [oq 2 (.mov (.c lI [.int 0]))] false 0)
 (.seq (.region [] [oq 6 (.mov (.t 0)),
 oq 7 (.call 56 [lS] [lA7, lI] [(.t 6)]),
 oq 5 (.mov (.t 7)),
 oq 8 (.ext 0 (.t 5)),
 oq 9 (.ext 1 (.t 5)),
 oq 3 (.allocO 0 lA7 [.nils, .nils]),
 ⟨none, .st lA7 (.t 3) (.t 8), none, []⟩,
 oq 4 (.mov (.t 9))] false 1)
 (.seq (.region [] [oq 10 (.mov (.t 4)),
 oq 2 (.mov (.t 10))] false 0)
 .ret))) }
/-- clapperbridge/pattern.Check -/
noncomputable def pattern_Check (E : Env) (p0 : List UInt8) : Option (List Row) :=
 (E.pc n_pattern_build [[.str p0]]).bind fun y1 =>
 some [[.int ((at_ (rowsAt y1 1) 0).toI)]]
theorem pattern_Check_eq (E : Env) (p0 : List UInt8) : runP E pattern_Check_a [[.str p0]] = pattern_Check E p0 := by kernel_rfl

def lens_pairs_h2 : Shape := { slots := [(0, .d (.one (.sl 87))), (3, .d lI), (4, .d (.one (.ref 87))), (5, .d lI), (15, .d (.one (.sl 87))), (16, .d lI), (17, .d lI), (22, .d lI), (53, .d (.one (.sl 87))), (54, .d lI), (55, .d lI)], objs := [] }
def lens_pairs_o2 : List (Exit' × Shape) := [(.exit 4, { slots := [(0, .d (.one (.sl 87))), (3, .d lI), (4, .d (.one (.ref 87))), (15, .d (.one (.sl 87))), (16, .d lI), (17, .d lI), (22, .d lI)], objs := [] }), (.ret, { slots := [(2, .d lI)], objs := [] })]
def lens_pairs_c2 : ACode := (.seq (.region [] [oq 56 (.icmp .lss (.t 55) (.t 54))] false 0)
 (.seq (.cond (.t 56) .skip
 (.exit 4))
 (.seq (.block 5 (.seq (.region [] [oq 57 (.iad 87 lA8 (.t 53) (.t 55)),
 oq 58 (.ld lA8 87 (.t 57)),
 oq 8 (.allocO 0 lA8 [.int 0, .int 0, .str [], .nils, .int 0, .int 0, .str [], .nils]),
 ⟨none, .st lA8 (.t 8) (.t 58), none, []⟩] false 1)
 (.seq (.region [(8, 87, some lA8)] [oq 59 (.mov (.t 5)),
 ⟨some 60, .iadA 2 87 25 lA3 (.t 4) (.t 59), none, [0]⟩,
 ⟨some 61, .ld lA3 25 (.t 60), none, [0, 1]⟩,
 oq 62 (.mov (.t 5)),
 ⟨some 63, .iadA 2 87 25 lA3 (.t 8) (.t 62), none, [3]⟩,
 ⟨some 64, .ld lA3 25 (.t 63), none, [3, 4]⟩,
 ⟨some 65, .call 17 [lA3, lA3] [lB] [(.t 61), (.t 64)], none, [0, 1, 2, 3, 4, 5]⟩] true 0)
 (.cond (.t 65) (.seq (.region [] [oq 2 (.mov (.c lI [.int 5]))] false 0)
 .ret)
 .skip))))
 (.region [] [oq 66 (.ibin .add (.t 55) (.c lI [.int 1])),
 oq 55 (.mov (.t 66))] false 0))))
noncomputable def lens_pairs_l2 (E : Env) (v0 : C) (v1 : Int) (v2 : C) (v3 : Int) (v4 : C) (v5 : Int) (v6 : Int) (v7 : Int) (v8 : C) (v9 : Int) (v10 : Int) : Option (Nat × List PV) := E.fix (stepOf E lens_pairs_c2 lens_pairs_h2 lens_pairs_o2) [.r [v0], .r [.int v1], .r [v2], .r [.int v3], .r [v4], .r [.int v5], .r [.int v6], .r [.int v7], .r [v8], .r [.int v9], .r [.int v10]]
noncomputable def lens_pairs_b2 (E : Env) (X : C → Int → C → Int → C → Int → Int → Int → C → Int → Int → Option (Nat × List PV)) (v0 : C) (v1 : Int) (v2 : C) (v3 : Int) (v4 : C) (v5 : Int) (v6 : Int) (v7 : Int) (v8 : C) (v9 : Int) (v10 : Int) : Option (Nat × List PV) :=
 if (decide (v10 < v9)) = true then
 if (0 : Int) ≤ v10 ∧ v10 < (v8.rows.length : Int) then
 if (0 : Int) ≤ v3 ∧ v3 < (2 : Int) ∧ v2.isDp = true then
 if (0 : Int) ≤ v3 ∧ v3 < (2 : Int) ∧ (C.dp (rowsAt v8.rows v10.toNat)).isDp = true then
 (E.pc n_value_Same [[at_ v2.dpRow (v3.toNat * 4), at_ v2.dpRow (v3.toNat * 4 + 1), at_ v2.dpRow (v3.toNat * 4 + 2), at_ v2.dpRow (v3.toNat * 4 + 3)], [at_ (rowsAt v8.rows v10.toNat) (v3.toNat * 4), at_ (rowsAt v8.rows v10.toNat) (v3.toNat * 4 + 1), at_ (rowsAt v8.rows v10.toNat) (v3.toNat * 4 + 2), at_ (rowsAt v8.rows v10.toNat) (v3.toNat * 4 + 3)]]).bind fun y6 =>
 if ((at_ (rowsAt y6 0) 0).toB) = true then
 some (1, [.r [.int 5]])
 else
 X v0 v1 v2 v3 v4 v5 v6 v7 v8 v9 (Go.IntKind.i64.wrap (v10 + 1))
 else none
 else none
 else none
 else
 some (0, [.r [v0], .r [.int v1], .r [v2], .r [v4], .r [.int v5], .r [.int v6], .r [.int v7]])
theorem lens_pairs_s2 (E : Env) (X : List PV → Option (Nat × List PV)) (v0 : C) (v1 : Int) (v2 : C) (v3 : Int) (v4 : C) (v5 : Int) (v6 : Int) (v7 : Int) (v8 : C) (v9 : Int) (v10 : Int) : stepOf E lens_pairs_c2 lens_pairs_h2 lens_pairs_o2 X [.r [v0], .r [.int v1], .r [v2], .r [.int v3], .r [v4], .r [.int v5], .r [.int v6], .r [.int v7], .r [v8], .r [.int v9], .r [.int v10]] = lens_pairs_b2 E (fun (v0 : C) (v1 : Int) (v2 : C) (v3 : Int) (v4 : C) (v5 : Int) (v6 : Int) (v7 : Int) (v8 : C) (v9 : Int) (v10 : Int) => X [.r [v0], .r [.int v1], .r [v2], .r [.int v3], .r [v4], .r [.int v5], .r [.int v6], .r [.int v7], .r [v8], .r [.int v9], .r [.int v10]]) v0 v1 v2 v3 v4 v5 v6 v7 v8 v9 v10 := by kernel_rfl
def lens_pairs_h1 : Shape := { slots := [(0, .d (.one (.sl 87))), (3, .d lI), (4, .d (.one (.ref 87))), (15, .d (.one (.sl 87))), (16, .d lI), (17, .d lI), (22, .d lI)], objs := [] }
def lens_pairs_o1 : List (Exit' × Shape) := [(.exit 2, { slots := [(0, .d (.one (.sl 87))), (15, .d (.one (.sl 87))), (16, .d lI), (17, .d lI)], objs := [] }), (.ret, { slots := [(2, .d lI)], objs := [] })]
def lens_pairs_c1 : ACode := (.seq (.region [] [oq 23 (.icmp .lss (.t 22) (.c lI [.int 2]))] false 0)
 (.seq (.cond (.t 23) .skip
 (.exit 2))
 (.seq (.block 3 (.seq (.region [] [oq 24 (.mov (.t 22)),
 oq 5 (.mov (.t 24))] false 0)
 (.seq (.seq (.region [] [oq 25 (.mov (.t 5)),
 oq 26 (.iadA 2 87 25 lA3 (.t 4) (.t 25)),
 oq 27 (.ld lA3 25 (.t 26)),
 oq 28 (.call 19 [lA3] [lI] [(.t 27)]),
 oq 6 (.mov (.t 28))] false 0)
 (.seq (.region [] [oq 29 (.mov (.t 6)),
 oq 30 (.icmp .neq (.t 29) (.c lI [.int 0]))] false 0)
 (.cond (.t 30) (.seq (.region [] [oq 31 (.mov (.t 6)),
 oq 2 (.mov (.t 31))] false 0)
 .ret)
 .skip)))
 (.seq (.seq (.join [(.normal, { slots := [(0, .d (.one (.sl 87))), (3, .d lI), (4, .d (.one (.ref 87))), (5, .d lI), (15, .d (.one (.sl 87))), (16, .d lI), (17, .d lI), (22, .d lI), (50, .d lB)], objs := [] })] (.region [] [oq 32 (.mov (.t 5)),
 ⟨some 33, .iadA 2 87 25 lA3 (.t 4) (.t 32), none, [0]⟩,
 ⟨some 34, .fad 0 1 25 3 (.t 33), none, [0, 1]⟩,
 ⟨some 35, .ld lI 3 (.t 34), none, [0, 1, 2]⟩,
 ⟨some 36, .call 33 [lI] [lB] [(.t 35)], none, [0, 1, 2, 3]⟩,
 ⟨some 37, .not (.t 36), none, [0, 1, 2, 3, 4]⟩,
 ⟨some 38, .mov (.t 37), none, [0, 1, 2, 3, 4, 5]⟩,
 ⟨some 39, .mov (.t 5), some (38, false), [0, 1, 2, 3, 4, 5, 6]⟩,
 ⟨some 40, .iadA 2 87 25 lA3 (.t 4) (.t 39), some (38, false), [0, 1, 2, 3, 4, 5, 6, 7]⟩,
 ⟨some 41, .fad 0 1 25 3 (.t 40), some (38, false), [0, 1, 2, 3, 4, 5, 6, 7, 8]⟩,
 ⟨some 42, .ld lI 3 (.t 41), some (38, false), [0, 1, 2, 3, 4, 5, 6, 7, 8, 9]⟩,
 ⟨some 43, .mov (.t 0), some (38, false), [0, 1, 2, 3, 4, 5, 6]⟩,
 ⟨some 44, .mov (.t 5), some (38, false), [0, 1, 2, 3, 4, 5, 6]⟩,
 ⟨some 45, .iad 87 lA8 (.t 43) (.c lI [.int 0]), some (38, false), [0, 1, 2, 3, 4, 5, 6, 11]⟩,
 ⟨some 46, .iadA 2 87 25 lA3 (.t 45) (.t 44), some (38, false), [0, 1, 2, 3, 4, 5, 6, 11, 12, 13]⟩,
 ⟨some 47, .fad 0 1 25 3 (.t 46), some (38, false), [0, 1, 2, 3, 4, 5, 6, 11, 12, 13, 14]⟩,
 ⟨some 48, .ld lI 3 (.t 47), some (38, false), [0, 1, 2, 3, 4, 5, 6, 11, 12, 13, 14, 15]⟩,
 ⟨some 49, .icmp .neq (.t 42) (.t 48), some (38, false), [0, 1, 2, 3, 4, 5, 6, 7, 8, 9, 10, 11, 12, 13, 14, 15, 16]⟩,
 ⟨some 50, .pick (.t 38) (.c lB [.bool true]) (.t 49), none, [0, 1, 2, 3, 4, 5, 6, 7, 8, 9, 10, 11, 12, 13, 14, 15, 16, 17]⟩] true 0))
 (.cond (.t 50) (.seq (.region [] [oq 2 (.mov (.c lI [.int 8]))] false 0)
 .ret)
 .skip))
 (.seq (.region [] [oq 51 (.mov (.t 0)),
 oq 52 (.mov (.t 3)),
 oq 53 (.slc 87 lA8 (.t 51) none (some (.t 52))),
 oq 54 (.lenL (.t 53)),
 oq 55 (.mov (.c lI [.int 0]))] false 0)
 (.block 4 (.loop lens_pairs_h2 lens_pairs_o2 lens_pairs_c2)))))))
 (.region [] [oq 67 (.ibin .add (.t 22) (.c lI [.int 1])),
 oq 22 (.mov (.t 67))] false 0))))
noncomputable def lens_pairs_l1 (E : Env) (v0 : C) (v1 : Int) (v2 : C) (v3 : C) (v4 : Int) (v5 : Int) (v6 : Int) : Option (Nat × List PV) := E.fix (stepOf E lens_pairs_c1 lens_pairs_h1 lens_pairs_o1) [.r [v0], .r [.int v1], .r [v2], .r [v3], .r [.int v4], .r [.int v5], .r [.int v6]]
noncomputable def lens_pairs_b1 (E : Env) (X : C → Int → C → C → Int → Int → Int → Option (Nat × List PV)) (v0 : C) (v1 : Int) (v2 : C) (v3 : C) (v4 : Int) (v5 : Int) (v6 : Int) : Option (Nat × List PV) :=
 if (decide (v6 < 2)) = true then
 if (0 : Int) ≤ v6 ∧ v6 < (2 : Int) ∧ v2.isDp = true then
 (E.pc n_value_Check [[at_ v2.dpRow (v6.toNat * 4), at_ v2.dpRow (v6.toNat * 4 + 1), at_ v2.dpRow (v6.toNat * 4 + 2), at_ v2.dpRow (v6.toNat * 4 + 3)]]).bind fun y1 =>
 if (((at_ (rowsAt y1 0) 0).toI) != 0) = true then
 some (1, [.r [.int ((at_ (rowsAt y1 0) 0).toI)]])
 else
 (if (0 : Int) ≤ v6 ∧ v6 < (2 : Int) ∧ v2.isDp = true then
 (E.pc n_lens_Plain [[.int ((at_ v2.dpRow (v6.toNat * 4)).toI)]]).bind fun y2 =>
 let K3 : Bool → Option (Nat × List PV) := fun q4 =>
 some (0, [.r [v0], .r [.int v1], .r [v2], .r [.int v6], .r [v3], .r [.int v4], .r [.int v5], .r [.int v6], .r [.bool q4]])
 if (!((at_ (rowsAt y2 0) 0).toB)) = true then
 K3 true
 else
 if (0 : Int) ≤ v6 ∧ v6 < (2 : Int) ∧ v2.isDp = true then
 if (0 : Int) ≤ 0 ∧ 0 < (v0.rows.length : Int) then
 if (0 : Int) ≤ v6 ∧ v6 < (2 : Int) ∧ (C.dp (rowsAt v0.rows 0)).isDp = true then
 K3 (((at_ v2.dpRow (v6.toNat * 4)).toI) != ((at_ (rowsAt v0.rows 0) (v6.toNat * 4)).toI))
 else none
 else none
 else none
 else none).bind fun x5 =>
 if (gB 8 x5.2) = true then
 some (1, [.r [.int 8]])
 else
 if (0 : Int) ≤ 0 ∧ 0 ≤ (gI 1 x5.2) ∧ (gI 1 x5.2) ≤ (((gC 0 x5.2).rows).length : Int) then
 (lens_pairs_l2 E (gC 0 x5.2) (gI 1 x5.2) (gC 2 x5.2) (gI 3 x5.2) (gC 4 x5.2) (gI 5 x5.2) (gI 6 x5.2) (gI 7 x5.2) (slcC (gC 0 x5.2) 0 (gI 1 x5.2)) (((slcC (gC 0 x5.2) 0 (gI 1 x5.2)).rows).length : Int) 0).bind fun x7 =>
 match x7.1 with
 | 0 =>
 X (gC 0 x7.2) (gI 1 x7.2) (gC 2 x7.2) (gC 3 x7.2) (gI 4 x7.2) (gI 5 x7.2) (Go.IntKind.i64.wrap ((gI 6 x7.2) + 1))
 | i8 + 1 =>
 some (1, [.r [.int (gI 0 x7.2)]])
 else none
 else none
 else
 some (0, [.r [v0], .r [v3], .r [.int v4], .r [.int v5]])
theorem lens_pairs_s1 (E : Env) (X : List PV → Option (Nat × List PV)) (v0 : C) (v1 : Int) (v2 : C) (v3 : C) (v4 : Int) (v5 : Int) (v6 : Int) : stepOf E lens_pairs_c1 lens_pairs_h1 lens_pairs_o1 X [.r [v0], .r [.int v1], .r [v2], .r [v3], .r [.int v4], .r [.int v5], .r [.int v6]] = lens_pairs_b1 E (fun (v0 : C) (v1 : Int) (v2 : C) (v3 : C) (v4 : Int) (v5 : Int) (v6 : Int) => X [.r [v0], .r [.int v1], .r [v2], .r [v3], .r [.int v4], .r [.int v5], .r [.int v6]]) v0 v1 v2 v3 v4 v5 v6 := by kernel_rfl
def lens_pairs_h0 : Shape := { slots := [(0, .d (.one (.sl 87))), (15, .d (.one (.sl 87))), (16, .d lI), (17, .d lI)], objs := [] }
def lens_pairs_o0 : List (Exit' × Shape) := [(.exit 0, { slots := [], objs := [] }), (.ret, { slots := [(2, .d lI)], objs := [] })]
def lens_pairs_c0 : ACode := (.seq (.region [] [oq 18 (.icmp .lss (.t 17) (.t 16))] false 0)
 (.seq (.cond (.t 18) .skip
 (.exit 0))
 (.seq (.block 1 (.seq (.region [] [oq 19 (.mov (.t 17)),
 oq 20 (.iad 87 lA8 (.t 15) (.t 17)),
 oq 21 (.ld lA8 87 (.t 20)),
 oq 4 (.allocO 0 lA8 [.int 0, .int 0, .str [], .nils, .int 0, .int 0, .str [], .nils]),
 oq 3 (.mov (.t 19)),
 ⟨none, .st lA8 (.t 4) (.t 21), none, []⟩] false 1)
 (.seq (.region [(4, 87, some lA8)] [oq 22 (.mov (.c lI [.int 0]))] false 0)
 (.block 2 (.loop lens_pairs_h1 lens_pairs_o1 lens_pairs_c1)))))
 (.region [] [oq 68 (.ibin .add (.t 17) (.c lI [.int 1])),
 oq 17 (.mov (.t 68))] false 0))))
noncomputable def lens_pairs_l0 (E : Env) (v0 : C) (v1 : C) (v2 : Int) (v3 : Int) : Option (Nat × List PV) := E.fix (stepOf E lens_pairs_c0 lens_pairs_h0 lens_pairs_o0) [.r [v0], .r [v1], .r [.int v2], .r [.int v3]]
noncomputable def lens_pairs_b0 (E : Env) (X : C → C → Int → Int → Option (Nat × List PV)) (v0 : C) (v1 : C) (v2 : Int) (v3 : Int) : Option (Nat × List PV) :=
 if (decide (v3 < v2)) = true then
 if (0 : Int) ≤ v3 ∧ v3 < (v1.rows.length : Int) then
 (lens_pairs_l1 E v0 v3 (.dp (rowsAt v1.rows v3.toNat)) v1 v2 v3 0).bind fun x9 =>
 match x9.1 with
 | 0 =>
 X (gC 0 x9.2) (gC 1 x9.2) (gI 2 x9.2) (Go.IntKind.i64.wrap ((gI 3 x9.2) + 1))
 | i10 + 1 =>
 some (1, [.r [.int (gI 0 x9.2)]])
 else none
 else
 some (0, [])
theorem lens_pairs_s0 (E : Env) (X : List PV → Option (Nat × List PV)) (v0 : C) (v1 : C) (v2 : Int) (v3 : Int) : stepOf E lens_pairs_c0 lens_pairs_h0 lens_pairs_o0 X [.r [v0], .r [v1], .r [.int v2], .r [.int v3]] = lens_pairs_b0 E (fun (v0 : C) (v1 : C) (v2 : Int) (v3 : Int) => X [.r [v0], .r [v1], .r [.int v2], .r [.int v3]]) v0 v1 v2 v3 := by kernel_rfl
def lens_pairs_a : AFun := { ps := [(.one (.sl 87))], rs := [lI], res := [(false, 2, none)], body := (.seq (.region [] [oq 2 (.mov (.c lI [.int 0]))] false 0)
 (.seq (.seq (.region [] [oq 9 (.mov (.t 0)),
 oq 10 (.lenL (.t 9)),
 oq 11 (.icmp .eql (.t 10) (.c lI [.int 0]))] false 0)
 (.cond (.t 11) (.seq (.region [] [oq 2 (.mov (.c lI [.int 3]))] false 0)
 .ret)
 .skip))
 (.seq (.seq (.region [] [oq 12 (.mov (.t 0)),
 oq 13 (.lenL (.t 12)),
 oq 14 (.icmp .gtr (.t 13) (.c lI [.int 40]))] false 0)
 (.cond (.t 14) (.seq (.region [] [oq 2 (.mov (.c lI [.int 2]))] false 0)
 .ret)
 .skip))
 (.seq (.seq (.region [] [oq 15 (.mov (.t 0)),
 oq 16 (.lenL (.t 15)),
 oq 17 (.mov (.c lI [.int 0]))] false 0)
 (.block 0 (.loop lens_pairs_h0 lens_pairs_o0 lens_pairs_c0)))
 (.seq (.region [] [oq 2 (.mov (.c lI [.int 0]))] false 0)
 .ret))))) }
/-- clapperbridge/lens.pairs -/
noncomputable def lens_pairs (E : Env) (p0 : C) : Option (List Row) :=
 if ((p0.rows.length : Int) == 0) = true then
 some [[.int 3]]
 else
 if (decide ((p0.rows.length : Int) > 40)) = true then
 some [[.int 2]]
 else
 (lens_pairs_l0 E p0 p0 (p0.rows.length : Int) 0).bind fun x11 =>
 match x11.1 with
 | 0 =>
 some [[.int 0]]
 | i12 + 1 =>
 some [[.int (gI 0 x11.2)]]
theorem lens_pairs_eq (E : Env) (p0 : C) : runP E lens_pairs_a [[p0]] = lens_pairs E p0 := by kernel_rfl
end Go.Ev
