/-
  A part of the proof: what the functions of the program compute.
-/
import Derived.Test.YtgfpahfegbmoeaaZNum
set_option linter.all false
set_option maxRecDepth 100000
namespace Go.Ev
def clapref3_Kept_h1 : Shape := { slots := [(0, .d (.one (.sl 37))), (1, .d lI), (10, .sw 0), (11, .sw 1), (12, .d lI), (13, .d lI), (27, .d lI), (28, .d lI), (31, .d (.one (.sl 37))), (32, .d lI), (33, .d lI)], objs := bS0 }
def clapref3_Kept_o1 : List (Exit' × Shape) := [(.exit 2, { slots := [(0, .d (.one (.sl 37))), (1, .d lI), (10, .sw 0), (11, .sw 1), (13, .d lI), (27, .d lI), (28, .d lI)], objs := bS0 })]
def clapref3_Kept_c1 : ACode := (.seq (.region [] [oq 34 (.icmp .lss (.t 33) (.t 32))] false 0)
 (.seq (.cond (.t 34) .skip
 (.exit 2))
 (.seq (.block 3 (.seq (.region [] [oq 35 (.iad 37 lA2 (.t 31) (.t 33)),
 oq 36 (.ld lA2 37 (.t 35)),
 oq 15 (.allocO 0 lA2 [.int 0, .int 0]),
 ⟨none, .st lA2 (.t 15) (.t 36), none, []⟩] false 1)
 (.seq (.region [] [oq 37 (.fad 1 1 37 3 (.t 15)),
 oq 38 (.ld lI 3 (.t 37)),
 oq 39 (.mov (.t 12)),
 oq 40 (.icmp .eql (.t 38) (.t 39))] false 0)
 (.cond (.t 40) (.region [] [oq 41 (.fad 0 1 37 3 (.t 15)),
 oq 42 (.ld lI 3 (.t 41)),
 oq 13 (.mov (.t 42))] false 0)
 .skip))))
 (.region [] [oq 43 (.ibin .add (.t 33) (.c lI [.int 1])),
 oq 33 (.mov (.t 43))] false 0))))
noncomputable def clapref3_Kept_l1 (E : Env) (v0 : C) (v1 : Int) (v2 : Int) (v3 : Int) (v4 : Int) (v5 : Int) (v6 : C) (v7 : Int) (v8 : Int) (v9 : C) (v10 : C) : Option (Nat × List PV) := E.fix (stepOf E clapref3_Kept_c1 clapref3_Kept_h1 clapref3_Kept_o1) [.r [v0], .r [.int v1], .r [.int v2], .r [.int v3], .r [.int v4], .r [.int v5], .r [v6], .r [.int v7], .r [.int v8], .r [v9], .r [v10]]
noncomputable def clapref3_Kept_b1 (E : Env) (X : C → Int → Int → Int → Int → Int → C → Int → Int → C → C → Option (Nat × List PV)) (v0 : C) (v1 : Int) (v2 : Int) (v3 : Int) (v4 : Int) (v5 : Int) (v6 : C) (v7 : Int) (v8 : Int) (v9 : C) (v10 : C) : Option (Nat × List PV) :=
 if (decide (v8 < v7)) = true then
 if (0 : Int) ≤ v8 ∧ v8 < (v6.rows.length : Int) then
 if (((at_ (rowsAt v6.rows v8.toNat) 1).toI) == v2) = true then
 X v0 v1 v2 ((at_ (rowsAt v6.rows v8.toNat) 0).toI) v4 v5 v6 v7 (Go.IntKind.i64.wrap (v8 + 1)) v9 v10
 else
 X v0 v1 v2 v3 v4 v5 v6 v7 (Go.IntKind.i64.wrap (v8 + 1)) v9 v10
 else none
 else
 some (0, [.r [v0], .r [.int v1], .r [.int v3], .r [.int v4], .r [.int v5], .r [v9], .r [v10]])
theorem clapref3_Kept_s1 (E : Env) (X : List PV → Option (Nat × List PV)) (v0 : C) (v1 : Int) (v2 : Int) (v3 : Int) (v4 : Int) (v5 : Int) (v6 : C) (v7 : Int) (v8 : Int) (v9 : C) (v10 : C) : stepOf E clapref3_Kept_c1 clapref3_Kept_h1 clapref3_Kept_o1 X [.r [v0], .r [.int v1], .r [.int v2], .r [.int v3], .r [.int v4], .r [.int v5], .r [v6], .r [.int v7], .r [.int v8], .r [v9], .r [v10]] = clapref3_Kept_b1 E (fun (v0 : C) (v1 : Int) (v2 : Int) (v3 : Int) (v4 : Int) (v5 : Int) (v6 : C) (v7 : Int) (v8 : Int) (v9 : C) (v10 : C) => X [.r [v0], .r [.int v1], .r [.int v2], .r [.int v3], .r [.int v4], .r [.int v5], .r [v6], .r [.int v7], .r [.int v8], .r [v9], .r [v10]]) v0 v1 v2 v3 v4 v5 v6 v7 v8 v9 v10 := by kernel_rfl
def clapref3_Kept_h0 : Shape := { slots := [(0, .d (.one (.sl 37))), (1, .d lI), (10, .sw 0), (11, .sw 1), (27, .d lI), (28, .d lI)], objs := bS0 }
def clapref3_Kept_o0 : List (Exit' × Shape) := [(.exit 0, { slots := [(0, .d (.one (.sl 37))), (1, .d lI), (10, .sw 0), (11, .sw 1)], objs := bS0 })]
def clapref3_Kept_c0 : ACode := (.seq (.region [] [oq 29 (.icmp .lss (.t 28) (.t 27))] false 0)
 (.seq (.cond (.t 29) .skip
 (.exit 0))
 (.seq (.block 1 (.seq (.region [] [oq 30 (.mov (.t 28)),
 oq 12 (.mov (.t 30))] false 0)
 (.seq (.region [] [oq 13 (.mov (.c lI [.int (-1)]))] false 0)
 (.seq (.seq (.region [] [oq 31 (.mov (.t 0)),
 oq 32 (.lenL (.t 31)),
 oq 33 (.mov (.c lI [.int 0]))] false 0)
 (.block 2 (.loop clapref3_Kept_h1 clapref3_Kept_o1 clapref3_Kept_c1)))
 (.region [] [oq 44 (.mov (.t 10)),
 oq 45 (.mov (.t 13)),
 oq 46 (.bsl 3 lI 1 [.int 0] [(0, (.t 45))]),
 oq 47 (.appW 0 3 lI 8 (.t 44) (.t 46)),
 oq 10 (.mov (.t 47))] false 1)))))
 (.region [] [oq 48 (.ibin .add (.t 28) (.c lI [.int 1])),
 oq 28 (.mov (.t 48))] false 0))))
noncomputable def clapref3_Kept_l0 (E : Env) (v0 : C) (v1 : Int) (v2 : Int) (v3 : Int) (v4 : C) (v5 : C) : Option (Nat × List PV) := E.fix (stepOf E clapref3_Kept_c0 clapref3_Kept_h0 clapref3_Kept_o0) [.r [v0], .r [.int v1], .r [.int v2], .r [.int v3], .r [v4], .r [v5]]
noncomputable def clapref3_Kept_b0 (E : Env) (X : C → Int → Int → Int → C → C → Option (Nat × List PV)) (v0 : C) (v1 : Int) (v2 : Int) (v3 : Int) (v4 : C) (v5 : C) : Option (Nat × List PV) :=
 if (decide (v3 < v2)) = true then
 (clapref3_Kept_l1 E v0 v1 v3 (-1) v2 v3 v0 (v0.rows.length : Int) 0 v4 v5).bind fun x2 =>
 if (((gC 5 x2.2).rows).length + ([[.int (gI 2 x2.2)]] : List Row).length) * 8 ≤ 140737488355328 then
 X (gC 0 x2.2) (gI 1 x2.2) (gI 3 x2.2) (Go.IntKind.i64.wrap ((gI 4 x2.2) + 1)) (appC (gC 5 x2.2) ([[.int (gI 2 x2.2)]] : List Row)) (gC 6 x2.2)
 else none
 else
 some (0, [.r [v0], .r [.int v1], .r [v4], .r [v5]])
theorem clapref3_Kept_s0 (E : Env) (X : List PV → Option (Nat × List PV)) (v0 : C) (v1 : Int) (v2 : Int) (v3 : Int) (v4 : C) (v5 : C) : stepOf E clapref3_Kept_c0 clapref3_Kept_h0 clapref3_Kept_o0 X [.r [v0], .r [.int v1], .r [.int v2], .r [.int v3], .r [v4], .r [v5]] = clapref3_Kept_b0 E (fun (v0 : C) (v1 : Int) (v2 : Int) (v3 : Int) (v4 : C) (v5 : C) => X [.r [v0], .r [.int v1], .r [.int v2], .r [.int v3], .r [v4], .r [v5]]) v0 v1 v2 v3 v4 v5 := by kernel_rfl
def clapref3_Kept_h3 : Shape := { slots := [(0, .d (.one (.sl 37))), (10, .sw 0), (11, .sw 1), (16, .d lI), (17, .d lB), (49, .d lI), (50, .d lI), (53, .d (.one (.sl 37))), (54, .d lI), (55, .d lI)], objs := bS0 }
def clapref3_Kept_o3 : List (Exit' × Shape) := [(.exit 6, { slots := [(0, .d (.one (.sl 37))), (10, .sw 0), (11, .sw 1), (16, .d lI), (17, .d lB), (49, .d lI), (50, .d lI)], objs := bS0 })]
def clapref3_Kept_c3 : ACode := (.seq (.region [] [oq 56 (.icmp .lss (.t 55) (.t 54))] false 0)
 (.seq (.cond (.t 56) .skip
 (.exit 6))
 (.seq (.block 7 (.seq (.region [] [oq 57 (.iad 37 lA2 (.t 53) (.t 55)),
 oq 58 (.ld lA2 37 (.t 57)),
 oq 19 (.allocO 0 lA2 [.int 0, .int 0]),
 ⟨none, .st lA2 (.t 19) (.t 58), none, []⟩] false 1)
 (.region [] [oq 59 (.mov (.t 17)),
 oq 60 (.mov (.t 59)),
 ⟨some 61, .fad 0 1 37 3 (.t 19), some (60, false), []⟩,
 ⟨some 62, .ld lI 3 (.t 61), some (60, false), []⟩,
 ⟨some 63, .mov (.t 16), some (60, false), []⟩,
 ⟨some 64, .icmp .eql (.t 62) (.t 63), some (60, false), []⟩,
 oq 65 (.pick (.t 60) (.c lB [.bool true]) (.t 64)),
 oq 17 (.mov (.t 65))] false 0)))
 (.region [] [oq 66 (.ibin .add (.t 55) (.c lI [.int 1])),
 oq 55 (.mov (.t 66))] false 0))))
noncomputable def clapref3_Kept_l3 (E : Env) (v0 : C) (v1 : Int) (v2 : Bool) (v3 : Int) (v4 : Int) (v5 : C) (v6 : Int) (v7 : Int) (v8 : C) (v9 : C) : Option (Nat × List PV) := E.fix (stepOf E clapref3_Kept_c3 clapref3_Kept_h3 clapref3_Kept_o3) [.r [v0], .r [.int v1], .r [.bool v2], .r [.int v3], .r [.int v4], .r [v5], .r [.int v6], .r [.int v7], .r [v8], .r [v9]]
noncomputable def clapref3_Kept_b3 (E : Env) (X : C → Int → Bool → Int → Int → C → Int → Int → C → C → Option (Nat × List PV)) (v0 : C) (v1 : Int) (v2 : Bool) (v3 : Int) (v4 : Int) (v5 : C) (v6 : Int) (v7 : Int) (v8 : C) (v9 : C) : Option (Nat × List PV) :=
 if (decide (v7 < v6)) = true then
 if (0 : Int) ≤ v7 ∧ v7 < (v5.rows.length : Int) then
 let K4 : Bool → Option (Nat × List PV) := fun q5 =>
 X v0 v1 q5 v3 v4 v5 v6 (Go.IntKind.i64.wrap (v7 + 1)) v8 v9
 if v2 = true then
 K4 true
 else
 K4 (((at_ (rowsAt v5.rows v7.toNat) 0).toI) == v1)
 else none
 else
 some (0, [.r [v0], .r [.int v1], .r [.bool v2], .r [.int v3], .r [.int v4], .r [v8], .r [v9]])
theorem clapref3_Kept_s3 (E : Env) (X : List PV → Option (Nat × List PV)) (v0 : C) (v1 : Int) (v2 : Bool) (v3 : Int) (v4 : Int) (v5 : C) (v6 : Int) (v7 : Int) (v8 : C) (v9 : C) : stepOf E clapref3_Kept_c3 clapref3_Kept_h3 clapref3_Kept_o3 X [.r [v0], .r [.int v1], .r [.bool v2], .r [.int v3], .r [.int v4], .r [v5], .r [.int v6], .r [.int v7], .r [v8], .r [v9]] = clapref3_Kept_b3 E (fun (v0 : C) (v1 : Int) (v2 : Bool) (v3 : Int) (v4 : Int) (v5 : C) (v6 : Int) (v7 : Int) (v8 : C) (v9 : C) => X [.r [v0], .r [.int v1], .r [.bool v2], .r [.int v3], .r [.int v4], .r [v5], .r [.int v6], .r [.int v7], .r [v8], .r [v9]]) v0 v1 v2 v3 v4 v5 v6 v7 v8 v9 := by kernel_rfl
def clapref3_Kept_h2 : Shape := { slots := [(0, .d (.one (.sl 37))), (10, .sw 0), (11, .sw 1), (49, .d lI), (50, .d lI)], objs := bS0 }
def clapref3_Kept_o2 : List (Exit' × Shape) := [(.exit 4, { slots := [(10, .sw 0), (11, .sw 1)], objs := bS0 })]
def clapref3_Kept_c2 : ACode := (.seq (.region [] [oq 51 (.icmp .lss (.t 50) (.t 49))] false 0)
 (.seq (.cond (.t 51) .skip
 (.exit 4))
 (.seq (.block 5 (.seq (.region [] [oq 52 (.mov (.t 50)),
 oq 16 (.mov (.t 52))] false 0)
 (.seq (.region [] [oq 17 (.mov (.c lB [.bool false]))] false 0)
 (.seq (.seq (.region [] [oq 53 (.mov (.t 0)),
 oq 54 (.lenL (.t 53)),
 oq 55 (.mov (.c lI [.int 0]))] false 0)
 (.block 6 (.loop clapref3_Kept_h3 clapref3_Kept_o3 clapref3_Kept_c3)))
 (.seq (.region [] [oq 67 (.mov (.t 17)),
 oq 68 (.not (.t 67))] false 0)
 (.cond (.t 68) (.region [] [oq 69 (.mov (.t 11)),
 oq 70 (.mov (.t 16)),
 oq 71 (.bsl 3 lI 1 [.int 0] [(0, (.t 70))]),
 oq 72 (.appW 0 3 lI 8 (.t 69) (.t 71)),
 oq 11 (.mov (.t 72))] false 1)
 .skip))))))
 (.region [] [oq 73 (.ibin .add (.t 50) (.c lI [.int 1])),
 oq 50 (.mov (.t 73))] false 0))))
noncomputable def clapref3_Kept_l2 (E : Env) (v0 : C) (v1 : Int) (v2 : Int) (v3 : C) (v4 : C) : Option (Nat × List PV) := E.fix (stepOf E clapref3_Kept_c2 clapref3_Kept_h2 clapref3_Kept_o2) [.r [v0], .r [.int v1], .r [.int v2], .r [v3], .r [v4]]
noncomputable def clapref3_Kept_b2 (E : Env) (X : C → Int → Int → C → C → Option (Nat × List PV)) (v0 : C) (v1 : Int) (v2 : Int) (v3 : C) (v4 : C) : Option (Nat × List PV) :=
 if (decide (v2 < v1)) = true then
 (clapref3_Kept_l3 E v0 v2 false v1 v2 v0 (v0.rows.length : Int) 0 v3 v4).bind fun x6 =>
 if (!(gB 2 x6.2)) = true then
 if (((gC 6 x6.2).rows).length + ([[.int (gI 1 x6.2)]] : List Row).length) * 8 ≤ 140737488355328 then
 X (gC 0 x6.2) (gI 3 x6.2) (Go.IntKind.i64.wrap ((gI 4 x6.2) + 1)) (gC 5 x6.2) (appC (gC 6 x6.2) ([[.int (gI 1 x6.2)]] : List Row))
 else none
 else
 X (gC 0 x6.2) (gI 3 x6.2) (Go.IntKind.i64.wrap ((gI 4 x6.2) + 1)) (gC 5 x6.2) (gC 6 x6.2)
 else
 some (0, [.r [v3], .r [v4]])
theorem clapref3_Kept_s2 (E : Env) (X : List PV → Option (Nat × List PV)) (v0 : C) (v1 : Int) (v2 : Int) (v3 : C) (v4 : C) : stepOf E clapref3_Kept_c2 clapref3_Kept_h2 clapref3_Kept_o2 X [.r [v0], .r [.int v1], .r [.int v2], .r [v3], .r [v4]] = clapref3_Kept_b2 E (fun (v0 : C) (v1 : Int) (v2 : Int) (v3 : C) (v4 : C) => X [.r [v0], .r [.int v1], .r [.int v2], .r [v3], .r [v4]]) v0 v1 v2 v3 v4 := by kernel_rfl
def clapref3_Kept_a : AFun := { ps := [(.one (.sl 37)), lI, lI], rs := [(.one (.sl 3)), (.one (.sl 3)), lI], res := [(false, 6, (some lI)), (false, 7, (some lI)), (false, 8, none)], body := (.seq (.region [] [oq 6 (.mov (.c (.one (.sl 3)) [.nils])),
 oq 7 (.mov (.c (.one (.sl 3)) [.nils])),
 oq 8 (.mov (.c lI [.int 0]))] false 0)
 (.seq (.seq (.region [] [oq 20 (.mov (.t 0)),
 oq 21 (.mov (.t 1)),
 oq 22 (.mov (.t 2)),
 oq 23 (.call 9 [(.one (.sl 37)), lI, lI] [lI] [(.t 20), (.t 21), (.t 22)]),
 oq 9 (.mov (.t 23))] false 0)
 (.seq (.region [] [oq 24 (.mov (.t 9)),
 oq 25 (.icmp .neq (.t 24) (.c lI [.int 0]))] false 0)
 (.cond (.t 25) (.seq (.region [] [oq 26 (.mov (.t 9)),
 oq 6 (.mov (.c (.one (.sl 3)) [.nils])),
 oq 7 (.mov (.c (.one (.sl 3)) [.nils])),
 oq 8 (.mov (.t 26))] false 0)
 .ret)
 .skip)))
 (.seq (.region [] [oq 10 (.nilS 0 3 lI),
 oq 11 (.nilS 1 3 lI)] false 2)
 (.seq (.seq (.region [] [oq 27 (.mov (.t 2)),
 oq 28 (.mov (.c lI [.int 0]))] false 0)
 (.block 0 (.loop clapref3_Kept_h0 clapref3_Kept_o0 clapref3_Kept_c0)))
 (.seq (.seq (.region [] [oq 49 (.mov (.t 1)),
 oq 50 (.mov (.c lI [.int 0]))] false 0)
 (.block 4 (.loop clapref3_Kept_h2 clapref3_Kept_o2 clapref3_Kept_c2)))
 (.seq (.region [] [oq 74 (.mov (.t 10)),
 oq 75 (.mov (.t 11)),
 oq 6 (.mov (.t 74)),
 oq 7 (.mov (.t 75)),
 oq 8 (.mov (.c lI [.int 0]))] false 0)
 .ret)))))) }
noncomputable def clapref3_Kept (E : Env) (p0 : C) (p1 : Int) (p2 : Int) : Option (List Row) :=
 (E.pc n_clapref3_Aligned [[p0], [.int p1], [.int p2]]).bind fun y1 =>
 if (((at_ (rowsAt y1 0) 0).toI) != 0) = true then
 some [[.nils], [.nils], [.int ((at_ (rowsAt y1 0) 0).toI)]]
 else
 (clapref3_Kept_l0 E p0 p1 p2 0 .nils .nils).bind fun x3 =>
 (clapref3_Kept_l2 E (gC 0 x3.2) (gI 1 x3.2) 0 (gC 2 x3.2) (gC 3 x3.2)).bind fun x7 =>
 some [[gC 0 x7.2], [gC 1 x7.2], [.int 0]]
theorem clapref3_Kept_eq (E : Env) (p0 : C) (p1 : Int) (p2 : Int) : runP E clapref3_Kept_a [[p0], [.int p1], [.int p2]] = clapref3_Kept E p0 p1 p2 := by kernel_rfl

def slices_Equal_int_h0 : Shape := { slots := [(0, .d (.one (.sl 3))), (1, .d (.one (.sl 3))), (12, .d lI), (13, .d lI)], objs := [] }
def slices_Equal_int_o0 : List (Exit' × Shape) := [(.exit 0, { slots := [], objs := [] }), (.ret, { slots := [(4, .d lB)], objs := [] })]
def slices_Equal_int_c0 : ACode := (.seq (.region [] [oq 14 (.icmp .lss (.t 13) (.t 12))] false 0)
 (.seq (.cond (.t 14) .skip
 (.exit 0))
 (.seq (.block 1 (.seq (.region [] [oq 15 (.mov (.t 13)),
 oq 5 (.mov (.t 15))] false 0)
 (.seq (.region [] [oq 16 (.mov (.t 0)),
 oq 17 (.mov (.t 5)),
 ⟨some 18, .iad 3 lI (.t 16) (.t 17), none, [0, 1]⟩,
 ⟨some 19, .ld lI 3 (.t 18), none, [0, 1, 2]⟩,
 oq 20 (.mov (.t 1)),
 oq 21 (.mov (.t 5)),
 ⟨some 22, .iad 3 lI (.t 20) (.t 21), none, [4, 5]⟩,
 ⟨some 23, .ld lI 3 (.t 22), none, [4, 5, 6]⟩,
 ⟨some 24, .icmp .neq (.t 19) (.t 23), none, [0, 1, 2, 3, 4, 5, 6, 7]⟩] true 0)
 (.cond (.t 24) (.seq (.region [] [oq 4 (.mov (.c lB [.bool false]))] false 0)
 .ret)
 .skip))))
 (.region [] [oq 25 (.ibin .add (.t 13) (.c lI [.int 1])),
 oq 13 (.mov (.t 25))] false 0))))
noncomputable def slices_Equal_int_l0 (E : Env) (v0 : C) (v1 : C) (v2 : Int) (v3 : Int) : Option (Nat × List PV) := E.fix (stepOf E slices_Equal_int_c0 slices_Equal_int_h0 slices_Equal_int_o0) [.r [v0], .r [v1], .r [.int v2], .r [.int v3]]
noncomputable def slices_Equal_int_b0 (E : Env) (X : C → C → Int → Int → Option (Nat × List PV)) (v0 : C) (v1 : C) (v2 : Int) (v3 : Int) : Option (Nat × List PV) :=
 if (decide (v3 < v2)) = true then
 if (0 : Int) ≤ v3 ∧ v3 < (v0.rows.length : Int) then
 if (0 : Int) ≤ v3 ∧ v3 < (v1.rows.length : Int) then
 if (((at_ (rowsAt v0.rows v3.toNat) 0).toI) != ((at_ (rowsAt v1.rows v3.toNat) 0).toI)) = true then
 some (1, [.r [.bool false]])
 else
 X v0 v1 v2 (Go.IntKind.i64.wrap (v3 + 1))
 else none
 else none
 else
 some (0, [])
theorem slices_Equal_int_s0 (E : Env) (X : List PV → Option (Nat × List PV)) (v0 : C) (v1 : C) (v2 : Int) (v3 : Int) : stepOf E slices_Equal_int_c0 slices_Equal_int_h0 slices_Equal_int_o0 X [.r [v0], .r [v1], .r [.int v2], .r [.int v3]] = slices_Equal_int_b0 E (fun (v0 : C) (v1 : C) (v2 : Int) (v3 : Int) => X [.r [v0], .r [v1], .r [.int v2], .r [.int v3]]) v0 v1 v2 v3 := by kernel_rfl
def slices_Equal_int_a : AFun := { ps := [(.one (.sl 3)), (.one (.sl 3))], rs := [lB], res := [(false, 4, none)], body := (.seq (.region [] [oq 4 (.mov (.c lB [.bool false]))] false 0)
 (.seq (.seq (.region [] [oq 6 (.mov (.t 0)),
 oq 7 (.lenL (.t 6)),
 oq 8 (.mov (.t 1)),
 oq 9 (.lenL (.t 8)),
 oq 10 (.icmp .neq (.t 7) (.t 9))] false 0)
 (.cond (.t 10) (.seq (.region [] [oq 4 (.mov (.c lB [.bool false]))] false 0)
 .ret)
 .skip))
 (.seq (.seq (.region [] [oq 11 (.mov (.t 0)),
 oq 12 (.lenL (.t 11)),
 oq 13 (.mov (.c lI [.int 0]))] false 0)
 (.block 0 (.loop slices_Equal_int_h0 slices_Equal_int_o0 slices_Equal_int_c0)))
 (.seq (.region [] [oq 4 (.mov (.c lB [.bool true]))] false 0)
 .ret)))) }
noncomputable def slices_Equal_int (E : Env) (p0 : C) (p1 : C) : Option (List Row) :=
 if ((p0.rows.length : Int) != (p1.rows.length : Int)) = true then
 some [[.bool false]]
 else
 (slices_Equal_int_l0 E p0 p1 (p0.rows.length : Int) 0).bind fun x1 =>
 match x1.1 with
 | 0 =>
 some [[.bool true]]
 | i2 + 1 =>
 some [[.bool (gB 0 x1.2)]]
theorem slices_Equal_int_eq (E : Env) (p0 : C) (p1 : C) : runP E slices_Equal_int_a [[p0], [p1]] = slices_Equal_int E p0 p1 := by kernel_rfl

def slices_Equal_clapref3_Two_h0 : Shape := { slots := [(0, .d (.one (.sl 37))), (1, .d (.one (.sl 37))), (12, .d lI), (13, .d lI)], objs := [] }
def slices_Equal_clapref3_Two_o0 : List (Exit' × Shape) := [(.exit 0, { slots := [], objs := [] }), (.ret, { slots := [(4, .d lB)], objs := [] })]
def slices_Equal_clapref3_Two_c0 : ACode := (.seq (.region [] [oq 14 (.icmp .lss (.t 13) (.t 12))] false 0)
 (.seq (.cond (.t 14) .skip
 (.exit 0))
 (.seq (.block 1 (.seq (.region [] [oq 15 (.mov (.t 13)),
 oq 5 (.mov (.t 15))] false 0)
 (.seq (.region [] [oq 16 (.mov (.t 0)),
 oq 17 (.mov (.t 5)),
 ⟨some 18, .iad 37 lA2 (.t 16) (.t 17), none, [0, 1]⟩,
 ⟨some 19, .ld lA2 37 (.t 18), none, [0, 1, 2]⟩,
 oq 20 (.mov (.t 1)),
 oq 21 (.mov (.t 5)),
 ⟨some 22, .iad 37 lA2 (.t 20) (.t 21), none, [4, 5]⟩,
 ⟨some 23, .ld lA2 37 (.t 22), none, [4, 5, 6]⟩,
 ⟨some 24, .aeq true lA2 (.t 19) (.t 23), none, [0, 1, 2, 3, 4, 5, 6, 7]⟩] true 0)
 (.cond (.t 24) (.seq (.region [] [oq 4 (.mov (.c lB [.bool false]))] false 0)
 .ret)
 .skip))))
 (.region [] [oq 25 (.ibin .add (.t 13) (.c lI [.int 1])),
 oq 13 (.mov (.t 25))] false 0))))
noncomputable def slices_Equal_clapref3_Two_l0 (E : Env) (v0 : C) (v1 : C) (v2 : Int) (v3 : Int) : Option (Nat × List PV) := E.fix (stepOf E slices_Equal_clapref3_Two_c0 slices_Equal_clapref3_Two_h0 slices_Equal_clapref3_Two_o0) [.r [v0], .r [v1], .r [.int v2], .r [.int v3]]
noncomputable def slices_Equal_clapref3_Two_b0 (E : Env) (X : C → C → Int → Int → Option (Nat × List PV)) (v0 : C) (v1 : C) (v2 : Int) (v3 : Int) : Option (Nat × List PV) :=
 if (decide (v3 < v2)) = true then
 if (0 : Int) ≤ v3 ∧ v3 < (v0.rows.length : Int) then
 if (0 : Int) ≤ v3 ∧ v3 < (v1.rows.length : Int) then
 if (!(ceq [.int .i64, .int .i64] (rowsAt v0.rows v3.toNat) (rowsAt v1.rows v3.toNat))) = true then
 some (1, [.r [.bool false]])
 else
 X v0 v1 v2 (Go.IntKind.i64.wrap (v3 + 1))
 else none
 else none
 else
 some (0, [])
theorem slices_Equal_clapref3_Two_s0 (E : Env) (X : List PV → Option (Nat × List PV)) (v0 : C) (v1 : C) (v2 : Int) (v3 : Int) : stepOf E slices_Equal_clapref3_Two_c0 slices_Equal_clapref3_Two_h0 slices_Equal_clapref3_Two_o0 X [.r [v0], .r [v1], .r [.int v2], .r [.int v3]] = slices_Equal_clapref3_Two_b0 E (fun (v0 : C) (v1 : C) (v2 : Int) (v3 : Int) => X [.r [v0], .r [v1], .r [.int v2], .r [.int v3]]) v0 v1 v2 v3 := by kernel_rfl
def slices_Equal_clapref3_Two_a : AFun := { ps := [(.one (.sl 37)), (.one (.sl 37))], rs := [lB], res := [(false, 4, none)], body := (.seq (.region [] [oq 4 (.mov (.c lB [.bool false]))] false 0)
 (.seq (.seq (.region [] [oq 6 (.mov (.t 0)),
 oq 7 (.lenL (.t 6)),
 oq 8 (.mov (.t 1)),
 oq 9 (.lenL (.t 8)),
 oq 10 (.icmp .neq (.t 7) (.t 9))] false 0)
 (.cond (.t 10) (.seq (.region [] [oq 4 (.mov (.c lB [.bool false]))] false 0)
 .ret)
 .skip))
 (.seq (.seq (.region [] [oq 11 (.mov (.t 0)),
 oq 12 (.lenL (.t 11)),
 oq 13 (.mov (.c lI [.int 0]))] false 0)
 (.block 0 (.loop slices_Equal_clapref3_Two_h0 slices_Equal_clapref3_Two_o0 slices_Equal_clapref3_Two_c0)))
 (.seq (.region [] [oq 4 (.mov (.c lB [.bool true]))] false 0)
 .ret)))) }
noncomputable def slices_Equal_clapref3_Two (E : Env) (p0 : C) (p1 : C) : Option (List Row) :=
 if ((p0.rows.length : Int) != (p1.rows.length : Int)) = true then
 some [[.bool false]]
 else
 (slices_Equal_clapref3_Two_l0 E p0 p1 (p0.rows.length : Int) 0).bind fun x1 =>
 match x1.1 with
 | 0 =>
 some [[.bool true]]
 | i2 + 1 =>
 some [[.bool (gB 0 x1.2)]]
theorem slices_Equal_clapref3_Two_eq (E : Env) (p0 : C) (p1 : C) : runP E slices_Equal_clapref3_Two_a [[p0], [p1]] = slices_Equal_clapref3_Two E p0 p1 := by kernel_rfl

def align_Invert_1_a : AFun := { ps := [lA2, lA2], rs := [lI], res := [(false, 4, none)], body := (.seq (.region [] [oq 2 (.boxP lA2 27 (.t 0)),
 oq 3 (.boxP lA2 27 (.t 1)),
 oq 4 (.mov (.c lI [.int 0]))] false 0)
 (.seq (.region [] [oq 5 (.fad 1 1 27 3 (.t 2)),
 oq 6 (.ld lI 3 (.t 5)),
 oq 7 (.fad 1 1 27 3 (.t 3)),
 oq 8 (.ld lI 3 (.t 7)),
 oq 9 (.call 22 [lI, lI] [lI] [(.t 6), (.t 8)]),
 oq 4 (.mov (.t 9))] false 0)
 .ret)) }
noncomputable def align_Invert_1 (E : Env) (p0 : Row) (p1 : Row) : Option (List Row) :=
 (E.pc n_cmp_Compare_int [[.int ((at_ p0 1).toI)], [.int ((at_ p1 1).toI)]]).bind fun y1 =>
 some [[.int ((at_ (rowsAt y1 0) 0).toI)]]
theorem align_Invert_1_eq (E : Env) (p0 : Row) (p1 : Row) : runP E align_Invert_1_a [p0, p1] = align_Invert_1 E p0 p1 := by kernel_rfl

def slices_insertionSortCmpFunc_align_Pair_i2_h1 : Shape := { slots := [(0, .hol 0), (1, .d lI), (2, .d lI), (3, .d (.one (.fn 55))), (8, .d lI), (9, .d lI)], objs := [.hol lA2 (.agg [])], m := 1 }
def slices_insertionSortCmpFunc_align_Pair_i2_o1 : List (Exit' × Shape) := [(.exit 2, { slots := [(0, .hol 0), (1, .d lI), (2, .d lI), (3, .d (.one (.fn 55))), (8, .d lI)], objs := [.hol lA2 (.agg [])], m := 1 })]
def slices_insertionSortCmpFunc_align_Pair_i2_c1 : ACode := (.seq (.seq (.join [(.normal, { slots := [(0, .hol 0), (1, .d lI), (2, .d lI), (3, .d (.one (.fn 55))), (8, .d lI), (9, .d lI), (34, .d lB)], objs := [.hol lA2 (.agg [])], m := 1 })] (.region [] [oq 18 (.mov (.t 9)),
 oq 19 (.mov (.t 1)),
 ⟨some 20, .icmp .gtr (.t 18) (.t 19), none, [0, 1]⟩,
 ⟨some 21, .mov (.t 20), none, [0, 1, 2]⟩,
 ⟨some 22, .mov (.t 3), some (21, true), [0, 1, 2, 3]⟩,
 ⟨some 23, .mov (.t 0), some (21, true), [0, 1, 2, 3]⟩,
 ⟨some 24, .mov (.t 9), some (21, true), [0, 1, 2, 3]⟩,
 ⟨some 25, .iad 27 lA2 (.t 23) (.t 24), some (21, true), [0, 1, 2, 3, 5, 6]⟩,
 ⟨some 26, .ldH false lA2 (.t 25), some (21, true), [0, 1, 2, 3, 5, 6, 7]⟩,
 ⟨some 27, .mov (.t 0), some (21, true), [0, 1, 2, 3]⟩,
 ⟨some 28, .mov (.t 9), some (21, true), [0, 1, 2, 3]⟩,
 ⟨some 29, .ibin .sub (.t 28) (.c lI [.int 1]), some (21, true), [0, 1, 2, 3, 10]⟩,
 ⟨some 30, .iad 27 lA2 (.t 27) (.t 29), some (21, true), [0, 1, 2, 3, 9, 10, 11]⟩,
 ⟨some 31, .ldH false lA2 (.t 30), some (21, true), [0, 1, 2, 3, 9, 10, 11, 12]⟩,
 ⟨some 32, .callv 55 [lA2, lA2] [lI] (.t 22) [(.t 26), (.t 31)], some (21, true), [0, 1, 2, 3, 4, 5, 6, 7, 8, 9, 10, 11, 12, 13]⟩,
 ⟨some 33, .icmp .lss (.t 32) (.c lI [.int 0]), some (21, true), [0, 1, 2, 3, 4, 5, 6, 7, 8, 9, 10, 11, 12, 13, 14]⟩,
 ⟨some 34, .pick (.t 21) (.t 33) (.c lB [.bool false]), none, [0, 1, 2, 3, 4, 5, 6, 7, 8, 9, 10, 11, 12, 13, 14, 15]⟩] true 0))
 (.cond (.t 34) .skip
 (.exit 2)))
 (.seq (.block 3 (.region [] [oq 37 (.mov (.t 0)),
 oq 38 (.mov (.t 9)),
 oq 39 (.mov (.t 0)),
 oq 40 (.mov (.t 9)),
 ⟨some 41, .ibin .sub (.t 40) (.c lI [.int 1]), none, [3]⟩,
 oq 42 (.mov (.t 0)),
 oq 43 (.mov (.t 9)),
 ⟨some 44, .ibin .sub (.t 43) (.c lI [.int 1]), none, [6]⟩,
 ⟨some 45, .iad 27 lA2 (.t 42) (.t 44), none, [5, 6, 7]⟩,
 ⟨some 46, .ldH false lA2 (.t 45), none, [5, 6, 7, 8]⟩,
 oq 47 (.mov (.t 0)),
 oq 48 (.mov (.t 9)),
 ⟨some 49, .iad 27 lA2 (.t 47) (.t 48), none, [10, 11]⟩,
 ⟨some 50, .ldH false lA2 (.t 49), none, [10, 11, 12]⟩,
 ⟨some 51, .iad 27 lA2 (.t 37) (.t 38), none, [0, 1, 5, 6, 7, 8, 9, 10, 11, 12, 13]⟩,
 ⟨none, .stF lA2 (.t 51) (.t 46), none, [0, 1, 5, 6, 7, 8, 9, 10, 11, 12, 13, 14]⟩,
 ⟨some 52, .iad 27 lA2 (.t 39) (.t 41), none, [0, 1, 2, 3, 4, 5, 6, 7, 8, 9, 10, 11, 12, 13, 14, 15]⟩,
 ⟨none, .stF lA2 (.t 52) (.t 50), none, [0, 1, 2, 3, 4, 5, 6, 7, 8, 9, 10, 11, 12, 13, 14, 15, 16]⟩] true 0))
 (.region [] [oq 35 (.mov (.t 9)),
 oq 36 (.ibin .sub (.t 35) (.c lI [.int 1])),
 oq 9 (.mov (.t 36))] false 0)))
noncomputable def slices_insertionSortCmpFunc_align_Pair_i2_l1 (E : Env) (v0 : Int) (v1 : Int) (v2 : C) (v3 : Int) (v4 : Int) (v5 : Row) : Option (Nat × List PV) := E.fix (stepOf E slices_insertionSortCmpFunc_align_Pair_i2_c1 slices_insertionSortCmpFunc_align_Pair_i2_h1 slices_insertionSortCmpFunc_align_Pair_i2_o1) [.r [.int v0], .r [.int v1], .r [v2], .r [.int v3], .r [.int v4], .r v5]
noncomputable def slices_insertionSortCmpFunc_align_Pair_i2_b1 (E : Env) (X : Int → Int → C → Int → Int → Row → Option (Nat × List PV)) (v0 : Int) (v1 : Int) (v2 : C) (v3 : Int) (v4 : Int) (v5 : Row) : Option (Nat × List PV) :=
 (let K1 : Bool → Option (Nat × List PV) := fun q2 =>
 some (0, [.r [.int v0], .r [.int v1], .r [v2], .r [.int v3], .r [.int v4], .r [.bool q2], .r [at_ v5 0, .int ((((at_ v5 1).toI).toNat : Nat) : Int)]])
 if (decide (v4 > v0)) = true then
 if (0 : Int) ≤ v4 ∧ v4 < (((at_ v5 0).rows).length : Int) then
 if v4.toNat < ((at_ v5 0).rows).length ∧ v4.toNat ≠ (((at_ v5 1).toI).toNat) then
 if (0 : Int) ≤ (Go.IntKind.i64.wrap (v4 - 1)) ∧ (Go.IntKind.i64.wrap (v4 - 1)) < (((at_ v5 0).rows).length : Int) then
 if ((Go.IntKind.i64.wrap (v4 - 1)).toNat) < ((at_ v5 0).rows).length ∧ ((Go.IntKind.i64.wrap (v4 - 1)).toNat) ≠ (((at_ v5 1).toI).toNat) then
 (callC E v2 [rowsAt ((at_ v5 0).rows) v4.toNat, rowsAt ((at_ v5 0).rows) ((Go.IntKind.i64.wrap (v4 - 1)).toNat)]).bind fun y3 =>
 K1 (decide (((at_ (rowsAt y3 0) 0).toI) < 0))
 else none
 else none
 else none
 else none
 else
 K1 false).bind fun x4 =>
 if (gB 5 x4.2) = true then
 if (0 : Int) ≤ (Go.IntKind.i64.wrap ((gI 4 x4.2) - 1)) ∧ (Go.IntKind.i64.wrap ((gI 4 x4.2) - 1)) < (((gC 6 x4.2).rows).length : Int) then
 if ((Go.IntKind.i64.wrap ((gI 4 x4.2) - 1)).toNat) < ((gC 6 x4.2).rows).length ∧ ((Go.IntKind.i64.wrap ((gI 4 x4.2) - 1)).toNat) ≠ (((at_ (gR 6 x4.2) 1).toI).toNat) then
 if (0 : Int) ≤ (gI 4 x4.2) ∧ (gI 4 x4.2) < (((gC 6 x4.2).rows).length : Int) then
 if ((gI 4 x4.2).toNat) < ((gC 6 x4.2).rows).length ∧ ((gI 4 x4.2).toNat) ≠ (((at_ (gR 6 x4.2) 1).toI).toNat) then
 if (0 : Int) ≤ (gI 4 x4.2) ∧ (gI 4 x4.2) < (((gC 6 x4.2).rows).length : Int) then
 if ((gC 6 x4.2).rows).length ≤ (((at_ (gR 6 x4.2) 1).toI).toNat) ∧ ((gI 4 x4.2).toNat) < ((gC 6 x4.2).rows).length then
 if (0 : Int) ≤ (Go.IntKind.i64.wrap ((gI 4 x4.2) - 1)) ∧ (Go.IntKind.i64.wrap ((gI 4 x4.2) - 1)) < ((((gC 6 x4.2).rows).set ((gI 4 x4.2).toNat) (rowsAt ((gC 6 x4.2).rows) ((Go.IntKind.i64.wrap ((gI 4 x4.2) - 1)).toNat))).length : Int) then
 if (((gC 6 x4.2).rows).set ((gI 4 x4.2).toNat) (rowsAt ((gC 6 x4.2).rows) ((Go.IntKind.i64.wrap ((gI 4 x4.2) - 1)).toNat))).length ≤ (((at_ (gR 6 x4.2) 1).toI).toNat) ∧ ((Go.IntKind.i64.wrap ((gI 4 x4.2) - 1)).toNat) < (((gC 6 x4.2).rows).set ((gI 4 x4.2).toNat) (rowsAt ((gC 6 x4.2).rows) ((Go.IntKind.i64.wrap ((gI 4 x4.2) - 1)).toNat))).length then
 X (gI 0 x4.2) (gI 1 x4.2) (gC 2 x4.2) (gI 3 x4.2) (Go.IntKind.i64.wrap ((gI 4 x4.2) - 1)) [.sl ((((gC 6 x4.2).rows).set ((gI 4 x4.2).toNat) (rowsAt ((gC 6 x4.2).rows) ((Go.IntKind.i64.wrap ((gI 4 x4.2) - 1)).toNat))).set ((Go.IntKind.i64.wrap ((gI 4 x4.2) - 1)).toNat) (rowsAt ((gC 6 x4.2).rows) ((gI 4 x4.2).toNat))), .int ((((at_ (gR 6 x4.2) 1).toI).toNat : Nat) : Int)]
 else none
 else none
 else none
 else none
 else none
 else none
 else none
 else none
 else
 some (0, [.r [.int (gI 0 x4.2)], .r [.int (gI 1 x4.2)], .r [gC 2 x4.2], .r [.int (gI 3 x4.2)], .r [gC 6 x4.2, .int ((((at_ (gR 6 x4.2) 1).toI).toNat : Nat) : Int)]])
theorem slices_insertionSortCmpFunc_align_Pair_i2_s1 (E : Env) (X : List PV → Option (Nat × List PV)) (v0 : Int) (v1 : Int) (v2 : C) (v3 : Int) (v4 : Int) (v5 : Row) : stepOf E slices_insertionSortCmpFunc_align_Pair_i2_c1 slices_insertionSortCmpFunc_align_Pair_i2_h1 slices_insertionSortCmpFunc_align_Pair_i2_o1 X [.r [.int v0], .r [.int v1], .r [v2], .r [.int v3], .r [.int v4], .r v5] = slices_insertionSortCmpFunc_align_Pair_i2_b1 E (fun (v0 : Int) (v1 : Int) (v2 : C) (v3 : Int) (v4 : Int) (v5 : Row) => X [.r [.int v0], .r [.int v1], .r [v2], .r [.int v3], .r [.int v4], .r v5]) v0 v1 v2 v3 v4 v5 := by kernel_rfl
def slices_insertionSortCmpFunc_align_Pair_i2_h0 : Shape := { slots := [(0, .hol 0), (1, .d lI), (2, .d lI), (3, .d (.one (.fn 55))), (8, .d lI)], objs := [.hol lA2 (.agg [])], m := 1 }
def slices_insertionSortCmpFunc_align_Pair_i2_o0 : List (Exit' × Shape) := [(.exit 0, { slots := [], objs := [.hol lA2 (.agg [])], m := 1 })]
def slices_insertionSortCmpFunc_align_Pair_i2_c0 : ACode := (.seq (.seq (.region [] [oq 12 (.mov (.t 8)),
 oq 13 (.mov (.t 2)),
 oq 14 (.icmp .lss (.t 12) (.t 13))] false 0)
 (.cond (.t 14) .skip
 (.exit 0)))
 (.seq (.block 1 (.seq (.region [] [oq 17 (.mov (.t 8)),
 oq 9 (.mov (.t 17))] false 0)
 (.block 2 (.loop slices_insertionSortCmpFunc_align_Pair_i2_h1 slices_insertionSortCmpFunc_align_Pair_i2_o1 slices_insertionSortCmpFunc_align_Pair_i2_c1))))
 (.region [] [oq 15 (.mov (.t 8)),
 oq 16 (.ibin .add (.t 15) (.c lI [.int 1])),
 oq 8 (.mov (.t 16))] false 0)))
noncomputable def slices_insertionSortCmpFunc_align_Pair_i2_l0 (E : Env) (v0 : Int) (v1 : Int) (v2 : C) (v3 : Int) (v4 : Row) : Option (Nat × List PV) := E.fix (stepOf E slices_insertionSortCmpFunc_align_Pair_i2_c0 slices_insertionSortCmpFunc_align_Pair_i2_h0 slices_insertionSortCmpFunc_align_Pair_i2_o0) [.r [.int v0], .r [.int v1], .r [v2], .r [.int v3], .r v4]
noncomputable def slices_insertionSortCmpFunc_align_Pair_i2_b0 (E : Env) (X : Int → Int → C → Int → Row → Option (Nat × List PV)) (v0 : Int) (v1 : Int) (v2 : C) (v3 : Int) (v4 : Row) : Option (Nat × List PV) :=
 if (decide (v3 < v1)) = true then
 (slices_insertionSortCmpFunc_align_Pair_i2_l1 E v0 v1 v2 v3 v3 [at_ v4 0, .int ((((at_ v4 1).toI).toNat : Nat) : Int)]).bind fun x5 =>
 X (gI 0 x5.2) (gI 1 x5.2) (gC 2 x5.2) (Go.IntKind.i64.wrap ((gI 3 x5.2) + 1)) [gC 4 x5.2, .int ((((at_ (gR 4 x5.2) 1).toI).toNat : Nat) : Int)]
 else
 some (0, [.r [at_ v4 0, .int ((((at_ v4 1).toI).toNat : Nat) : Int)]])
theorem slices_insertionSortCmpFunc_align_Pair_i2_s0 (E : Env) (X : List PV → Option (Nat × List PV)) (v0 : Int) (v1 : Int) (v2 : C) (v3 : Int) (v4 : Row) : stepOf E slices_insertionSortCmpFunc_align_Pair_i2_c0 slices_insertionSortCmpFunc_align_Pair_i2_h0 slices_insertionSortCmpFunc_align_Pair_i2_o0 X [.r [.int v0], .r [.int v1], .r [v2], .r [.int v3], .r v4] = slices_insertionSortCmpFunc_align_Pair_i2_b0 E (fun (v0 : Int) (v1 : Int) (v2 : C) (v3 : Int) (v4 : Row) => X [.r [.int v0], .r [.int v1], .r [v2], .r [.int v3], .r v4]) v0 v1 v2 v3 v4 := by kernel_rfl
def slices_insertionSortCmpFunc_align_Pair_i2_a : AImp := { fn := 32, entry := slices_insertionSortCmpFunc_align_Pair_i2_en, res := [], exit := slices_insertionSortCmpFunc_align_Pair_i2_ex, body := (.seq (.region [] [oq 10 (.mov (.t 1)),
 oq 11 (.ibin .add (.t 10) (.c lI [.int 1])),
 oq 8 (.mov (.t 11))] false 0)
 (.block 0 (.loop slices_insertionSortCmpFunc_align_Pair_i2_h0 slices_insertionSortCmpFunc_align_Pair_i2_o0 slices_insertionSortCmpFunc_align_Pair_i2_c0))) }
noncomputable def slices_insertionSortCmpFunc_align_Pair_i2 (E : Env) (p0 : Int) (p1 : Int) (p2 : C) (p3 : Row) : Option (List PV) :=
 (slices_insertionSortCmpFunc_align_Pair_i2_l0 E p0 p1 p2 (Go.IntKind.i64.wrap (p0 + 1)) [at_ p3 0, .int ((((at_ p3 1).toI).toNat : Nat) : Int)]).bind fun x6 =>
 some [.r [gC 0 x6.2, .int ((((at_ (gR 0 x6.2) 1).toI).toNat : Nat) : Int)]]
theorem slices_insertionSortCmpFunc_align_Pair_i2_eq (E : Env) (p0 : Int) (p1 : Int) (p2 : C) (p3 : Row) : runI E slices_insertionSortCmpFunc_align_Pair_i2_a [.r [.int p0], .r [.int p1], .r [p2], .r p3] = slices_insertionSortCmpFunc_align_Pair_i2 E p0 p1 p2 p3 := by kernel_rfl

def slices_swapRangeCmpFunc_align_Pair_i5_h0 : Shape := { slots := [(0, .hol 0), (1, .d lI), (2, .d lI), (3, .d lI), (10, .d lI)], objs := [.hol lA2 (.agg [])], m := 1 }
def slices_swapRangeCmpFunc_align_Pair_i5_o0 : List (Exit' × Shape) := [(.exit 0, { slots := [], objs := [.hol lA2 (.agg [])], m := 1 })]
def slices_swapRangeCmpFunc_align_Pair_i5_c0 : ACode := (.seq (.seq (.region [] [oq 11 (.mov (.t 10)),
 oq 12 (.mov (.t 3)),
 oq 13 (.icmp .lss (.t 11) (.t 12))] false 0)
 (.cond (.t 13) .skip
 (.exit 0)))
 (.seq (.block 1 (.region [] [oq 16 (.mov (.t 0)),
 oq 17 (.mov (.t 1)),
 oq 18 (.mov (.t 10)),
 ⟨some 19, .ibin .add (.t 17) (.t 18), none, [1, 2]⟩,
 oq 20 (.mov (.t 0)),
 oq 21 (.mov (.t 2)),
 oq 22 (.mov (.t 10)),
 ⟨some 23, .ibin .add (.t 21) (.t 22), none, [5, 6]⟩,
 oq 24 (.mov (.t 0)),
 oq 25 (.mov (.t 2)),
 oq 26 (.mov (.t 10)),
 ⟨some 27, .ibin .add (.t 25) (.t 26), none, [9, 10]⟩,
 ⟨some 28, .iad 27 lA2 (.t 24) (.t 27), none, [8, 9, 10, 11]⟩,
 ⟨some 29, .ldH false lA2 (.t 28), none, [8, 9, 10, 11, 12]⟩,
 oq 30 (.mov (.t 0)),
 oq 31 (.mov (.t 1)),
 oq 32 (.mov (.t 10)),
 ⟨some 33, .ibin .add (.t 31) (.t 32), none, [15, 16]⟩,
 ⟨some 34, .iad 27 lA2 (.t 30) (.t 33), none, [14, 15, 16, 17]⟩,
 ⟨some 35, .ldH false lA2 (.t 34), none, [14, 15, 16, 17, 18]⟩,
 ⟨some 36, .iad 27 lA2 (.t 16) (.t 19), none, [0, 1, 2, 3, 8, 9, 10, 11, 12, 13, 14, 15, 16, 17, 18, 19]⟩,
 ⟨none, .stF lA2 (.t 36) (.t 29), none, [0, 1, 2, 3, 8, 9, 10, 11, 12, 13, 14, 15, 16, 17, 18, 19, 20]⟩,
 ⟨some 37, .iad 27 lA2 (.t 20) (.t 23), none, [0, 1, 2, 3, 4, 5, 6, 7, 8, 9, 10, 11, 12, 13, 14, 15, 16, 17, 18, 19, 20, 21]⟩,
 ⟨none, .stF lA2 (.t 37) (.t 35), none, [0, 1, 2, 3, 4, 5, 6, 7, 8, 9, 10, 11, 12, 13, 14, 15, 16, 17, 18, 19, 20, 21, 22]⟩] true 0))
 (.region [] [oq 14 (.mov (.t 10)),
 oq 15 (.ibin .add (.t 14) (.c lI [.int 1])),
 oq 10 (.mov (.t 15))] false 0)))
noncomputable def slices_swapRangeCmpFunc_align_Pair_i5_l0 (E : Env) (v0 : Int) (v1 : Int) (v2 : Int) (v3 : Int) (v4 : Row) : Option (Nat × List PV) := E.fix (stepOf E slices_swapRangeCmpFunc_align_Pair_i5_c0 slices_swapRangeCmpFunc_align_Pair_i5_h0 slices_swapRangeCmpFunc_align_Pair_i5_o0) [.r [.int v0], .r [.int v1], .r [.int v2], .r [.int v3], .r v4]
noncomputable def slices_swapRangeCmpFunc_align_Pair_i5_b0 (E : Env) (X : Int → Int → Int → Int → Row → Option (Nat × List PV)) (v0 : Int) (v1 : Int) (v2 : Int) (v3 : Int) (v4 : Row) : Option (Nat × List PV) :=
 if (decide (v3 < v2)) = true then
 if (0 : Int) ≤ (Go.IntKind.i64.wrap (v1 + v3)) ∧ (Go.IntKind.i64.wrap (v1 + v3)) < (((at_ v4 0).rows).length : Int) then
 if ((Go.IntKind.i64.wrap (v1 + v3)).toNat) < ((at_ v4 0).rows).length ∧ ((Go.IntKind.i64.wrap (v1 + v3)).toNat) ≠ (((at_ v4 1).toI).toNat) then
 if (0 : Int) ≤ (Go.IntKind.i64.wrap (v0 + v3)) ∧ (Go.IntKind.i64.wrap (v0 + v3)) < (((at_ v4 0).rows).length : Int) then
 if ((Go.IntKind.i64.wrap (v0 + v3)).toNat) < ((at_ v4 0).rows).length ∧ ((Go.IntKind.i64.wrap (v0 + v3)).toNat) ≠ (((at_ v4 1).toI).toNat) then
 if (0 : Int) ≤ (Go.IntKind.i64.wrap (v0 + v3)) ∧ (Go.IntKind.i64.wrap (v0 + v3)) < (((at_ v4 0).rows).length : Int) then
 if ((at_ v4 0).rows).length ≤ (((at_ v4 1).toI).toNat) ∧ ((Go.IntKind.i64.wrap (v0 + v3)).toNat) < ((at_ v4 0).rows).length then
 if (0 : Int) ≤ (Go.IntKind.i64.wrap (v1 + v3)) ∧ (Go.IntKind.i64.wrap (v1 + v3)) < ((((at_ v4 0).rows).set ((Go.IntKind.i64.wrap (v0 + v3)).toNat) (rowsAt ((at_ v4 0).rows) ((Go.IntKind.i64.wrap (v1 + v3)).toNat))).length : Int) then
 if (((at_ v4 0).rows).set ((Go.IntKind.i64.wrap (v0 + v3)).toNat) (rowsAt ((at_ v4 0).rows) ((Go.IntKind.i64.wrap (v1 + v3)).toNat))).length ≤ (((at_ v4 1).toI).toNat) ∧ ((Go.IntKind.i64.wrap (v1 + v3)).toNat) < (((at_ v4 0).rows).set ((Go.IntKind.i64.wrap (v0 + v3)).toNat) (rowsAt ((at_ v4 0).rows) ((Go.IntKind.i64.wrap (v1 + v3)).toNat))).length then
 X v0 v1 v2 (Go.IntKind.i64.wrap (v3 + 1)) [.sl ((((at_ v4 0).rows).set ((Go.IntKind.i64.wrap (v0 + v3)).toNat) (rowsAt ((at_ v4 0).rows) ((Go.IntKind.i64.wrap (v1 + v3)).toNat))).set ((Go.IntKind.i64.wrap (v1 + v3)).toNat) (rowsAt ((at_ v4 0).rows) ((Go.IntKind.i64.wrap (v0 + v3)).toNat))), .int ((((at_ v4 1).toI).toNat : Nat) : Int)]
 else none
 else none
 else none
 else none
 else none
 else none
 else none
 else none
 else
 some (0, [.r [at_ v4 0, .int ((((at_ v4 1).toI).toNat : Nat) : Int)]])
theorem slices_swapRangeCmpFunc_align_Pair_i5_s0 (E : Env) (X : List PV → Option (Nat × List PV)) (v0 : Int) (v1 : Int) (v2 : Int) (v3 : Int) (v4 : Row) : stepOf E slices_swapRangeCmpFunc_align_Pair_i5_c0 slices_swapRangeCmpFunc_align_Pair_i5_h0 slices_swapRangeCmpFunc_align_Pair_i5_o0 X [.r [.int v0], .r [.int v1], .r [.int v2], .r [.int v3], .r v4] = slices_swapRangeCmpFunc_align_Pair_i5_b0 E (fun (v0 : Int) (v1 : Int) (v2 : Int) (v3 : Int) (v4 : Row) => X [.r [.int v0], .r [.int v1], .r [.int v2], .r [.int v3], .r v4]) v0 v1 v2 v3 v4 := by kernel_rfl
def slices_swapRangeCmpFunc_align_Pair_i5_a : AImp := { fn := 47, entry := slices_swapRangeCmpFunc_align_Pair_i5_en, res := [], exit := slices_swapRangeCmpFunc_align_Pair_i5_ex, body := (.seq (.region [] [oq 10 (.mov (.c lI [.int 0]))] false 0)
 (.block 0 (.loop slices_swapRangeCmpFunc_align_Pair_i5_h0 slices_swapRangeCmpFunc_align_Pair_i5_o0 slices_swapRangeCmpFunc_align_Pair_i5_c0))) }
noncomputable def slices_swapRangeCmpFunc_align_Pair_i5 (E : Env) (p0 : Int) (p1 : Int) (p2 : Int) (p3 : C) (p4 : Row) : Option (List PV) :=
 (slices_swapRangeCmpFunc_align_Pair_i5_l0 E p0 p1 p2 0 [at_ p4 0, .int ((((at_ p4 1).toI).toNat : Nat) : Int)]).bind fun x1 =>
 some [.r [gC 0 x1.2, .int ((((at_ (gR 0 x1.2) 1).toI).toNat : Nat) : Int)]]
theorem slices_swapRangeCmpFunc_align_Pair_i5_eq (E : Env) (p0 : Int) (p1 : Int) (p2 : Int) (p3 : C) (p4 : Row) : runI E slices_swapRangeCmpFunc_align_Pair_i5_a [.r [.int p0], .r [.int p1], .r [.int p2], .r [p3], .r p4] = slices_swapRangeCmpFunc_align_Pair_i5 E p0 p1 p2 p3 p4 := by kernel_rfl

def slices_rotateCmpFunc_align_Pair_i4_h0 : Shape := { slots := [(0, .hol 0), (2, .d lI), (4, .d (.one (.fn 55))), (10, .d lI), (11, .d lI)], objs := [.hol lA2 (.agg [])], m := 1 }
def slices_rotateCmpFunc_align_Pair_i4_o0 : List (Exit' × Shape) := [(.exit 0, { slots := [(0, .hol 0), (2, .d lI), (4, .d (.one (.fn 55))), (10, .d lI)], objs := [.hol lA2 (.agg [])], m := 1 })]
def slices_rotateCmpFunc_align_Pair_i4_c0 : ACode := (.seq (.seq (.region [] [oq 18 (.mov (.t 10)),
 oq 19 (.mov (.t 11)),
 oq 20 (.icmp .neq (.t 18) (.t 19))] false 0)
 (.cond (.t 20) .skip
 (.exit 0)))
 (.block 1 (.seq (.region [] [oq 21 (.mov (.t 10)),
 oq 22 (.mov (.t 11)),
 oq 23 (.icmp .gtr (.t 21) (.t 22))] false 0)
 (.cond (.t 23) (.seq (.region [] [oq 24 (.mov (.t 0)),
 oq 25 (.mov (.t 2)),
 oq 26 (.mov (.t 10)),
 oq 27 (.ibin .sub (.t 25) (.t 26)),
 oq 28 (.mov (.t 2)),
 oq 29 (.mov (.t 11)),
 oq 30 (.mov (.t 4)),
 oq 31 (.icall 78 47 (slices_swapRangeCmpFunc_align_Pair_i5_en) (slices_swapRangeCmpFunc_align_Pair_i5_ex) [0] 0 none [(.t 24), (.t 27), (.t 28), (.t 29), (.t 30)])] false 0)
 (.region [] [oq 32 (.mov (.t 10)),
 oq 33 (.mov (.t 11)),
 oq 34 (.ibin .sub (.t 32) (.t 33)),
 oq 10 (.mov (.t 34))] false 0))
 (.seq (.region [] [oq 35 (.mov (.t 0)),
 oq 36 (.mov (.t 2)),
 oq 37 (.mov (.t 10)),
 oq 38 (.ibin .sub (.t 36) (.t 37)),
 oq 39 (.mov (.t 2)),
 oq 40 (.mov (.t 11)),
 oq 41 (.ibin .add (.t 39) (.t 40)),
 oq 42 (.mov (.t 10)),
 oq 43 (.ibin .sub (.t 41) (.t 42)),
 oq 44 (.mov (.t 10)),
 oq 45 (.mov (.t 4)),
 oq 46 (.icall 78 47 (slices_swapRangeCmpFunc_align_Pair_i5_en) (slices_swapRangeCmpFunc_align_Pair_i5_ex) [0] 0 none [(.t 35), (.t 38), (.t 43), (.t 44), (.t 45)])] false 0)
 (.region [] [oq 47 (.mov (.t 11)),
 oq 48 (.mov (.t 10)),
 oq 49 (.ibin .sub (.t 47) (.t 48)),
 oq 11 (.mov (.t 49))] false 0))))))
noncomputable def slices_rotateCmpFunc_align_Pair_i4_l0 (E : Env) (v0 : Int) (v1 : C) (v2 : Int) (v3 : Int) (v4 : Row) : Option (Nat × List PV) := E.fix (stepOf E slices_rotateCmpFunc_align_Pair_i4_c0 slices_rotateCmpFunc_align_Pair_i4_h0 slices_rotateCmpFunc_align_Pair_i4_o0) [.r [.int v0], .r [v1], .r [.int v2], .r [.int v3], .r v4]
noncomputable def slices_rotateCmpFunc_align_Pair_i4_b0 (E : Env) (X : Int → C → Int → Int → Row → Option (Nat × List PV)) (v0 : Int) (v1 : C) (v2 : Int) (v3 : Int) (v4 : Row) : Option (Nat × List PV) :=
 if (v2 != v3) = true then
 if (decide (v2 > v3)) = true then
 (E.ic slices_swapRangeCmpFunc_align_Pair_i5_n [.r [.int (Go.IntKind.i64.wrap (v0 - v2))], .r [.int v0], .r [.int v3], .r [v1], .r [at_ v4 0, .int ((((at_ v4 1).toI).toNat : Nat) : Int)]]).bind fun y1 =>
 X v0 v1 (Go.IntKind.i64.wrap (v2 - v3)) v3 [gC 0 y1, .int ((((at_ (gR 0 y1) 1).toI).toNat : Nat) : Int)]
 else
 (E.ic slices_swapRangeCmpFunc_align_Pair_i5_n [.r [.int (Go.IntKind.i64.wrap (v0 - v2))], .r [.int (Go.IntKind.i64.wrap ((Go.IntKind.i64.wrap (v0 + v3)) - v2))], .r [.int v2], .r [v1], .r [at_ v4 0, .int ((((at_ v4 1).toI).toNat : Nat) : Int)]]).bind fun y2 =>
 X v0 v1 v2 (Go.IntKind.i64.wrap (v3 - v2)) [gC 0 y2, .int ((((at_ (gR 0 y2) 1).toI).toNat : Nat) : Int)]
 else
 some (0, [.r [.int v0], .r [v1], .r [.int v2], .r [at_ v4 0, .int ((((at_ v4 1).toI).toNat : Nat) : Int)]])
theorem slices_rotateCmpFunc_align_Pair_i4_s0 (E : Env) (X : List PV → Option (Nat × List PV)) (v0 : Int) (v1 : C) (v2 : Int) (v3 : Int) (v4 : Row) : stepOf E slices_rotateCmpFunc_align_Pair_i4_c0 slices_rotateCmpFunc_align_Pair_i4_h0 slices_rotateCmpFunc_align_Pair_i4_o0 X [.r [.int v0], .r [v1], .r [.int v2], .r [.int v3], .r v4] = slices_rotateCmpFunc_align_Pair_i4_b0 E (fun (v0 : Int) (v1 : C) (v2 : Int) (v3 : Int) (v4 : Row) => X [.r [.int v0], .r [v1], .r [.int v2], .r [.int v3], .r v4]) v0 v1 v2 v3 v4 := by kernel_rfl
def slices_rotateCmpFunc_align_Pair_i4_a : AImp := { fn := 38, entry := slices_rotateCmpFunc_align_Pair_i4_en, res := [], exit := slices_rotateCmpFunc_align_Pair_i4_ex, body := (.seq (.region [] [oq 12 (.mov (.t 2)),
 oq 13 (.mov (.t 1)),
 oq 14 (.ibin .sub (.t 12) (.t 13)),
 oq 10 (.mov (.t 14))] false 0)
 (.seq (.region [] [oq 15 (.mov (.t 3)),
 oq 16 (.mov (.t 2)),
 oq 17 (.ibin .sub (.t 15) (.t 16)),
 oq 11 (.mov (.t 17))] false 0)
 (.seq (.block 0 (.loop slices_rotateCmpFunc_align_Pair_i4_h0 slices_rotateCmpFunc_align_Pair_i4_o0 slices_rotateCmpFunc_align_Pair_i4_c0))
 (.region [] [oq 50 (.mov (.t 0)),
 oq 51 (.mov (.t 2)),
 oq 52 (.mov (.t 10)),
 oq 53 (.ibin .sub (.t 51) (.t 52)),
 oq 54 (.mov (.t 2)),
 oq 55 (.mov (.t 10)),
 oq 56 (.mov (.t 4)),
 oq 57 (.icall 78 47 (slices_swapRangeCmpFunc_align_Pair_i5_en) (slices_swapRangeCmpFunc_align_Pair_i5_ex) [0] 0 none [(.t 50), (.t 53), (.t 54), (.t 55), (.t 56)])] false 0)))) }
noncomputable def slices_rotateCmpFunc_align_Pair_i4 (E : Env) (p0 : Int) (p1 : Int) (p2 : Int) (p3 : C) (p4 : Row) : Option (List PV) :=
 (slices_rotateCmpFunc_align_Pair_i4_l0 E p1 p3 (Go.IntKind.i64.wrap (p1 - p0)) (Go.IntKind.i64.wrap (p2 - p1)) [at_ p4 0, .int ((((at_ p4 1).toI).toNat : Nat) : Int)]).bind fun x3 =>
 (E.ic slices_swapRangeCmpFunc_align_Pair_i5_n [.r [.int (Go.IntKind.i64.wrap ((gI 0 x3.2) - (gI 2 x3.2)))], .r [.int (gI 0 x3.2)], .r [.int (gI 2 x3.2)], .r [gC 1 x3.2], .r [gC 3 x3.2, .int ((((at_ (gR 3 x3.2) 1).toI).toNat : Nat) : Int)]]).bind fun y4 =>
 some [.r [gC 0 y4, .int ((((at_ (gR 0 y4) 1).toI).toNat : Nat) : Int)]]
theorem slices_rotateCmpFunc_align_Pair_i4_eq (E : Env) (p0 : Int) (p1 : Int) (p2 : Int) (p3 : C) (p4 : Row) : runI E slices_rotateCmpFunc_align_Pair_i4_a [.r [.int p0], .r [.int p1], .r [.int p2], .r [p3], .r p4] = slices_rotateCmpFunc_align_Pair_i4 E p0 p1 p2 p3 p4 := by kernel_rfl
end Go.Ev
