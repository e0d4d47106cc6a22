/-
  A part of the proof: what the functions of the program compute.
-/
import Derived.Test.YtodphfbpiknhkaaZNum
set_option linter.all false
set_option maxRecDepth 100000
namespace Go.Ev
def clapref3_ByKey_h1 : Shape := { slots := [(10, .d (.one (.sl 24))), (13, .sw 0), (14, .map 1), (15, .d lI), (16, .ptr 2 0), (45, .d (.one (.sl 24))), (46, .d lI), (47, .d lI), (52, .d (.one (.sl 24))), (53, .d lI), (54, .d lI)], objs := [.sarr 38 lA2, .map lI lB, .var lA1] }
def clapref3_ByKey_o1 : List (Exit' × Shape) := [(.exit 2, { slots := [(10, .d (.one (.sl 24))), (13, .sw 0), (14, .map 1), (45, .d (.one (.sl 24))), (46, .d lI), (47, .d lI)], objs := [.sarr 38 lA2, .map lI lB] })]
def clapref3_ByKey_c1 : ACode := (.seq (.region [] [oq 55 (.icmp .lss (.t 54) (.t 53))] false 0)
 (.seq (.cond (.t 55) .skip
 (.exit 2))
 (.seq (.block 3 (.seq (.region [] [oq 56 (.mov (.t 54)),
 oq 57 (.iad 24 lA1 (.t 52) (.t 54)),
 oq 58 (.ld lA1 24 (.t 57)),
 oq 18 (.allocO 0 lA1 [.int 0, .int 0, .str [], .nils]),
 oq 17 (.mov (.t 56)),
 ⟨none, .st lA1 (.t 18) (.t 58), none, []⟩] false 1)
 (.seq (.join [(.normal, { slots := [(10, .d (.one (.sl 24))), (13, .sw 0), (14, .map 1), (15, .d lI), (16, .ptr 2 0), (17, .d lI), (45, .d (.one (.sl 24))), (46, .d lI), (47, .d lI), (52, .d (.one (.sl 24))), (53, .d lI), (54, .d lI), (67, .d lB)], objs := [.sarr 38 lA2, .map lI lB, .var lA1] })] (.region [] [oq 59 (.ld lA1 24 (.t 18)),
 oq 60 (.ld lA1 24 (.t 16)),
 oq 61 (.call 18 [lA1, lA1] [lB] [(.t 59), (.t 60)]),
 oq 62 (.mov (.t 61)),
 ⟨some 63, .mov (.t 14), some (62, true), []⟩,
 ⟨some 64, .mov (.t 17), some (62, true), []⟩,
 ⟨some 65, .lk lI lB [.bool false] (.t 63) (.t 64) false, some (62, true), []⟩,
 ⟨some 66, .not (.t 65), some (62, true), []⟩,
 oq 67 (.pick (.t 62) (.t 66) (.c lB [.bool false]))] false 0))
 (.cond (.t 67) (.seq (.region [] [oq 68 (.mov (.t 14)),
 oq 69 (.mov (.t 17)),
 ⟨none, .mup lI (.t 68) (.t 69) (.c lB [.bool true]), none, []⟩] false 0)
 (.seq (.region [] [oq 70 (.mov (.t 13)),
 oq 71 (.mov (.t 17)),
 oq 72 (.mov (.t 15)),
 oq 73 (.bld lA2 [.int 0, .int 0] [(0, 1, (.t 71)), (1, 1, (.t 72))]),
 oq 74 (.bsl 38 lA2 1 [.int 0, .int 0] [(0, (.t 73))]),
 oq 75 (.appW 0 38 lA2 16 (.t 70) (.t 74)),
 oq 13 (.mov (.t 75))] false 1)
 (.exit 2)))
 .skip))))
 (.region [] [oq 76 (.ibin .add (.t 54) (.c lI [.int 1])),
 oq 54 (.mov (.t 76))] false 0))))
noncomputable def clapref3_ByKey_l1 (E : Env) (v0 : C) (v1 : Int) (v2 : C) (v3 : Int) (v4 : Int) (v5 : C) (v6 : Int) (v7 : Int) (v8 : C) (v9 : List (Row × Row)) (v10 : Row) : Option (Nat × List PV) := E.fix (stepOf E clapref3_ByKey_c1 clapref3_ByKey_h1 clapref3_ByKey_o1) [.r [v0], .r [.int v1], .r [v2], .r [.int v3], .r [.int v4], .r [v5], .r [.int v6], .r [.int v7], .r [v8], .m v9, .r v10]
noncomputable def clapref3_ByKey_b1 (E : Env) (X : C → Int → C → Int → Int → C → Int → Int → C → List (Row × Row) → Row → Option (Nat × List PV)) (v0 : C) (v1 : Int) (v2 : C) (v3 : Int) (v4 : Int) (v5 : C) (v6 : Int) (v7 : Int) (v8 : C) (v9 : List (Row × Row)) (v10 : Row) : Option (Nat × List PV) :=
 if (decide (v7 < v6)) = true then
 if (0 : Int) ≤ v7 ∧ v7 < (v5.rows.length : Int) then
 ((E.pc n_clapref3_same [rowsAt v5.rows v7.toNat, v10]).bind fun y4 =>
 let K5 : Bool → Option (Nat × List PV) := fun q6 =>
 some (0, [.r [v0], .r [.int v1], .r [.int v7], .r [v2], .r [.int v3], .r [.int v4], .r [v5], .r [.int v6], .r [.int v7], .r [.bool q6], .r [v8], .m v9, .r v10])
 if ((at_ (rowsAt y4 0) 0).toB) = true then
 K5 (!((at_ ((findE lI [.int v7] v9).getD [.bool false]) 0).toB))
 else
 K5 false).bind fun x7 =>
 if (gB 9 x7.2) = true then
 if (((gC 10 x7.2).rows).length + ([[.int (gI 2 x7.2), .int (gI 1 x7.2)]] : List Row).length) * 16 ≤ 140737488355328 then
 some (0, [.r [gC 0 x7.2], .r [gC 3 x7.2], .r [.int (gI 4 x7.2)], .r [.int (gI 5 x7.2)], .r [appC (gC 10 x7.2) ([[.int (gI 2 x7.2), .int (gI 1 x7.2)]] : List Row)], .m (setE lI [.int (gI 2 x7.2)] [.bool true] (gM 11 x7.2))])
 else none
 else
 X (gC 0 x7.2) (gI 1 x7.2) (gC 3 x7.2) (gI 4 x7.2) (gI 5 x7.2) (gC 6 x7.2) (gI 7 x7.2) (Go.IntKind.i64.wrap ((gI 8 x7.2) + 1)) (gC 10 x7.2) (gM 11 x7.2) (gR 12 x7.2)
 else none
 else
 some (0, [.r [v0], .r [v2], .r [.int v3], .r [.int v4], .r [v8], .m v9])
theorem clapref3_ByKey_s1 (E : Env) (X : List PV → Option (Nat × List PV)) (v0 : C) (v1 : Int) (v2 : C) (v3 : Int) (v4 : Int) (v5 : C) (v6 : Int) (v7 : Int) (v8 : C) (v9 : List (Row × Row)) (v10 : Row) : stepOf E clapref3_ByKey_c1 clapref3_ByKey_h1 clapref3_ByKey_o1 X [.r [v0], .r [.int v1], .r [v2], .r [.int v3], .r [.int v4], .r [v5], .r [.int v6], .r [.int v7], .r [v8], .m v9, .r v10] = clapref3_ByKey_b1 E (fun (v0 : C) (v1 : Int) (v2 : C) (v3 : Int) (v4 : Int) (v5 : C) (v6 : Int) (v7 : Int) (v8 : C) (v9 : List (Row × Row)) (v10 : Row) => X [.r [v0], .r [.int v1], .r [v2], .r [.int v3], .r [.int v4], .r [v5], .r [.int v6], .r [.int v7], .r [v8], .m v9, .r v10]) v0 v1 v2 v3 v4 v5 v6 v7 v8 v9 v10 := by kernel_rfl
def clapref3_ByKey_h0 : Shape := { slots := [(10, .d (.one (.sl 24))), (13, .sw 0), (14, .map 1), (45, .d (.one (.sl 24))), (46, .d lI), (47, .d lI)], objs := [.sarr 38 lA2, .map lI lB] }
def clapref3_ByKey_o0 : List (Exit' × Shape) := [(.exit 0, { slots := [(13, .sw 0)], objs := [.sarr 38 lA2] })]
def clapref3_ByKey_c0 : ACode := (.seq (.region [] [oq 48 (.icmp .lss (.t 47) (.t 46))] false 0)
 (.seq (.cond (.t 48) .skip
 (.exit 0))
 (.seq (.block 1 (.seq (.region [] [oq 49 (.mov (.t 47)),
 oq 50 (.iad 24 lA1 (.t 45) (.t 47)),
 oq 51 (.ld lA1 24 (.t 50)),
 oq 16 (.allocO 0 lA1 [.int 0, .int 0, .str [], .nils]),
 oq 15 (.mov (.t 49)),
 ⟨none, .st lA1 (.t 16) (.t 51), none, []⟩] false 1)
 (.seq (.region [] [oq 52 (.mov (.t 10)),
 oq 53 (.lenL (.t 52)),
 oq 54 (.mov (.c lI [.int 0]))] false 0)
 (.block 2 (.loop clapref3_ByKey_h1 clapref3_ByKey_o1 clapref3_ByKey_c1)))))
 (.region [] [oq 77 (.ibin .add (.t 47) (.c lI [.int 1])),
 oq 47 (.mov (.t 77))] false 0))))
noncomputable def clapref3_ByKey_l0 (E : Env) (v0 : C) (v1 : C) (v2 : Int) (v3 : Int) (v4 : C) (v5 : List (Row × Row)) : Option (Nat × List PV) := E.fix (stepOf E clapref3_ByKey_c0 clapref3_ByKey_h0 clapref3_ByKey_o0) [.r [v0], .r [v1], .r [.int v2], .r [.int v3], .r [v4], .m v5]
noncomputable def clapref3_ByKey_b0 (E : Env) (X : C → C → Int → Int → C → List (Row × Row) → Option (Nat × List PV)) (v0 : C) (v1 : C) (v2 : Int) (v3 : Int) (v4 : C) (v5 : List (Row × Row)) : Option (Nat × List PV) :=
 if (decide (v3 < v2)) = true then
 if (0 : Int) ≤ v3 ∧ v3 < (v1.rows.length : Int) then
 (clapref3_ByKey_l1 E v0 v3 v1 v2 v3 v0 (v0.rows.length : Int) 0 v4 v5 (rowsAt v1.rows v3.toNat)).bind fun x8 =>
 X (gC 0 x8.2) (gC 1 x8.2) (gI 2 x8.2) (Go.IntKind.i64.wrap ((gI 3 x8.2) + 1)) (gC 4 x8.2) (gM 5 x8.2)
 else none
 else
 some (0, [.r [v4]])
theorem clapref3_ByKey_s0 (E : Env) (X : List PV → Option (Nat × List PV)) (v0 : C) (v1 : C) (v2 : Int) (v3 : Int) (v4 : C) (v5 : List (Row × Row)) : stepOf E clapref3_ByKey_c0 clapref3_ByKey_h0 clapref3_ByKey_o0 X [.r [v0], .r [v1], .r [.int v2], .r [.int v3], .r [v4], .m v5] = clapref3_ByKey_b0 E (fun (v0 : C) (v1 : C) (v2 : Int) (v3 : Int) (v4 : C) (v5 : List (Row × Row)) => X [.r [v0], .r [v1], .r [.int v2], .r [.int v3], .r [v4], .m v5]) v0 v1 v2 v3 v4 v5 := by kernel_rfl
def clapref3_ByKey_a : AFun := { ps := [lA1, lA1, lS], rs := [(.one (.sl 38)), lI], res := [(false, 6, (some lA2)), (false, 7, none)], body := (.seq (.region [] [oq 3 (.boxP lA1 24 (.t 0)),
 oq 4 (.boxP lA1 24 (.t 1)),
 oq 5 (.boxP lS 9 (.t 2)),
 oq 6 (.mov (.c (.one (.sl 38)) [.nils])),
 oq 7 (.mov (.c lI [.int 0]))] false 0)
 (.seq (.seq (.region [] [oq 19 (.ld lA1 24 (.t 3)),
 oq 20 (.ld lA1 24 (.t 4)),
 oq 21 (.call 6 [lA1, lA1] [lI] [(.t 19), (.t 20)]),
 oq 8 (.mov (.t 21))] false 0)
 (.seq (.region [] [oq 22 (.mov (.t 8)),
 oq 23 (.icmp .neq (.t 22) (.c lI [.int 0]))] false 0)
 (.cond (.t 23) (.seq (.region [] [oq 24 (.mov (.t 8)),
 oq 6 (.mov (.c (.one (.sl 38)) [.nils])),
 oq 7 (.mov (.t 24))] false 0)
 .ret)
 .skip)))
 (.seq (.region [] [oq 25 (.mkf 17 52 [.ref 9] [(.t 5)]),
 oq 9 (.mov (.t 25))] false 0)
 (.seq (.region [] [oq 27 (.mov (.t 9)),
 oq 28 (.ld lA1 24 (.t 3)),
 oq 29 (.callv 52 [lA1] [(.one (.sl 24)), lI] (.t 27) [(.t 28)]),
 oq 26 (.mov (.t 29)),
 oq 30 (.ext 0 (.t 26)),
 oq 31 (.ext 1 (.t 26)),
 oq 10 (.mov (.t 30)),
 oq 11 (.mov (.t 31))] false 0)
 (.seq (.seq (.region [] [oq 32 (.mov (.t 11)),
 oq 33 (.icmp .neq (.t 32) (.c lI [.int 0]))] false 0)
 (.cond (.t 33) (.seq (.region [] [oq 34 (.mov (.t 11)),
 oq 6 (.mov (.c (.one (.sl 38)) [.nils])),
 oq 7 (.mov (.t 34))] false 0)
 .ret)
 .skip))
 (.seq (.region [] [oq 36 (.mov (.t 9)),
 oq 37 (.ld lA1 24 (.t 4)),
 oq 38 (.callv 52 [lA1] [(.one (.sl 24)), lI] (.t 36) [(.t 37)]),
 oq 35 (.mov (.t 38)),
 oq 39 (.ext 0 (.t 35)),
 oq 40 (.ext 1 (.t 35)),
 oq 12 (.mov (.t 39)),
 oq 11 (.mov (.t 40))] false 0)
 (.seq (.seq (.region [] [oq 41 (.mov (.t 11)),
 oq 42 (.icmp .neq (.t 41) (.c lI [.int 0]))] false 0)
 (.cond (.t 42) (.seq (.region [] [oq 43 (.mov (.t 11)),
 oq 6 (.mov (.c (.one (.sl 38)) [.nils])),
 oq 7 (.mov (.t 43))] false 0)
 .ret)
 .skip))
 (.seq (.region [] [oq 13 (.nilS 0 38 lA2)] false 1)
 (.seq (.region [] [oq 44 (.mkm 0 lI lB),
 oq 14 (.mov (.t 44))] false 1)
 (.seq (.seq (.region [] [oq 45 (.mov (.t 12)),
 oq 46 (.lenL (.t 45)),
 oq 47 (.mov (.c lI [.int 0]))] false 0)
 (.block 0 (.loop clapref3_ByKey_h0 clapref3_ByKey_o0 clapref3_ByKey_c0)))
 (.seq (.region [] [oq 78 (.mov (.t 13)),
 oq 6 (.mov (.t 78)),
 oq 7 (.mov (.c lI [.int 0]))] false 0)
 .ret))))))))))) }
noncomputable def clapref3_ByKey (E : Env) (p0 : Row) (p1 : Row) (p2 : List UInt8) : Option (List Row) :=
 (E.pc n_clapref3_Lists [p0, p1]).bind fun y1 =>
 if (((at_ (rowsAt y1 0) 0).toI) != 0) = true then
 some [[.nils], [.int ((at_ (rowsAt y1 0) 0).toI)]]
 else
 (E.pc n_clapref3_ByKey_1 ([p0] ++ [[.dp [.str p2]]])).bind fun y2 =>
 if (((at_ (rowsAt y2 1) 0).toI) != 0) = true then
 some [[.nils], [.int ((at_ (rowsAt y2 1) 0).toI)]]
 else
 (E.pc n_clapref3_ByKey_1 ([p1] ++ [[.dp [.str p2]]])).bind fun y3 =>
 if (((at_ (rowsAt y3 1) 0).toI) != 0) = true then
 some [[.nils], [.int ((at_ (rowsAt y3 1) 0).toI)]]
 else
 (clapref3_ByKey_l0 E (at_ (rowsAt y2 0) 0) (at_ (rowsAt y3 0) 0) (((at_ (rowsAt y3 0) 0).rows).length : Int) 0 .nils []).bind fun x9 =>
 some [[gC 0 x9.2], [.int 0]]
theorem clapref3_ByKey_eq (E : Env) (p0 : Row) (p1 : Row) (p2 : List UInt8) : runP E clapref3_ByKey_a [p0, p1, [.str p2]] = clapref3_ByKey E p0 p1 p2 := by kernel_rfl

def slices_Equal_clapref3_Two_h0 : Shape := { slots := [(0, .d (.one (.sl 38))), (1, .d (.one (.sl 38))), (12, .d lI), (13, .d lI)], objs := [] }
def slices_Equal_clapref3_Two_o0 : List (Exit' × Shape) := [(.exit 0, { slots := [], objs := [] }), (.ret, { slots := [(4, .d lB)], objs := [] })]
def slices_Equal_clapref3_Two_c0 : ACode := (.seq (.region [] [oq 14 (.icmp .lss (.t 13) (.t 12))] false 0)
 (.seq (.cond (.t 14) .skip
 (.exit 0))
 (.seq (.block 1 (.seq (.region [] [oq 15 (.mov (.t 13)),
 oq 5 (.mov (.t 15))] false 0)
 (.seq (.region [] [oq 16 (.mov (.t 0)),
 oq 17 (.mov (.t 5)),
 ⟨some 18, .iad 38 lA2 (.t 16) (.t 17), none, [0, 1]⟩,
 ⟨some 19, .ld lA2 38 (.t 18), none, [0, 1, 2]⟩,
 oq 20 (.mov (.t 1)),
 oq 21 (.mov (.t 5)),
 ⟨some 22, .iad 38 lA2 (.t 20) (.t 21), none, [4, 5]⟩,
 ⟨some 23, .ld lA2 38 (.t 22), none, [4, 5, 6]⟩,
 ⟨some 24, .aeq true lA2 (.t 19) (.t 23), none, [0, 1, 2, 3, 4, 5, 6, 7]⟩] true 0)
 (.cond (.t 24) (.seq (.region [] [oq 4 (.mov (.c lB [.bool false]))] false 0)
 .ret)
 .skip))))
 (.region [] [oq 25 (.ibin .add (.t 13) (.c lI [.int 1])),
 oq 13 (.mov (.t 25))] false 0))))
noncomputable def slices_Equal_clapref3_Two_l0 (E : Env) (v0 : C) (v1 : C) (v2 : Int) (v3 : Int) : Option (Nat × List PV) := E.fix (stepOf E slices_Equal_clapref3_Two_c0 slices_Equal_clapref3_Two_h0 slices_Equal_clapref3_Two_o0) [.r [v0], .r [v1], .r [.int v2], .r [.int v3]]
noncomputable def slices_Equal_clapref3_Two_b0 (E : Env) (X : C → C → Int → Int → Option (Nat × List PV)) (v0 : C) (v1 : C) (v2 : Int) (v3 : Int) : Option (Nat × List PV) :=
 if (decide (v3 < v2)) = true then
 if (0 : Int) ≤ v3 ∧ v3 < (v0.rows.length : Int) then
 if (0 : Int) ≤ v3 ∧ v3 < (v1.rows.length : Int) then
 if (!(ceq [.int .i64, .int .i64] (rowsAt v0.rows v3.toNat) (rowsAt v1.rows v3.toNat))) = true then
 some (1, [.r [.bool false]])
 else
 X v0 v1 v2 (Go.IntKind.i64.wrap (v3 + 1))
 else none
 else none
 else
 some (0, [])
theorem slices_Equal_clapref3_Two_s0 (E : Env) (X : List PV → Option (Nat × List PV)) (v0 : C) (v1 : C) (v2 : Int) (v3 : Int) : stepOf E slices_Equal_clapref3_Two_c0 slices_Equal_clapref3_Two_h0 slices_Equal_clapref3_Two_o0 X [.r [v0], .r [v1], .r [.int v2], .r [.int v3]] = slices_Equal_clapref3_Two_b0 E (fun (v0 : C) (v1 : C) (v2 : Int) (v3 : Int) => X [.r [v0], .r [v1], .r [.int v2], .r [.int v3]]) v0 v1 v2 v3 := by kernel_rfl
def slices_Equal_clapref3_Two_a : AFun := { ps := [(.one (.sl 38)), (.one (.sl 38))], rs := [lB], res := [(false, 4, none)], body := (.seq (.region [] [oq 4 (.mov (.c lB [.bool false]))] false 0)
 (.seq (.seq (.region [] [oq 6 (.mov (.t 0)),
 oq 7 (.lenL (.t 6)),
 oq 8 (.mov (.t 1)),
 oq 9 (.lenL (.t 8)),
 oq 10 (.icmp .neq (.t 7) (.t 9))] false 0)
 (.cond (.t 10) (.seq (.region [] [oq 4 (.mov (.c lB [.bool false]))] false 0)
 .ret)
 .skip))
 (.seq (.seq (.region [] [oq 11 (.mov (.t 0)),
 oq 12 (.lenL (.t 11)),
 oq 13 (.mov (.c lI [.int 0]))] false 0)
 (.block 0 (.loop slices_Equal_clapref3_Two_h0 slices_Equal_clapref3_Two_o0 slices_Equal_clapref3_Two_c0)))
 (.seq (.region [] [oq 4 (.mov (.c lB [.bool true]))] false 0)
 .ret)))) }
noncomputable def slices_Equal_clapref3_Two (E : Env) (p0 : C) (p1 : C) : Option (List Row) :=
 if ((p0.rows.length : Int) != (p1.rows.length : Int)) = true then
 some [[.bool false]]
 else
 (slices_Equal_clapref3_Two_l0 E p0 p1 (p0.rows.length : Int) 0).bind fun x1 =>
 match x1.1 with
 | 0 =>
 some [[.bool true]]
 | i2 + 1 =>
 some [[.bool (gB 0 x1.2)]]
theorem slices_Equal_clapref3_Two_eq (E : Env) (p0 : C) (p1 : C) : runP E slices_Equal_clapref3_Two_a [[p0], [p1]] = slices_Equal_clapref3_Two E p0 p1 := by kernel_rfl

def claplaw3_twos_h0 : Shape := { slots := [(3, .sw 0), (6, .d (.one (.sl 32))), (7, .d lI), (8, .d lI)], objs := [.sarr 38 lA2] }
def claplaw3_twos_o0 : List (Exit' × Shape) := [(.exit 0, { slots := [(3, .sw 0)], objs := [.sarr 38 lA2] })]
def claplaw3_twos_c0 : ACode := (.seq (.region [] [oq 9 (.icmp .lss (.t 8) (.t 7))] false 0)
 (.seq (.cond (.t 9) .skip
 (.exit 0))
 (.seq (.block 1 (.seq (.region [] [oq 10 (.iad 32 lA2 (.t 6) (.t 8)),
 oq 11 (.ld lA2 32 (.t 10)),
 oq 5 (.allocO 0 lA2 [.int 0, .int 0]),
 ⟨none, .st lA2 (.t 5) (.t 11), none, []⟩] false 1)
 (.region [] [oq 12 (.mov (.t 3)),
 oq 13 (.fad 0 1 32 3 (.t 5)),
 oq 14 (.ld lI 3 (.t 13)),
 oq 15 (.fad 1 1 32 3 (.t 5)),
 oq 16 (.ld lI 3 (.t 15)),
 oq 17 (.bld lA2 [.int 0, .int 0] [(0, 1, (.t 14)), (1, 1, (.t 16))]),
 oq 18 (.bsl 38 lA2 1 [.int 0, .int 0] [(0, (.t 17))]),
 oq 19 (.appW 0 38 lA2 16 (.t 12) (.t 18)),
 oq 3 (.mov (.t 19))] false 1)))
 (.region [] [oq 20 (.ibin .add (.t 8) (.c lI [.int 1])),
 oq 8 (.mov (.t 20))] false 0))))
noncomputable def claplaw3_twos_l0 (E : Env) (v0 : C) (v1 : Int) (v2 : Int) (v3 : C) : Option (Nat × List PV) := E.fix (stepOf E claplaw3_twos_c0 claplaw3_twos_h0 claplaw3_twos_o0) [.r [v0], .r [.int v1], .r [.int v2], .r [v3]]
noncomputable def claplaw3_twos_b0 (E : Env) (X : C → Int → Int → C → Option (Nat × List PV)) (v0 : C) (v1 : Int) (v2 : Int) (v3 : C) : Option (Nat × List PV) :=
 if (decide (v2 < v1)) = true then
 if (0 : Int) ≤ v2 ∧ v2 < (v0.rows.length : Int) then
 if (v3.rows.length + ([[.int ((at_ (rowsAt v0.rows v2.toNat) 0).toI), .int ((at_ (rowsAt v0.rows v2.toNat) 1).toI)]] : List Row).length) * 16 ≤ 140737488355328 then
 X v0 v1 (Go.IntKind.i64.wrap (v2 + 1)) (appC v3 ([[.int ((at_ (rowsAt v0.rows v2.toNat) 0).toI), .int ((at_ (rowsAt v0.rows v2.toNat) 1).toI)]] : List Row))
 else none
 else none
 else
 some (0, [.r [v3]])
theorem claplaw3_twos_s0 (E : Env) (X : List PV → Option (Nat × List PV)) (v0 : C) (v1 : Int) (v2 : Int) (v3 : C) : stepOf E claplaw3_twos_c0 claplaw3_twos_h0 claplaw3_twos_o0 X [.r [v0], .r [.int v1], .r [.int v2], .r [v3]] = claplaw3_twos_b0 E (fun (v0 : C) (v1 : Int) (v2 : Int) (v3 : C) => X [.r [v0], .r [.int v1], .r [.int v2], .r [v3]]) v0 v1 v2 v3 := by kernel_rfl
def claplaw3_twos_a : AFun := { ps := [(.one (.sl 32))], rs := [(.one (.sl 38))], res := [(false, 2, (some lA2))], body := (.seq (.region [] [oq 2 (.mov (.c (.one (.sl 38)) [.nils]))] false 0)
 (.seq (.region [] [oq 3 (.nilS 0 38 lA2)] false 1)
 (.seq (.seq (.region [] [oq 6 (.mov (.t 0)),
 oq 7 (.lenL (.t 6)),
 oq 8 (.mov (.c lI [.int 0]))] false 0)
 (.block 0 (.loop claplaw3_twos_h0 claplaw3_twos_o0 claplaw3_twos_c0)))
 (.seq (.region [] [oq 21 (.mov (.t 3)),
 oq 2 (.mov (.t 21))] false 0)
 .ret)))) }
noncomputable def claplaw3_twos (E : Env) (p0 : C) : Option (List Row) :=
 (claplaw3_twos_l0 E p0 (p0.rows.length : Int) 0 .nils).bind fun x1 =>
 some [[gC 0 x1.2]]
theorem claplaw3_twos_eq (E : Env) (p0 : C) : runP E claplaw3_twos_a [[p0]] = claplaw3_twos E p0 := by kernel_rfl

def claplaw3_AlignPairs_h0 : Shape := { slots := [(2, .d lS), (3, .d (.one (.ref 24))), (4, .d (.one (.ref 24))), (53, .d (.one (.sl 32))), (54, .d lI), (55, .d lI)], objs := [] }
def claplaw3_AlignPairs_o0 : List (Exit' × Shape) := [(.exit 0, { slots := [(2, .d lS), (3, .d (.one (.ref 24))), (4, .d (.one (.ref 24)))], objs := [] }), (.ret, { slots := [(6, .d lB)], objs := [] })]
def claplaw3_AlignPairs_c0 : ACode := (.seq (.region [] [oq 56 (.icmp .lss (.t 55) (.t 54))] false 0)
 (.seq (.cond (.t 56) .skip
 (.exit 0))
 (.seq (.block 1 (.seq (.region [] [oq 57 (.mov (.t 55)),
 oq 58 (.iad 32 lA2 (.t 53) (.t 55)),
 oq 59 (.ld lA2 32 (.t 58)),
 oq 11 (.allocO 0 lA2 [.int 0, .int 0]),
 oq 10 (.mov (.t 57)),
 ⟨none, .st lA2 (.t 11) (.t 59), none, []⟩] false 1)
 (.seq (.region [] [oq 60 (.fad 0 1 32 3 (.t 11)),
 oq 61 (.ld lI 3 (.t 60)),
 oq 62 (.mov (.t 10)),
 oq 63 (.icmp .neq (.t 61) (.t 62)),
 oq 64 (.mov (.t 63)),
 ⟨some 65, .fad 1 1 32 3 (.t 11), some (64, false), []⟩,
 ⟨some 66, .ld lI 3 (.t 65), some (64, false), []⟩,
 ⟨some 67, .mov (.t 10), some (64, false), []⟩,
 ⟨some 68, .icmp .neq (.t 66) (.t 67), some (64, false), []⟩,
 oq 69 (.pick (.t 64) (.c lB [.bool true]) (.t 68))] false 0)
 (.cond (.t 69) (.seq (.region [] [oq 6 (.mov (.c lB [.bool false]))] false 0)
 .ret)
 .skip))))
 (.region [] [oq 70 (.ibin .add (.t 55) (.c lI [.int 1])),
 oq 55 (.mov (.t 70))] false 0))))
noncomputable def claplaw3_AlignPairs_l0 (E : Env) (v0 : List UInt8) (v1 : C) (v2 : C) (v3 : C) (v4 : Int) (v5 : Int) : Option (Nat × List PV) := E.fix (stepOf E claplaw3_AlignPairs_c0 claplaw3_AlignPairs_h0 claplaw3_AlignPairs_o0) [.r [.str v0], .r [v1], .r [v2], .r [v3], .r [.int v4], .r [.int v5]]
noncomputable def claplaw3_AlignPairs_b0 (E : Env) (X : List UInt8 → C → C → C → Int → Int → Option (Nat × List PV)) (v0 : List UInt8) (v1 : C) (v2 : C) (v3 : C) (v4 : Int) (v5 : Int) : Option (Nat × List PV) :=
 if (decide (v5 < v4)) = true then
 if (0 : Int) ≤ v5 ∧ v5 < (v3.rows.length : Int) then
 let K13 : Bool → Option (Nat × List PV) := fun q14 =>
 if q14 = true then
 some (1, [.r [.bool false]])
 else
 X v0 v1 v2 v3 v4 (Go.IntKind.i64.wrap (v5 + 1))
 if (((at_ (rowsAt v3.rows v5.toNat) 0).toI) != v5) = true then
 K13 true
 else
 K13 (((at_ (rowsAt v3.rows v5.toNat) 1).toI) != v5)
 else none
 else
 some (0, [.r [.str v0], .r [v1], .r [v2]])
theorem claplaw3_AlignPairs_s0 (E : Env) (X : List PV → Option (Nat × List PV)) (v0 : List UInt8) (v1 : C) (v2 : C) (v3 : C) (v4 : Int) (v5 : Int) : stepOf E claplaw3_AlignPairs_c0 claplaw3_AlignPairs_h0 claplaw3_AlignPairs_o0 X [.r [.str v0], .r [v1], .r [v2], .r [v3], .r [.int v4], .r [.int v5]] = claplaw3_AlignPairs_b0 E (fun (v0 : List UInt8) (v1 : C) (v2 : C) (v3 : C) (v4 : Int) (v5 : Int) => X [.r [.str v0], .r [v1], .r [v2], .r [v3], .r [.int v4], .r [.int v5]]) v0 v1 v2 v3 v4 v5 := by kernel_rfl
def claplaw3_AlignPairs_a : AFun := { ps := [lA1, lA1, lS], rs := [lB], res := [(false, 6, none)], body := (.seq (.region [] [oq 3 (.boxP lA1 24 (.t 0)),
 oq 4 (.boxP lA1 24 (.t 1)),
 oq 6 (.mov (.c lB [.bool false]))] false 0)
 (.seq (.seq (.region [] [oq 14 (.call 4 [] [lB] []),
 oq 15 (.not (.t 14))] false 0)
 (.cond (.t 15) (.seq (.region [] [oq 6 (.mov (.c lB [.bool false]))] false 0)
 .ret)
 .skip))
 (.seq (.region [] [oq 17 (.ld lA1 24 (.t 3)),
 oq 18 (.ld lA1 24 (.t 4)),
 oq 19 (.call 5 [lA1, lA1] [(.one (.sl 32)), lI] [(.t 17), (.t 18)]),
 oq 16 (.mov (.t 19)),
 oq 20 (.ext 0 (.t 16)),
 oq 21 (.ext 1 (.t 16)),
 oq 7 (.mov (.t 20)),
 oq 8 (.mov (.t 21))] false 0)
 (.seq (.region [] [oq 22 (.ld lA1 24 (.t 3)),
 oq 23 (.ld lA1 24 (.t 4)),
 oq 24 (.call 6 [lA1, lA1] [lI] [(.t 22), (.t 23)]),
 oq 9 (.mov (.t 24))] false 0)
 (.seq (.seq (.join [(.normal, { slots := [(2, .d lS), (3, .d (.one (.ref 24))), (4, .d (.one (.ref 24))), (7, .d (.one (.sl 32))), (52, .d lB)], objs := [] })] (.region [] [oq 25 (.mov (.t 8)),
 oq 26 (.mov (.t 9)),
 oq 27 (.icmp .neq (.t 25) (.t 26)),
 oq 28 (.mov (.t 27)),
 ⟨some 29, .mov (.t 8), some (28, false), []⟩,
 ⟨some 30, .icmp .neq (.t 29) (.c lI [.int 0]), some (28, false), []⟩,
 ⟨some 31, .mov (.t 30), some (28, false), []⟩,
 ⟨some 32, .mov (.t 7), some (31, true), []⟩,
 ⟨some 33, .lenL (.t 32), some (31, true), []⟩,
 ⟨some 34, .icmp .gtr (.t 33) (.c lI [.int 0]), some (31, true), []⟩,
 ⟨some 35, .pick (.t 31) (.t 34) (.c lB [.bool false]), some (28, false), []⟩,
 oq 36 (.pick (.t 28) (.c lB [.bool true]) (.t 35)),
 oq 37 (.mov (.t 36)),
 ⟨some 38, .mov (.t 8), some (37, false), []⟩,
 ⟨some 39, .icmp .eql (.t 38) (.c lI [.int 0]), some (37, false), []⟩,
 ⟨some 40, .mov (.t 39), some (37, false), []⟩,
 ⟨some 41, .mov (.t 7), some (40, true), []⟩,
 ⟨some 42, .lenL (.t 41), some (40, true), []⟩,
 ⟨some 43, .fad 3 1 24 22 (.t 3), some (40, true), []⟩,
 ⟨some 44, .ld (.one (.sl 47)) 22 (.t 43), some (40, true), []⟩,
 ⟨some 45, .lenL (.t 44), some (40, true), []⟩,
 ⟨some 46, .fad 3 1 24 22 (.t 4), some (40, true), []⟩,
 ⟨some 47, .ld (.one (.sl 47)) 22 (.t 46), some (40, true), []⟩,
 ⟨some 48, .lenL (.t 47), some (40, true), []⟩,
 ⟨some 49, .imin false [(.t 45), (.t 48)], some (40, true), []⟩,
 ⟨some 50, .icmp .neq (.t 42) (.t 49), some (40, true), []⟩,
 ⟨some 51, .pick (.t 40) (.t 50) (.c lB [.bool false]), some (37, false), []⟩,
 oq 52 (.pick (.t 37) (.c lB [.bool true]) (.t 51))] false 0))
 (.cond (.t 52) (.seq (.region [] [oq 6 (.mov (.c lB [.bool false]))] false 0)
 .ret)
 .skip))
 (.seq (.seq (.region [] [oq 53 (.mov (.t 7)),
 oq 54 (.lenL (.t 53)),
 oq 55 (.mov (.c lI [.int 0]))] false 0)
 (.block 0 (.loop claplaw3_AlignPairs_h0 claplaw3_AlignPairs_o0 claplaw3_AlignPairs_c0)))
 (.seq (.region [] [oq 72 (.ld lA1 24 (.t 3)),
 oq 73 (.ld lA1 24 (.t 4)),
 oq 74 (.mov (.t 2)),
 oq 75 (.call 7 [lA1, lA1, lS] [(.one (.sl 32)), lI] [(.t 72), (.t 73), (.t 74)]),
 oq 71 (.mov (.t 75)),
 oq 76 (.ext 0 (.t 71)),
 oq 77 (.ext 1 (.t 71)),
 oq 12 (.mov (.t 76)),
 oq 8 (.mov (.t 77))] false 0)
 (.seq (.region [] [oq 79 (.ld lA1 24 (.t 3)),
 oq 80 (.ld lA1 24 (.t 4)),
 oq 81 (.mov (.t 2)),
 oq 82 (.call 8 [lA1, lA1, lS] [(.one (.sl 38)), lI] [(.t 79), (.t 80), (.t 81)]),
 oq 78 (.mov (.t 82)),
 oq 83 (.ext 0 (.t 78)),
 oq 84 (.ext 1 (.t 78)),
 oq 13 (.mov (.t 83)),
 oq 9 (.mov (.t 84))] false 0)
 (.seq (.region [] [oq 85 (.mov (.t 8)),
 oq 86 (.mov (.t 9)),
 oq 87 (.icmp .eql (.t 85) (.t 86)),
 oq 88 (.mov (.t 87)),
 ⟨some 89, .mov (.t 12), some (88, true), []⟩,
 ⟨some 90, .call 10 [(.one (.sl 32))] [(.one (.sl 38))] [(.t 89)], some (88, true), []⟩,
 ⟨some 91, .mov (.t 13), some (88, true), []⟩,
 ⟨some 92, .call 9 [(.one (.sl 38)), (.one (.sl 38))] [lB] [(.t 90), (.t 91)], some (88, true), []⟩,
 oq 93 (.pick (.t 88) (.t 92) (.c lB [.bool false])),
 oq 6 (.mov (.t 93))] false 0)
 .ret))))))))) }
noncomputable def claplaw3_AlignPairs (E : Env) (p0 : Row) (p1 : Row) (p2 : List UInt8) : Option (List Row) :=
 (E.pc n_claplaw3_aligned []).bind fun y1 =>
 if (!((at_ (rowsAt y1 0) 0).toB)) = true then
 some [[.bool false]]
 else
 (E.pc n_align_ByIndex [p0, p1]).bind fun y2 =>
 (E.pc n_clapref3_Lists [p0, p1]).bind fun y3 =>
 (let K4 : Bool → Option (Nat × List PV) := fun q5 =>
 let K6 : Bool → Option (Nat × List PV) := fun q7 =>
 some (0, [.r [.str p2], .r [.dp p0], .r [.dp p1], .r [at_ (rowsAt y2 0) 0], .r [.bool q7]])
 if q5 = true then
 K6 true
 else
 let K8 : Bool → Option (Nat × List PV) := fun q9 =>
 K6 q9
 if (((at_ (rowsAt y2 1) 0).toI) == 0) = true then
 K8 ((((at_ (rowsAt y2 0) 0).rows).length : Int) != (if (((at_ p1 3).rows).length : Int) < (((at_ p0 3).rows).length : Int) then (((at_ p1 3).rows).length : Int) else (((at_ p0 3).rows).length : Int)))
 else
 K8 false
 if (((at_ (rowsAt y2 1) 0).toI) != ((at_ (rowsAt y3 0) 0).toI)) = true then
 K4 true
 else
 let K10 : Bool → Option (Nat × List PV) := fun q11 =>
 K4 q11
 if (((at_ (rowsAt y2 1) 0).toI) != 0) = true then
 K10 (decide ((((at_ (rowsAt y2 0) 0).rows).length : Int) > 0))
 else
 K10 false).bind fun x12 =>
 if (gB 4 x12.2) = true then
 some [[.bool false]]
 else
 (claplaw3_AlignPairs_l0 E (gS 0 x12.2) (gC 1 x12.2) (gC 2 x12.2) (gC 3 x12.2) (((gC 3 x12.2).rows).length : Int) 0).bind fun x15 =>
 match x15.1 with
 | 0 =>
 if (gC 1 x15.2).isDp = true then
 if (gC 2 x15.2).isDp = true then
 (E.pc n_align_ByKey [(gC 1 x15.2).dpRow, (gC 2 x15.2).dpRow, [.str (gS 0 x15.2)]]).bind fun y17 =>
 if (gC 1 x15.2).isDp = true then
 if (gC 2 x15.2).isDp = true then
 (E.pc n_clapref3_ByKey [(gC 1 x15.2).dpRow, (gC 2 x15.2).dpRow, [.str (gS 0 x15.2)]]).bind fun y18 =>
 let K19 : Bool → Option (List Row) := fun q20 =>
 some [[.bool q20]]
 if (((at_ (rowsAt y17 1) 0).toI) == ((at_ (rowsAt y18 1) 0).toI)) = true then
 (E.pc n_claplaw3_twos [[at_ (rowsAt y17 0) 0]]).bind fun y21 =>
 (E.pc n_slices_Equal_clapref3_Two [[at_ (rowsAt y21 0) 0], [at_ (rowsAt y18 0) 0]]).bind fun y22 =>
 K19 ((at_ (rowsAt y22 0) 0).toB)
 else
 K19 false
 else none
 else none
 else none
 else none
 | i16 + 1 =>
 some [[.bool (gB 0 x15.2)]]
theorem claplaw3_AlignPairs_eq (E : Env) (p0 : Row) (p1 : Row) (p2 : List UInt8) : runP E claplaw3_AlignPairs_a [p0, p1, [.str p2]] = claplaw3_AlignPairs E p0 p1 p2 := by kernel_rfl
end Go.Ev
