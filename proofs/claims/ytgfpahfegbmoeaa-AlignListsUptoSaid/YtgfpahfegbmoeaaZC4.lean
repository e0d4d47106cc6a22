/-
  A part of the proof: what the functions of the program compute.
-/
import Derived.Test.YtgfpahfegbmoeaaZNum
set_option linter.all false
set_option maxRecDepth 100000
namespace Go.Ev
def clapref3_Exchanged_h1 : Shape := { slots := [(3, .d (.one (.sl 37))), (5, .ptr 0 0), (6, .d lI), (7, .d (.one (.sl 37))), (8, .d lI), (9, .d lI)], objs := [.var lA2] }
def clapref3_Exchanged_o1 : List (Exit' × Shape) := [(.exit 2, { slots := [(3, .d (.one (.sl 37))), (5, .ptr 0 0), (6, .d lI), (7, .d (.one (.sl 37))), (8, .d lI), (9, .d lI)], objs := [.var lA2] })]
def clapref3_Exchanged_c1 : ACode := (.seq (.seq (.region [] [oq 15 (.mov (.t 6)),
 ⟨some 16, .icmp .gtr (.t 15) (.c lI [.int 0]), none, [0]⟩,
 ⟨some 17, .mov (.t 16), none, [0, 1]⟩,
 ⟨some 18, .mov (.t 3), some (17, true), [0, 1, 2]⟩,
 ⟨some 19, .mov (.t 6), some (17, true), [0, 1, 2]⟩,
 ⟨some 20, .ibin .sub (.t 19) (.c lI [.int 1]), some (17, true), [0, 1, 2, 4]⟩,
 ⟨some 21, .iad 37 lA2 (.t 18) (.t 20), some (17, true), [0, 1, 2, 3, 4, 5]⟩,
 ⟨some 22, .fad 1 1 37 3 (.t 21), some (17, true), [0, 1, 2, 3, 4, 5, 6]⟩,
 ⟨some 23, .ld lI 3 (.t 22), some (17, true), [0, 1, 2, 3, 4, 5, 6, 7]⟩,
 ⟨some 24, .fad 0 1 37 3 (.t 5), some (17, true), [0, 1, 2]⟩,
 ⟨some 25, .ld lI 3 (.t 24), some (17, true), [0, 1, 2, 9]⟩,
 ⟨some 26, .icmp .gtr (.t 23) (.t 25), some (17, true), [0, 1, 2, 3, 4, 5, 6, 7, 8, 9, 10]⟩,
 ⟨some 27, .pick (.t 17) (.t 26) (.c lB [.bool false]), none, [0, 1, 2, 3, 4, 5, 6, 7, 8, 9, 10, 11]⟩] true 0)
 (.cond (.t 27) .skip
 (.exit 2)))
 (.block 3 (.region [] [oq 28 (.mov (.t 6)),
 oq 29 (.ibin .sub (.t 28) (.c lI [.int 1])),
 oq 6 (.mov (.t 29))] false 0)))
noncomputable def clapref3_Exchanged_l1 (E : Env) (v0 : C) (v1 : Int) (v2 : C) (v3 : Int) (v4 : Int) (v5 : Row) : Option (Nat × List PV) := E.fix (stepOf E clapref3_Exchanged_c1 clapref3_Exchanged_h1 clapref3_Exchanged_o1) [.r [v0], .r [.int v1], .r [v2], .r [.int v3], .r [.int v4], .r v5]
noncomputable def clapref3_Exchanged_b1 (E : Env) (X : C → Int → C → Int → Int → Row → Option (Nat × List PV)) (v0 : C) (v1 : Int) (v2 : C) (v3 : Int) (v4 : Int) (v5 : Row) : Option (Nat × List PV) :=
 let K1 : Bool → Option (Nat × List PV) := fun q2 =>
 if q2 = true then
 X v0 (Go.IntKind.i64.wrap (v1 - 1)) v2 v3 v4 v5
 else
 some (0, [.r [v0], .r [.int v1], .r [v2], .r [.int v3], .r [.int v4], .r v5])
 if (decide (v1 > 0)) = true then
 if (0 : Int) ≤ (Go.IntKind.i64.wrap (v1 - 1)) ∧ (Go.IntKind.i64.wrap (v1 - 1)) < (v0.rows.length : Int) then
 K1 (decide (((at_ (rowsAt v0.rows ((Go.IntKind.i64.wrap (v1 - 1)).toNat)) 1).toI) > ((at_ v5 0).toI)))
 else none
 else
 K1 false
theorem clapref3_Exchanged_s1 (E : Env) (X : List PV → Option (Nat × List PV)) (v0 : C) (v1 : Int) (v2 : C) (v3 : Int) (v4 : Int) (v5 : Row) : stepOf E clapref3_Exchanged_c1 clapref3_Exchanged_h1 clapref3_Exchanged_o1 X [.r [v0], .r [.int v1], .r [v2], .r [.int v3], .r [.int v4], .r v5] = clapref3_Exchanged_b1 E (fun (v0 : C) (v1 : Int) (v2 : C) (v3 : Int) (v4 : Int) (v5 : Row) => X [.r [v0], .r [.int v1], .r [v2], .r [.int v3], .r [.int v4], .r v5]) v0 v1 v2 v3 v4 v5 := by kernel_rfl
def clapref3_Exchanged_h0 : Shape := { slots := [(3, .d (.one (.sl 37))), (7, .d (.one (.sl 37))), (8, .d lI), (9, .d lI)], objs := [] }
def clapref3_Exchanged_o0 : List (Exit' × Shape) := [(.exit 0, { slots := [(3, .d (.one (.sl 37)))], objs := [] })]
def clapref3_Exchanged_c0 : ACode := (.seq (.region [] [oq 10 (.icmp .lss (.t 9) (.t 8))] false 0)
 (.seq (.cond (.t 10) .skip
 (.exit 0))
 (.seq (.block 1 (.seq (.region [] [oq 11 (.iad 37 lA2 (.t 7) (.t 9)),
 oq 12 (.ld lA2 37 (.t 11)),
 oq 5 (.allocO 0 lA2 [.int 0, .int 0]),
 ⟨none, .st lA2 (.t 5) (.t 12), none, []⟩] false 1)
 (.seq (.region [] [oq 13 (.mov (.t 3)),
 oq 14 (.lenL (.t 13)),
 oq 6 (.mov (.t 14))] false 0)
 (.seq (.block 2 (.loop clapref3_Exchanged_h1 clapref3_Exchanged_o1 clapref3_Exchanged_c1))
 (.region [] [oq 30 (.mov (.t 3)),
 oq 31 (.mov (.t 6)),
 oq 32 (.fad 1 1 37 3 (.t 5)),
 oq 33 (.ld lI 3 (.t 32)),
 oq 34 (.fad 0 1 37 3 (.t 5)),
 oq 35 (.ld lI 3 (.t 34)),
 oq 36 (.bld lA2 [.int 0, .int 0] [(0, 1, (.t 33)), (1, 1, (.t 35))]),
 oq 37 (.bsl 37 lA2 1 [.int 0, .int 0] [(0, (.t 36))]),
 oq 38 (.call 23 [(.one (.sl 37)), lI, lI, (.one (.sl 37))] [(.one (.sl 37))] [(.t 30), (.t 31), (.c lI [.int 0]), (.t 37)]),
 oq 3 (.mov (.t 38))] false 0)))))
 (.region [] [oq 39 (.ibin .add (.t 9) (.c lI [.int 1])),
 oq 9 (.mov (.t 39))] false 0))))
noncomputable def clapref3_Exchanged_l0 (E : Env) (v0 : C) (v1 : C) (v2 : Int) (v3 : Int) : Option (Nat × List PV) := E.fix (stepOf E clapref3_Exchanged_c0 clapref3_Exchanged_h0 clapref3_Exchanged_o0) [.r [v0], .r [v1], .r [.int v2], .r [.int v3]]
noncomputable def clapref3_Exchanged_b0 (E : Env) (X : C → C → Int → Int → Option (Nat × List PV)) (v0 : C) (v1 : C) (v2 : Int) (v3 : Int) : Option (Nat × List PV) :=
 if (decide (v3 < v2)) = true then
 if (0 : Int) ≤ v3 ∧ v3 < (v1.rows.length : Int) then
 (clapref3_Exchanged_l1 E v0 (v0.rows.length : Int) v1 v2 v3 (rowsAt v1.rows v3.toNat)).bind fun x3 =>
 (E.pc n_clapref3_spliced_clapref3_Two [[gC 0 x3.2], [.int (gI 1 x3.2)], [.int 0], [.sl ([[.int ((at_ (gR 5 x3.2) 1).toI), .int (gI 5 x3.2)]] : List Row)]]).bind fun y4 =>
 X (at_ (rowsAt y4 0) 0) (gC 2 x3.2) (gI 3 x3.2) (Go.IntKind.i64.wrap ((gI 4 x3.2) + 1))
 else none
 else
 some (0, [.r [v0]])
theorem clapref3_Exchanged_s0 (E : Env) (X : List PV → Option (Nat × List PV)) (v0 : C) (v1 : C) (v2 : Int) (v3 : Int) : stepOf E clapref3_Exchanged_c0 clapref3_Exchanged_h0 clapref3_Exchanged_o0 X [.r [v0], .r [v1], .r [.int v2], .r [.int v3]] = clapref3_Exchanged_b0 E (fun (v0 : C) (v1 : C) (v2 : Int) (v3 : Int) => X [.r [v0], .r [v1], .r [.int v2], .r [.int v3]]) v0 v1 v2 v3 := by kernel_rfl
def clapref3_Exchanged_a : AFun := { ps := [(.one (.sl 37))], rs := [(.one (.sl 37))], res := [(false, 2, (some lA2))], body := (.seq (.region [] [oq 2 (.mov (.c (.one (.sl 37)) [.nils]))] false 0)
 (.seq (.region [] [oq 3 (.mov (.c (.one (.sl 37)) [.nils]))] false 0)
 (.seq (.seq (.region [] [oq 7 (.mov (.t 0)),
 oq 8 (.lenL (.t 7)),
 oq 9 (.mov (.c lI [.int 0]))] false 0)
 (.block 0 (.loop clapref3_Exchanged_h0 clapref3_Exchanged_o0 clapref3_Exchanged_c0)))
 (.seq (.region [] [oq 40 (.mov (.t 3)),
 oq 2 (.mov (.t 40))] false 0)
 .ret)))) }
noncomputable def clapref3_Exchanged (E : Env) (p0 : C) : Option (List Row) :=
 (clapref3_Exchanged_l0 E .nils p0 (p0.rows.length : Int) 0).bind fun x5 =>
 some [[gC 0 x5.2]]
theorem clapref3_Exchanged_eq (E : Env) (p0 : C) : runP E clapref3_Exchanged_a [[p0]] = clapref3_Exchanged E p0 := by kernel_rfl

def align_Compose_h1 : Shape := { slots := [(0, .d (.one (.sl 27))), (5, .sw 0), (7, .ptr 1 0), (10, .d (.one (.sl 27))), (11, .d lI), (12, .d lI), (16, .d (.one (.sl 27))), (17, .d lI), (18, .d lI)], objs := [.sarr 27 lA2, .var lA2] }
def align_Compose_o1 : List (Exit' × Shape) := [(.exit 2, { slots := [(0, .d (.one (.sl 27))), (5, .sw 0), (10, .d (.one (.sl 27))), (11, .d lI), (12, .d lI)], objs := [.sarr 27 lA2] })]
def align_Compose_c1 : ACode := (.seq (.region [] [oq 19 (.icmp .lss (.t 18) (.t 17))] false 0)
 (.seq (.cond (.t 19) .skip
 (.exit 2))
 (.seq (.block 3 (.seq (.region [] [oq 20 (.iad 27 lA2 (.t 16) (.t 18)),
 oq 21 (.ld lA2 27 (.t 20)),
 oq 9 (.allocO 0 lA2 [.int 0, .int 0]),
 ⟨none, .st lA2 (.t 9) (.t 21), none, []⟩] false 1)
 (.seq (.region [] [oq 22 (.fad 1 1 27 3 (.t 9)),
 oq 23 (.ld lI 3 (.t 22)),
 oq 24 (.fad 0 1 27 3 (.t 7)),
 oq 25 (.ld lI 3 (.t 24)),
 oq 26 (.icmp .eql (.t 23) (.t 25))] false 0)
 (.cond (.t 26) (.seq (.region [] [oq 27 (.mov (.t 5)),
 oq 28 (.fad 0 1 27 3 (.t 9)),
 oq 29 (.ld lI 3 (.t 28)),
 oq 30 (.fad 1 1 27 3 (.t 7)),
 oq 31 (.ld lI 3 (.t 30)),
 oq 32 (.bld lA2 [.int 0, .int 0] [(0, 1, (.t 29)), (1, 1, (.t 31))]),
 oq 33 (.bsl 27 lA2 1 [.int 0, .int 0] [(0, (.t 32))]),
 oq 34 (.appW 0 27 lA2 16 (.t 27) (.t 33)),
 oq 5 (.mov (.t 34))] false 1)
 (.exit 2))
 .skip))))
 (.region [] [oq 35 (.ibin .add (.t 18) (.c lI [.int 1])),
 oq 18 (.mov (.t 35))] false 0))))
noncomputable def align_Compose_l1 (E : Env) (v0 : C) (v1 : C) (v2 : Int) (v3 : Int) (v4 : C) (v5 : Int) (v6 : Int) (v7 : C) (v8 : Row) : Option (Nat × List PV) := E.fix (stepOf E align_Compose_c1 align_Compose_h1 align_Compose_o1) [.r [v0], .r [v1], .r [.int v2], .r [.int v3], .r [v4], .r [.int v5], .r [.int v6], .r [v7], .r v8]
noncomputable def align_Compose_b1 (E : Env) (X : C → C → Int → Int → C → Int → Int → C → Row → Option (Nat × List PV)) (v0 : C) (v1 : C) (v2 : Int) (v3 : Int) (v4 : C) (v5 : Int) (v6 : Int) (v7 : C) (v8 : Row) : Option (Nat × List PV) :=
 if (decide (v6 < v5)) = true then
 if (0 : Int) ≤ v6 ∧ v6 < (v4.rows.length : Int) then
 if (((at_ (rowsAt v4.rows v6.toNat) 1).toI) == ((at_ v8 0).toI)) = true then
 if (v7.rows.length + ([[.int ((at_ (rowsAt v4.rows v6.toNat) 0).toI), .int ((at_ v8 1).toI)]] : List Row).length) * 16 ≤ 140737488355328 then
 some (0, [.r [v0], .r [v1], .r [.int v2], .r [.int v3], .r [appC v7 ([[.int ((at_ (rowsAt v4.rows v6.toNat) 0).toI), .int ((at_ v8 1).toI)]] : List Row)]])
 else none
 else
 X v0 v1 v2 v3 v4 v5 (Go.IntKind.i64.wrap (v6 + 1)) v7 v8
 else none
 else
 some (0, [.r [v0], .r [v1], .r [.int v2], .r [.int v3], .r [v7]])
theorem align_Compose_s1 (E : Env) (X : List PV → Option (Nat × List PV)) (v0 : C) (v1 : C) (v2 : Int) (v3 : Int) (v4 : C) (v5 : Int) (v6 : Int) (v7 : C) (v8 : Row) : stepOf E align_Compose_c1 align_Compose_h1 align_Compose_o1 X [.r [v0], .r [v1], .r [.int v2], .r [.int v3], .r [v4], .r [.int v5], .r [.int v6], .r [v7], .r v8] = align_Compose_b1 E (fun (v0 : C) (v1 : C) (v2 : Int) (v3 : Int) (v4 : C) (v5 : Int) (v6 : Int) (v7 : C) (v8 : Row) => X [.r [v0], .r [v1], .r [.int v2], .r [.int v3], .r [v4], .r [.int v5], .r [.int v6], .r [v7], .r v8]) v0 v1 v2 v3 v4 v5 v6 v7 v8 := by kernel_rfl
def align_Compose_h0 : Shape := { slots := [(0, .d (.one (.sl 27))), (5, .sw 0), (10, .d (.one (.sl 27))), (11, .d lI), (12, .d lI)], objs := [.sarr 27 lA2] }
def align_Compose_o0 : List (Exit' × Shape) := [(.exit 0, { slots := [(5, .sw 0)], objs := [.sarr 27 lA2] })]
def align_Compose_c0 : ACode := (.seq (.region [] [oq 13 (.icmp .lss (.t 12) (.t 11))] false 0)
 (.seq (.cond (.t 13) .skip
 (.exit 0))
 (.seq (.block 1 (.seq (.region [] [oq 14 (.iad 27 lA2 (.t 10) (.t 12)),
 oq 15 (.ld lA2 27 (.t 14)),
 oq 7 (.allocO 0 lA2 [.int 0, .int 0]),
 ⟨none, .st lA2 (.t 7) (.t 15), none, []⟩] false 1)
 (.seq (.region [] [oq 16 (.mov (.t 0)),
 oq 17 (.lenL (.t 16)),
 oq 18 (.mov (.c lI [.int 0]))] false 0)
 (.block 2 (.loop align_Compose_h1 align_Compose_o1 align_Compose_c1)))))
 (.region [] [oq 36 (.ibin .add (.t 12) (.c lI [.int 1])),
 oq 12 (.mov (.t 36))] false 0))))
noncomputable def align_Compose_l0 (E : Env) (v0 : C) (v1 : C) (v2 : Int) (v3 : Int) (v4 : C) : Option (Nat × List PV) := E.fix (stepOf E align_Compose_c0 align_Compose_h0 align_Compose_o0) [.r [v0], .r [v1], .r [.int v2], .r [.int v3], .r [v4]]
noncomputable def align_Compose_b0 (E : Env) (X : C → C → Int → Int → C → Option (Nat × List PV)) (v0 : C) (v1 : C) (v2 : Int) (v3 : Int) (v4 : C) : Option (Nat × List PV) :=
 if (decide (v3 < v2)) = true then
 if (0 : Int) ≤ v3 ∧ v3 < (v1.rows.length : Int) then
 (align_Compose_l1 E v0 v1 v2 v3 v0 (v0.rows.length : Int) 0 v4 (rowsAt v1.rows v3.toNat)).bind fun x1 =>
 X (gC 0 x1.2) (gC 1 x1.2) (gI 2 x1.2) (Go.IntKind.i64.wrap ((gI 3 x1.2) + 1)) (gC 4 x1.2)
 else none
 else
 some (0, [.r [v4]])
theorem align_Compose_s0 (E : Env) (X : List PV → Option (Nat × List PV)) (v0 : C) (v1 : C) (v2 : Int) (v3 : Int) (v4 : C) : stepOf E align_Compose_c0 align_Compose_h0 align_Compose_o0 X [.r [v0], .r [v1], .r [.int v2], .r [.int v3], .r [v4]] = align_Compose_b0 E (fun (v0 : C) (v1 : C) (v2 : Int) (v3 : Int) (v4 : C) => X [.r [v0], .r [v1], .r [.int v2], .r [.int v3], .r [v4]]) v0 v1 v2 v3 v4 := by kernel_rfl
def align_Compose_a : AFun := { ps := [(.one (.sl 27)), (.one (.sl 27))], rs := [(.one (.sl 27))], res := [(false, 4, (some lA2))], body := (.seq (.region [] [oq 4 (.mov (.c (.one (.sl 27)) [.nils]))] false 0)
 (.seq (.region [] [oq 5 (.nilS 0 27 lA2)] false 1)
 (.seq (.seq (.region [] [oq 10 (.mov (.t 1)),
 oq 11 (.lenL (.t 10)),
 oq 12 (.mov (.c lI [.int 0]))] false 0)
 (.block 0 (.loop align_Compose_h0 align_Compose_o0 align_Compose_c0)))
 (.seq (.region [] [oq 37 (.mov (.t 5)),
 oq 4 (.mov (.t 37))] false 0)
 .ret)))) }
noncomputable def align_Compose (E : Env) (p0 : C) (p1 : C) : Option (List Row) :=
 (align_Compose_l0 E p0 p1 (p1.rows.length : Int) 0 .nils).bind fun x2 =>
 some [[gC 0 x2.2]]
theorem align_Compose_eq (E : Env) (p0 : C) (p1 : C) : runP E align_Compose_a [[p0], [p1]] = align_Compose E p0 p1 := by kernel_rfl

def clapref3_Joined_h0 : Shape := { slots := [(0, .d (.one (.sl 37))), (1, .d (.one (.sl 37))), (5, .map 0), (6, .d lI)], objs := [.map lI lI] }
def clapref3_Joined_o0 : List (Exit' × Shape) := [(.exit 0, { slots := [(1, .d (.one (.sl 37))), (5, .map 0)], objs := [.map lI lI] })]
def clapref3_Joined_c0 : ACode := (.seq (.seq (.region [] [oq 16 (.mov (.t 6)),
 oq 17 (.icmp .geq (.t 16) (.c lI [.int 0]))] false 0)
 (.cond (.t 17) .skip
 (.exit 0)))
 (.seq (.block 1 (.region [] [oq 20 (.mov (.t 5)),
 oq 21 (.mov (.t 0)),
 oq 22 (.mov (.t 6)),
 ⟨some 23, .iad 37 lA2 (.t 21) (.t 22), none, [1, 2]⟩,
 ⟨some 24, .fad 1 1 37 3 (.t 23), none, [1, 2, 3]⟩,
 ⟨some 25, .ld lI 3 (.t 24), none, [1, 2, 3, 4]⟩,
 oq 26 (.mov (.t 0)),
 oq 27 (.mov (.t 6)),
 ⟨some 28, .iad 37 lA2 (.t 26) (.t 27), none, [6, 7]⟩,
 ⟨some 29, .fad 0 1 37 3 (.t 28), none, [6, 7, 8]⟩,
 ⟨some 30, .ld lI 3 (.t 29), none, [6, 7, 8, 9]⟩,
 ⟨none, .mup lI (.t 20) (.t 25) (.t 30), none, [0, 1, 2, 3, 4, 5, 6, 7, 8, 9, 10]⟩] true 0))
 (.region [] [oq 18 (.mov (.t 6)),
 oq 19 (.ibin .sub (.t 18) (.c lI [.int 1])),
 oq 6 (.mov (.t 19))] false 0)))
noncomputable def clapref3_Joined_l0 (E : Env) (v0 : C) (v1 : C) (v2 : Int) (v3 : List (Row × Row)) : Option (Nat × List PV) := E.fix (stepOf E clapref3_Joined_c0 clapref3_Joined_h0 clapref3_Joined_o0) [.r [v0], .r [v1], .r [.int v2], .m v3]
noncomputable def clapref3_Joined_b0 (E : Env) (X : C → C → Int → List (Row × Row) → Option (Nat × List PV)) (v0 : C) (v1 : C) (v2 : Int) (v3 : List (Row × Row)) : Option (Nat × List PV) :=
 if (decide (v2 ≥ 0)) = true then
 if (0 : Int) ≤ v2 ∧ v2 < (v0.rows.length : Int) then
 if (0 : Int) ≤ v2 ∧ v2 < (v0.rows.length : Int) then
 X v0 v1 (Go.IntKind.i64.wrap (v2 - 1)) (setE lI [.int ((at_ (rowsAt v0.rows v2.toNat) 1).toI)] [.int ((at_ (rowsAt v0.rows v2.toNat) 0).toI)] v3)
 else none
 else none
 else
 some (0, [.r [v1], .m v3])
theorem clapref3_Joined_s0 (E : Env) (X : List PV → Option (Nat × List PV)) (v0 : C) (v1 : C) (v2 : Int) (v3 : List (Row × Row)) : stepOf E clapref3_Joined_c0 clapref3_Joined_h0 clapref3_Joined_o0 X [.r [v0], .r [v1], .r [.int v2], .m v3] = clapref3_Joined_b0 E (fun (v0 : C) (v1 : C) (v2 : Int) (v3 : List (Row × Row)) => X [.r [v0], .r [v1], .r [.int v2], .m v3]) v0 v1 v2 v3 := by kernel_rfl
def clapref3_Joined_h1 : Shape := { slots := [(5, .map 0), (7, .sw 1), (31, .d (.one (.sl 37))), (32, .d lI), (33, .d lI)], objs := [.map lI lI, .sarr 37 lA2] }
def clapref3_Joined_o1 : List (Exit' × Shape) := [(.exit 2, { slots := [(7, .sw 0)], objs := [.sarr 37 lA2] })]
def clapref3_Joined_c1 : ACode := (.seq (.region [] [oq 34 (.icmp .lss (.t 33) (.t 32))] false 0)
 (.seq (.cond (.t 34) .skip
 (.exit 2))
 (.seq (.block 3 (.seq (.region [] [oq 35 (.iad 37 lA2 (.t 31) (.t 33)),
 oq 36 (.ld lA2 37 (.t 35)),
 oq 9 (.allocO 0 lA2 [.int 0, .int 0]),
 ⟨none, .st lA2 (.t 9) (.t 36), none, []⟩] false 1)
 (.seq (.region [] [oq 38 (.mov (.t 5)),
 oq 39 (.fad 0 1 37 3 (.t 9)),
 oq 40 (.ld lI 3 (.t 39)),
 oq 41 (.lk lI lI [.int 0] (.t 38) (.t 40) true),
 oq 37 (.mov (.t 41)),
 oq 42 (.ext 0 (.t 37)),
 oq 43 (.ext 1 (.t 37)),
 oq 10 (.mov (.t 42)),
 oq 11 (.mov (.t 43))] false 0)
 (.seq (.region [] [oq 44 (.mov (.t 11))] false 0)
 (.cond (.t 44) (.region [] [oq 45 (.mov (.t 7)),
 oq 46 (.mov (.t 10)),
 oq 47 (.fad 1 1 37 3 (.t 9)),
 oq 48 (.ld lI 3 (.t 47)),
 oq 49 (.bld lA2 [.int 0, .int 0] [(0, 1, (.t 46)), (1, 1, (.t 48))]),
 oq 50 (.bsl 37 lA2 1 [.int 0, .int 0] [(0, (.t 49))]),
 oq 51 (.appW 0 37 lA2 16 (.t 45) (.t 50)),
 oq 7 (.mov (.t 51))] false 1)
 .skip)))))
 (.region [] [oq 52 (.ibin .add (.t 33) (.c lI [.int 1])),
 oq 33 (.mov (.t 52))] false 0))))
noncomputable def clapref3_Joined_l1 (E : Env) (v0 : C) (v1 : Int) (v2 : Int) (v3 : List (Row × Row)) (v4 : C) : Option (Nat × List PV) := E.fix (stepOf E clapref3_Joined_c1 clapref3_Joined_h1 clapref3_Joined_o1) [.r [v0], .r [.int v1], .r [.int v2], .m v3, .r [v4]]
noncomputable def clapref3_Joined_b1 (E : Env) (X : C → Int → Int → List (Row × Row) → C → Option (Nat × List PV)) (v0 : C) (v1 : Int) (v2 : Int) (v3 : List (Row × Row)) (v4 : C) : Option (Nat × List PV) :=
 if (decide (v2 < v1)) = true then
 if (0 : Int) ≤ v2 ∧ v2 < (v0.rows.length : Int) then
 if ((findE lI [.int ((at_ (rowsAt v0.rows v2.toNat) 0).toI)] v3).isSome) = true then
 if (v4.rows.length + ([[.int ((at_ ((findE lI [.int ((at_ (rowsAt v0.rows v2.toNat) 0).toI)] v3).getD [.int 0]) 0).toI), .int ((at_ (rowsAt v0.rows v2.toNat) 1).toI)]] : List Row).length) * 16 ≤ 140737488355328 then
 X v0 v1 (Go.IntKind.i64.wrap (v2 + 1)) v3 (appC v4 ([[.int ((at_ ((findE lI [.int ((at_ (rowsAt v0.rows v2.toNat) 0).toI)] v3).getD [.int 0]) 0).toI), .int ((at_ (rowsAt v0.rows v2.toNat) 1).toI)]] : List Row))
 else none
 else
 X v0 v1 (Go.IntKind.i64.wrap (v2 + 1)) v3 v4
 else none
 else
 some (0, [.r [v4]])
theorem clapref3_Joined_s1 (E : Env) (X : List PV → Option (Nat × List PV)) (v0 : C) (v1 : Int) (v2 : Int) (v3 : List (Row × Row)) (v4 : C) : stepOf E clapref3_Joined_c1 clapref3_Joined_h1 clapref3_Joined_o1 X [.r [v0], .r [.int v1], .r [.int v2], .m v3, .r [v4]] = clapref3_Joined_b1 E (fun (v0 : C) (v1 : Int) (v2 : Int) (v3 : List (Row × Row)) (v4 : C) => X [.r [v0], .r [.int v1], .r [.int v2], .m v3, .r [v4]]) v0 v1 v2 v3 v4 := by kernel_rfl
def clapref3_Joined_a : AFun := { ps := [(.one (.sl 37)), (.one (.sl 37))], rs := [(.one (.sl 37))], res := [(false, 4, (some lA2))], body := (.seq (.region [] [oq 4 (.mov (.c (.one (.sl 37)) [.nils]))] false 0)
 (.seq (.region [] [oq 12 (.mkm 0 lI lI),
 oq 5 (.mov (.t 12))] false 1)
 (.seq (.seq (.region [] [oq 13 (.mov (.t 0)),
 oq 14 (.lenL (.t 13)),
 oq 15 (.ibin .sub (.t 14) (.c lI [.int 1])),
 oq 6 (.mov (.t 15))] false 0)
 (.block 0 (.loop clapref3_Joined_h0 clapref3_Joined_o0 clapref3_Joined_c0)))
 (.seq (.region [] [oq 7 (.nilS 0 37 lA2)] false 1)
 (.seq (.seq (.region [] [oq 31 (.mov (.t 1)),
 oq 32 (.lenL (.t 31)),
 oq 33 (.mov (.c lI [.int 0]))] false 0)
 (.block 2 (.loop clapref3_Joined_h1 clapref3_Joined_o1 clapref3_Joined_c1)))
 (.seq (.region [] [oq 53 (.mov (.t 7)),
 oq 4 (.mov (.t 53))] false 0)
 .ret)))))) }
noncomputable def clapref3_Joined (E : Env) (p0 : C) (p1 : C) : Option (List Row) :=
 (clapref3_Joined_l0 E p0 p1 (Go.IntKind.i64.wrap ((p0.rows.length : Int) - 1)) []).bind fun x1 =>
 (clapref3_Joined_l1 E (gC 0 x1.2) (((gC 0 x1.2).rows).length : Int) 0 (gM 1 x1.2) .nils).bind fun x2 =>
 some [[gC 0 x2.2]]
theorem clapref3_Joined_eq (E : Env) (p0 : C) (p1 : C) : runP E clapref3_Joined_a [[p0], [p1]] = clapref3_Joined E p0 p1 := by kernel_rfl

def align_Crossings_h1 : Shape := { slots := [(0, .d (.one (.sl 27))), (3, .d lI), (5, .ptr 0 0), (8, .d (.one (.sl 27))), (9, .d lI), (10, .d lI), (17, .d (.one (.sl 27))), (18, .d lI), (19, .d lI)], objs := [.var lA2] }
def align_Crossings_o1 : List (Exit' × Shape) := [(.exit 2, { slots := [(0, .d (.one (.sl 27))), (3, .d lI), (8, .d (.one (.sl 27))), (9, .d lI), (10, .d lI)], objs := [] })]
def align_Crossings_c1 : ACode := (.seq (.region [] [oq 20 (.icmp .lss (.t 19) (.t 18))] false 0)
 (.seq (.cond (.t 20) .skip
 (.exit 2))
 (.seq (.join [(.normal, { slots := [(0, .d (.one (.sl 27))), (3, .d lI), (5, .ptr 0 0), (8, .d (.one (.sl 27))), (9, .d lI), (10, .d lI), (17, .d (.one (.sl 27))), (18, .d lI), (19, .d lI)], objs := [.var lA2] })] (.block 3 (.seq (.region [] [oq 21 (.iad 27 lA2 (.t 17) (.t 19)),
 oq 22 (.ld lA2 27 (.t 21)),
 oq 7 (.allocO 0 lA2 [.int 0, .int 0]),
 ⟨none, .st lA2 (.t 7) (.t 22), none, []⟩] false 1)
 (.seq (.region [] [oq 23 (.fad 0 1 27 3 (.t 5)),
 oq 24 (.ld lI 3 (.t 23)),
 oq 25 (.fad 0 1 27 3 (.t 7)),
 oq 26 (.ld lI 3 (.t 25)),
 oq 27 (.icmp .lss (.t 24) (.t 26)),
 oq 28 (.mov (.t 27)),
 ⟨some 29, .fad 1 1 27 3 (.t 5), some (28, true), []⟩,
 ⟨some 30, .ld lI 3 (.t 29), some (28, true), []⟩,
 ⟨some 31, .fad 1 1 27 3 (.t 7), some (28, true), []⟩,
 ⟨some 32, .ld lI 3 (.t 31), some (28, true), []⟩,
 ⟨some 33, .icmp .gtr (.t 30) (.t 32), some (28, true), []⟩,
 oq 34 (.pick (.t 28) (.t 33) (.c lB [.bool false])),
 oq 35 (.mov (.t 34)),
 ⟨some 36, .fad 0 1 27 3 (.t 5), some (35, false), []⟩,
 ⟨some 37, .ld lI 3 (.t 36), some (35, false), []⟩,
 ⟨some 38, .fad 0 1 27 3 (.t 7), some (35, false), []⟩,
 ⟨some 39, .ld lI 3 (.t 38), some (35, false), []⟩,
 ⟨some 40, .icmp .gtr (.t 37) (.t 39), some (35, false), []⟩,
 ⟨some 41, .mov (.t 40), some (35, false), []⟩,
 ⟨some 42, .fad 1 1 27 3 (.t 5), some (41, true), []⟩,
 ⟨some 43, .ld lI 3 (.t 42), some (41, true), []⟩,
 ⟨some 44, .fad 1 1 27 3 (.t 7), some (41, true), []⟩,
 ⟨some 45, .ld lI 3 (.t 44), some (41, true), []⟩,
 ⟨some 46, .icmp .lss (.t 43) (.t 45), some (41, true), []⟩,
 ⟨some 47, .pick (.t 41) (.t 46) (.c lB [.bool false]), some (35, false), []⟩,
 oq 48 (.pick (.t 35) (.c lB [.bool true]) (.t 47))] false 0)
 (.cond (.t 48) (.region [] [oq 49 (.mov (.t 3)),
 oq 50 (.ibin .add (.t 49) (.c lI [.int 1])),
 oq 3 (.mov (.t 50))] false 0)
 .skip)))))
 (.region [] [oq 51 (.ibin .add (.t 19) (.c lI [.int 1])),
 oq 19 (.mov (.t 51))] false 0))))
noncomputable def align_Crossings_l1 (E : Env) (v0 : C) (v1 : Int) (v2 : C) (v3 : Int) (v4 : Int) (v5 : C) (v6 : Int) (v7 : Int) (v8 : Row) : Option (Nat × List PV) := E.fix (stepOf E align_Crossings_c1 align_Crossings_h1 align_Crossings_o1) [.r [v0], .r [.int v1], .r [v2], .r [.int v3], .r [.int v4], .r [v5], .r [.int v6], .r [.int v7], .r v8]
noncomputable def align_Crossings_b1 (E : Env) (X : C → Int → C → Int → Int → C → Int → Int → Row → Option (Nat × List PV)) (v0 : C) (v1 : Int) (v2 : C) (v3 : Int) (v4 : Int) (v5 : C) (v6 : Int) (v7 : Int) (v8 : Row) : Option (Nat × List PV) :=
 if (decide (v7 < v6)) = true then
 (if (0 : Int) ≤ v7 ∧ v7 < (v5.rows.length : Int) then
 let K1 : Bool → Option (Nat × List PV) := fun q2 =>
 let K3 : Bool → Option (Nat × List PV) := fun q4 =>
 if q4 = true then
 some (0, [.r [v0], .r [.int (Go.IntKind.i64.wrap (v1 + 1))], .r [v2], .r [.int v3], .r [.int v4], .r [v5], .r [.int v6], .r [.int v7], .r v8])
 else
 some (0, [.r [v0], .r [.int v1], .r [v2], .r [.int v3], .r [.int v4], .r [v5], .r [.int v6], .r [.int v7], .r v8])
 if q2 = true then
 K3 true
 else
 let K5 : Bool → Option (Nat × List PV) := fun q6 =>
 K3 q6
 if (decide (((at_ v8 0).toI) > ((at_ (rowsAt v5.rows v7.toNat) 0).toI))) = true then
 K5 (decide (((at_ v8 1).toI) < ((at_ (rowsAt v5.rows v7.toNat) 1).toI)))
 else
 K5 false
 if (decide (((at_ v8 0).toI) < ((at_ (rowsAt v5.rows v7.toNat) 0).toI))) = true then
 K1 (decide (((at_ v8 1).toI) > ((at_ (rowsAt v5.rows v7.toNat) 1).toI)))
 else
 K1 false
 else none).bind fun x7 =>
 X (gC 0 x7.2) (gI 1 x7.2) (gC 2 x7.2) (gI 3 x7.2) (gI 4 x7.2) (gC 5 x7.2) (gI 6 x7.2) (Go.IntKind.i64.wrap ((gI 7 x7.2) + 1)) (gR 8 x7.2)
 else
 some (0, [.r [v0], .r [.int v1], .r [v2], .r [.int v3], .r [.int v4]])
theorem align_Crossings_s1 (E : Env) (X : List PV → Option (Nat × List PV)) (v0 : C) (v1 : Int) (v2 : C) (v3 : Int) (v4 : Int) (v5 : C) (v6 : Int) (v7 : Int) (v8 : Row) : stepOf E align_Crossings_c1 align_Crossings_h1 align_Crossings_o1 X [.r [v0], .r [.int v1], .r [v2], .r [.int v3], .r [.int v4], .r [v5], .r [.int v6], .r [.int v7], .r v8] = align_Crossings_b1 E (fun (v0 : C) (v1 : Int) (v2 : C) (v3 : Int) (v4 : Int) (v5 : C) (v6 : Int) (v7 : Int) (v8 : Row) => X [.r [v0], .r [.int v1], .r [v2], .r [.int v3], .r [.int v4], .r [v5], .r [.int v6], .r [.int v7], .r v8]) v0 v1 v2 v3 v4 v5 v6 v7 v8 := by kernel_rfl
def align_Crossings_h0 : Shape := { slots := [(0, .d (.one (.sl 27))), (3, .d lI), (8, .d (.one (.sl 27))), (9, .d lI), (10, .d lI)], objs := [] }
def align_Crossings_o0 : List (Exit' × Shape) := [(.exit 0, { slots := [(3, .d lI)], objs := [] })]
def align_Crossings_c0 : ACode := (.seq (.region [] [oq 11 (.icmp .lss (.t 10) (.t 9))] false 0)
 (.seq (.cond (.t 11) .skip
 (.exit 0))
 (.seq (.block 1 (.seq (.region [] [oq 12 (.mov (.t 10)),
 oq 13 (.iad 27 lA2 (.t 8) (.t 10)),
 oq 14 (.ld lA2 27 (.t 13)),
 oq 5 (.allocO 0 lA2 [.int 0, .int 0]),
 oq 4 (.mov (.t 12)),
 ⟨none, .st lA2 (.t 5) (.t 14), none, []⟩] false 1)
 (.seq (.region [] [oq 15 (.mov (.t 0)),
 oq 16 (.mov (.t 4)),
 oq 17 (.slc 27 lA2 (.t 15) none (some (.t 16))),
 oq 18 (.lenL (.t 17)),
 oq 19 (.mov (.c lI [.int 0]))] false 0)
 (.block 2 (.loop align_Crossings_h1 align_Crossings_o1 align_Crossings_c1)))))
 (.region [] [oq 52 (.ibin .add (.t 10) (.c lI [.int 1])),
 oq 10 (.mov (.t 52))] false 0))))
noncomputable def align_Crossings_l0 (E : Env) (v0 : C) (v1 : Int) (v2 : C) (v3 : Int) (v4 : Int) : Option (Nat × List PV) := E.fix (stepOf E align_Crossings_c0 align_Crossings_h0 align_Crossings_o0) [.r [v0], .r [.int v1], .r [v2], .r [.int v3], .r [.int v4]]
noncomputable def align_Crossings_b0 (E : Env) (X : C → Int → C → Int → Int → Option (Nat × List PV)) (v0 : C) (v1 : Int) (v2 : C) (v3 : Int) (v4 : Int) : Option (Nat × List PV) :=
 if (decide (v4 < v3)) = true then
 if (0 : Int) ≤ v4 ∧ v4 < (v2.rows.length : Int) then
 if (0 : Int) ≤ 0 ∧ 0 ≤ v4 ∧ v4 ≤ (v0.rows.length : Int) then
 (align_Crossings_l1 E v0 v1 v2 v3 v4 (slcC v0 0 v4) (((slcC v0 0 v4).rows).length : Int) 0 (rowsAt v2.rows v4.toNat)).bind fun x8 =>
 X (gC 0 x8.2) (gI 1 x8.2) (gC 2 x8.2) (gI 3 x8.2) (Go.IntKind.i64.wrap ((gI 4 x8.2) + 1))
 else none
 else none
 else
 some (0, [.r [.int v1]])
theorem align_Crossings_s0 (E : Env) (X : List PV → Option (Nat × List PV)) (v0 : C) (v1 : Int) (v2 : C) (v3 : Int) (v4 : Int) : stepOf E align_Crossings_c0 align_Crossings_h0 align_Crossings_o0 X [.r [v0], .r [.int v1], .r [v2], .r [.int v3], .r [.int v4]] = align_Crossings_b0 E (fun (v0 : C) (v1 : Int) (v2 : C) (v3 : Int) (v4 : Int) => X [.r [v0], .r [.int v1], .r [v2], .r [.int v3], .r [.int v4]]) v0 v1 v2 v3 v4 := by kernel_rfl
def align_Crossings_a : AFun := { ps := [(.one (.sl 27))], rs := [lI], res := [(false, 2, none)], body := (.seq (.region [] [oq 2 (.mov (.c lI [.int 0]))] false 0)
 (.seq (.region [] [oq 3 (.mov (.c lI [.int 0]))] false 0)
 (.seq (.seq (.region [] [oq 8 (.mov (.t 0)),
 oq 9 (.lenL (.t 8)),
 oq 10 (.mov (.c lI [.int 0]))] false 0)
 (.block 0 (.loop align_Crossings_h0 align_Crossings_o0 align_Crossings_c0)))
 (.seq (.region [] [oq 53 (.mov (.t 3)),
 oq 2 (.mov (.t 53))] false 0)
 .ret)))) }
noncomputable def align_Crossings (E : Env) (p0 : C) : Option (List Row) :=
 (align_Crossings_l0 E p0 0 p0 (p0.rows.length : Int) 0).bind fun x9 =>
 some [[.int (gI 0 x9.2)]]
theorem align_Crossings_eq (E : Env) (p0 : C) : runP E align_Crossings_a [[p0]] = align_Crossings E p0 := by kernel_rfl

def clapref3_Crossings_h1 : Shape := { slots := [(0, .d (.one (.sl 37))), (3, .d lI), (4, .d lI), (5, .d lI), (9, .d lI), (10, .d lI)], objs := [] }
def clapref3_Crossings_o1 : List (Exit' × Shape) := [(.exit 2, { slots := [(0, .d (.one (.sl 37))), (3, .d lI), (9, .d lI), (10, .d lI)], objs := [] })]
def clapref3_Crossings_c1 : ACode := (.seq (.seq (.region [] [oq 15 (.mov (.t 5)),
 oq 16 (.mov (.t 0)),
 oq 17 (.lenL (.t 16)),
 oq 18 (.icmp .lss (.t 15) (.t 17))] false 0)
 (.cond (.t 18) .skip
 (.exit 2)))
 (.seq (.join [(.normal, { slots := [(0, .d (.one (.sl 37))), (3, .d lI), (4, .d lI), (5, .d lI), (9, .d lI), (10, .d lI)], objs := [] })] (.block 3 (.seq (.region [] [oq 21 (.mov (.t 0)),
 oq 22 (.mov (.t 4)),
 ⟨some 23, .iad 37 lA2 (.t 21) (.t 22), none, [0, 1]⟩,
 ⟨some 24, .ld lA2 37 (.t 23), none, [0, 1, 2]⟩,
 oq 25 (.mov (.t 0)),
 oq 26 (.mov (.t 5)),
 ⟨some 27, .iad 37 lA2 (.t 25) (.t 26), none, [4, 5]⟩,
 ⟨some 28, .ld lA2 37 (.t 27), none, [4, 5, 6]⟩,
 oq 6 (.allocO 0 lA2 [.int 0, .int 0]),
 oq 7 (.allocO 1 lA2 [.int 0, .int 0]),
 ⟨none, .st lA2 (.t 6) (.t 24), none, [0, 1, 2, 3, 8, 9]⟩,
 ⟨none, .st lA2 (.t 7) (.t 28), none, [0, 1, 2, 3, 4, 5, 6, 7, 8, 9, 10]⟩] true 2)
 (.seq (.seq (.region [] [oq 29 (.fad 0 1 37 3 (.t 6)),
 oq 30 (.ld lI 3 (.t 29)),
 oq 31 (.fad 0 1 37 3 (.t 7)),
 oq 32 (.ld lI 3 (.t 31)),
 oq 33 (.icmp .gtr (.t 30) (.t 32))] false 0)
 (.join [(.normal, { slots := [(0, .d (.one (.sl 37))), (3, .d lI), (4, .d lI), (5, .d lI), (6, .ptr 0 0), (7, .ptr 1 0), (9, .d lI), (10, .d lI)], objs := [.var lA2, .var lA2] })] (.cond (.t 33) (.region [] [oq 34 (.ld lA2 37 (.t 7)),
 oq 35 (.ld lA2 37 (.t 6)),
 ⟨none, .st lA2 (.t 6) (.t 34), none, []⟩,
 ⟨none, .st lA2 (.t 7) (.t 35), none, []⟩] false 0)
 .skip)))
 (.seq (.region [] [oq 36 (.fad 0 1 37 3 (.t 6)),
 oq 37 (.ld lI 3 (.t 36)),
 oq 38 (.fad 0 1 37 3 (.t 7)),
 oq 39 (.ld lI 3 (.t 38)),
 oq 40 (.icmp .lss (.t 37) (.t 39)),
 oq 41 (.mov (.t 40)),
 ⟨some 42, .fad 1 1 37 3 (.t 6), some (41, true), []⟩,
 ⟨some 43, .ld lI 3 (.t 42), some (41, true), []⟩,
 ⟨some 44, .fad 1 1 37 3 (.t 7), some (41, true), []⟩,
 ⟨some 45, .ld lI 3 (.t 44), some (41, true), []⟩,
 ⟨some 46, .icmp .gtr (.t 43) (.t 45), some (41, true), []⟩,
 oq 47 (.pick (.t 41) (.t 46) (.c lB [.bool false]))] false 0)
 (.cond (.t 47) (.region [] [oq 48 (.mov (.t 3)),
 oq 49 (.ibin .add (.t 48) (.c lI [.int 1])),
 oq 3 (.mov (.t 49))] false 0)
 .skip))))))
 (.region [] [oq 19 (.mov (.t 5)),
 oq 20 (.ibin .add (.t 19) (.c lI [.int 1])),
 oq 5 (.mov (.t 20))] false 0)))
noncomputable def clapref3_Crossings_l1 (E : Env) (v0 : C) (v1 : Int) (v2 : Int) (v3 : Int) (v4 : Int) (v5 : Int) : Option (Nat × List PV) := E.fix (stepOf E clapref3_Crossings_c1 clapref3_Crossings_h1 clapref3_Crossings_o1) [.r [v0], .r [.int v1], .r [.int v2], .r [.int v3], .r [.int v4], .r [.int v5]]
noncomputable def clapref3_Crossings_b1 (E : Env) (X : C → Int → Int → Int → Int → Int → Option (Nat × List PV)) (v0 : C) (v1 : Int) (v2 : Int) (v3 : Int) (v4 : Int) (v5 : Int) : Option (Nat × List PV) :=
 if (decide (v3 < (v0.rows.length : Int))) = true then
 (if (0 : Int) ≤ v2 ∧ v2 < (v0.rows.length : Int) then
 if (0 : Int) ≤ v3 ∧ v3 < (v0.rows.length : Int) then
 (if (decide (((at_ (rowsAt v0.rows v2.toNat) 0).toI) > ((at_ (rowsAt v0.rows v3.toNat) 0).toI))) = true then
 some (0, [.r [v0], .r [.int v1], .r [.int v2], .r [.int v3], .r [.int v4], .r [.int v5], .r (rowsAt v0.rows v3.toNat), .r (rowsAt v0.rows v2.toNat)])
 else
 some (0, [.r [v0], .r [.int v1], .r [.int v2], .r [.int v3], .r [.int v4], .r [.int v5], .r (rowsAt v0.rows v2.toNat), .r (rowsAt v0.rows v3.toNat)])).bind fun x1 =>
 let K2 : Bool → Option (Nat × List PV) := fun q3 =>
 if q3 = true then
 some (0, [.r [gC 0 x1.2], .r [.int (Go.IntKind.i64.wrap ((gI 1 x1.2) + 1))], .r [.int (gI 2 x1.2)], .r [.int (gI 3 x1.2)], .r [.int (gI 4 x1.2)], .r [.int (gI 5 x1.2)]])
 else
 some (0, [.r [gC 0 x1.2], .r [.int (gI 1 x1.2)], .r [.int (gI 2 x1.2)], .r [.int (gI 3 x1.2)], .r [.int (gI 4 x1.2)], .r [.int (gI 5 x1.2)]])
 if (decide ((gI 6 x1.2) < (gI 7 x1.2))) = true then
 K2 (decide (((at_ (gR 6 x1.2) 1).toI) > ((at_ (gR 7 x1.2) 1).toI)))
 else
 K2 false
 else none
 else none).bind fun x4 =>
 X (gC 0 x4.2) (gI 1 x4.2) (gI 2 x4.2) (Go.IntKind.i64.wrap ((gI 3 x4.2) + 1)) (gI 4 x4.2) (gI 5 x4.2)
 else
 some (0, [.r [v0], .r [.int v1], .r [.int v4], .r [.int v5]])
theorem clapref3_Crossings_s1 (E : Env) (X : List PV → Option (Nat × List PV)) (v0 : C) (v1 : Int) (v2 : Int) (v3 : Int) (v4 : Int) (v5 : Int) : stepOf E clapref3_Crossings_c1 clapref3_Crossings_h1 clapref3_Crossings_o1 X [.r [v0], .r [.int v1], .r [.int v2], .r [.int v3], .r [.int v4], .r [.int v5]] = clapref3_Crossings_b1 E (fun (v0 : C) (v1 : Int) (v2 : Int) (v3 : Int) (v4 : Int) (v5 : Int) => X [.r [v0], .r [.int v1], .r [.int v2], .r [.int v3], .r [.int v4], .r [.int v5]]) v0 v1 v2 v3 v4 v5 := by kernel_rfl
def clapref3_Crossings_h0 : Shape := { slots := [(0, .d (.one (.sl 37))), (3, .d lI), (9, .d lI), (10, .d lI)], objs := [] }
def clapref3_Crossings_o0 : List (Exit' × Shape) := [(.exit 0, { slots := [(3, .d lI)], objs := [] })]
def clapref3_Crossings_c0 : ACode := (.seq (.region [] [oq 11 (.icmp .lss (.t 10) (.t 9))] false 0)
 (.seq (.cond (.t 11) .skip
 (.exit 0))
 (.seq (.block 1 (.seq (.region [] [oq 12 (.mov (.t 10)),
 oq 4 (.mov (.t 12))] false 0)
 (.seq (.region [] [oq 13 (.mov (.t 4)),
 oq 14 (.ibin .add (.t 13) (.c lI [.int 1])),
 oq 5 (.mov (.t 14))] false 0)
 (.block 2 (.loop clapref3_Crossings_h1 clapref3_Crossings_o1 clapref3_Crossings_c1)))))
 (.region [] [oq 50 (.ibin .add (.t 10) (.c lI [.int 1])),
 oq 10 (.mov (.t 50))] false 0))))
noncomputable def clapref3_Crossings_l0 (E : Env) (v0 : C) (v1 : Int) (v2 : Int) (v3 : Int) : Option (Nat × List PV) := E.fix (stepOf E clapref3_Crossings_c0 clapref3_Crossings_h0 clapref3_Crossings_o0) [.r [v0], .r [.int v1], .r [.int v2], .r [.int v3]]
noncomputable def clapref3_Crossings_b0 (E : Env) (X : C → Int → Int → Int → Option (Nat × List PV)) (v0 : C) (v1 : Int) (v2 : Int) (v3 : Int) : Option (Nat × List PV) :=
 if (decide (v3 < v2)) = true then
 (clapref3_Crossings_l1 E v0 v1 v3 (Go.IntKind.i64.wrap (v3 + 1)) v2 v3).bind fun x5 =>
 X (gC 0 x5.2) (gI 1 x5.2) (gI 2 x5.2) (Go.IntKind.i64.wrap ((gI 3 x5.2) + 1))
 else
 some (0, [.r [.int v1]])
theorem clapref3_Crossings_s0 (E : Env) (X : List PV → Option (Nat × List PV)) (v0 : C) (v1 : Int) (v2 : Int) (v3 : Int) : stepOf E clapref3_Crossings_c0 clapref3_Crossings_h0 clapref3_Crossings_o0 X [.r [v0], .r [.int v1], .r [.int v2], .r [.int v3]] = clapref3_Crossings_b0 E (fun (v0 : C) (v1 : Int) (v2 : Int) (v3 : Int) => X [.r [v0], .r [.int v1], .r [.int v2], .r [.int v3]]) v0 v1 v2 v3 := by kernel_rfl
def clapref3_Crossings_a : AFun := { ps := [(.one (.sl 37))], rs := [lI], res := [(false, 2, none)], body := (.seq (.region [] [oq 2 (.mov (.c lI [.int 0]))] false 0)
 (.seq (.region [] [oq 3 (.mov (.c lI [.int 0]))] false 0)
 (.seq (.seq (.region [] [oq 8 (.mov (.t 0)),
 oq 9 (.lenL (.t 8)),
 oq 10 (.mov (.c lI [.int 0]))] false 0)
 (.block 0 (.loop clapref3_Crossings_h0 clapref3_Crossings_o0 clapref3_Crossings_c0)))
 (.seq (.region [] [oq 51 (.mov (.t 3)),
 oq 2 (.mov (.t 51))] false 0)
 .ret)))) }
noncomputable def clapref3_Crossings (E : Env) (p0 : C) : Option (List Row) :=
 (clapref3_Crossings_l0 E p0 0 (p0.rows.length : Int) 0).bind fun x6 =>
 some [[.int (gI 0 x6.2)]]
theorem clapref3_Crossings_eq (E : Env) (p0 : C) : runP E clapref3_Crossings_a [[p0]] = clapref3_Crossings E p0 := by kernel_rfl

def claplaw3_AlignLists_a : AFun := { ps := [(.one (.sl 27)), (.one (.sl 27)), lI, lI], rs := [lB], res := [(false, 8, none)], body := (.seq (.region [] [oq 8 (.mov (.c lB [.bool false]))] false 0)
 (.seq (.seq (.join [(.normal, { slots := [(0, .d (.one (.sl 27))), (1, .d (.one (.sl 27))), (2, .d lI), (3, .d lI), (24, .d lB)], objs := [] })] (.region [] [oq 17 (.call 4 [] [lB] []),
 oq 18 (.not (.t 17)),
 oq 19 (.mov (.t 18)),
 ⟨some 20, .bld lA2 [.int 0, .int 0] [(0, 1, (.c lI [.int 0])), (1, 1, (.c lI [.int 1]))], some (19, false), []⟩,
 ⟨some 21, .bsl 27 lA2 1 [.int 0, .int 0] [(0, (.t 20))], some (19, false), []⟩,
 ⟨some 22, .call 5 [(.one (.sl 27)), lI, lI] [lI] [(.t 21), (.c lI [.int 1]), (.c lI [.int 1])], some (19, false), []⟩,
 ⟨some 23, .icmp .neq (.t 22) (.c lI [.int 11]), some (19, false), []⟩,
 oq 24 (.pick (.t 19) (.c lB [.bool true]) (.t 23))] false 0))
 (.cond (.t 24) (.seq (.region [] [oq 8 (.mov (.c lB [.bool false]))] false 0)
 .ret)
 .skip))
 (.seq (.region [] [oq 25 (.mov (.t 0)),
 oq 26 (.call 6 [(.one (.sl 27))] [(.one (.sl 37))] [(.t 25)]),
 oq 27 (.mov (.t 1)),
 oq 28 (.call 6 [(.one (.sl 27))] [(.one (.sl 37))] [(.t 27)]),
 oq 9 (.mov (.t 26)),
 oq 10 (.mov (.t 28))] false 0)
 (.seq (.region [] [oq 30 (.mov (.t 0)),
 oq 31 (.mov (.t 2)),
 oq 32 (.mov (.t 3)),
 oq 33 (.call 7 [(.one (.sl 27)), lI, lI] [(.one (.sl 3)), (.one (.sl 3)), lI] [(.t 30), (.t 31), (.t 32)]),
 oq 29 (.mov (.t 33)),
 oq 34 (.ext 0 (.t 29)),
 oq 35 (.ext 1 (.t 29)),
 oq 36 (.ext 2 (.t 29)),
 oq 11 (.mov (.t 34)),
 oq 12 (.mov (.t 35)),
 oq 13 (.mov (.t 36))] false 0)
 (.seq (.region [] [oq 38 (.mov (.t 9)),
 oq 39 (.mov (.t 2)),
 oq 40 (.mov (.t 3)),
 oq 41 (.call 8 [(.one (.sl 37)), lI, lI] [(.one (.sl 3)), (.one (.sl 3)), lI] [(.t 38), (.t 39), (.t 40)]),
 oq 37 (.mov (.t 41)),
 oq 42 (.ext 0 (.t 37)),
 oq 43 (.ext 1 (.t 37)),
 oq 44 (.ext 2 (.t 37)),
 oq 14 (.mov (.t 42)),
 oq 15 (.mov (.t 43)),
 oq 16 (.mov (.t 44))] false 0)
 (.seq (.seq (.join [(.normal, { slots := [(0, .d (.one (.sl 27))), (1, .d (.one (.sl 27))), (9, .d (.one (.sl 37))), (10, .d (.one (.sl 37))), (70, .d lB)], objs := [] })] (.region [] [oq 45 (.mov (.t 0)),
 oq 46 (.mov (.t 2)),
 oq 47 (.mov (.t 3)),
 oq 48 (.call 5 [(.one (.sl 27)), lI, lI] [lI] [(.t 45), (.t 46), (.t 47)]),
 oq 49 (.mov (.t 9)),
 oq 50 (.mov (.t 2)),
 oq 51 (.mov (.t 3)),
 oq 52 (.call 9 [(.one (.sl 37)), lI, lI] [lI] [(.t 49), (.t 50), (.t 51)]),
 oq 53 (.icmp .neq (.t 48) (.t 52)),
 oq 54 (.mov (.t 53)),
 ⟨some 55, .mov (.t 13), some (54, false), []⟩,
 ⟨some 56, .mov (.t 16), some (54, false), []⟩,
 ⟨some 57, .icmp .neq (.t 55) (.t 56), some (54, false), []⟩,
 oq 58 (.pick (.t 54) (.c lB [.bool true]) (.t 57)),
 oq 59 (.mov (.t 58)),
 ⟨some 60, .mov (.t 11), some (59, false), []⟩,
 ⟨some 61, .mov (.t 14), some (59, false), []⟩,
 ⟨some 62, .call 10 [(.one (.sl 3)), (.one (.sl 3))] [lB] [(.t 60), (.t 61)], some (59, false), []⟩,
 ⟨some 63, .not (.t 62), some (59, false), []⟩,
 oq 64 (.pick (.t 59) (.c lB [.bool true]) (.t 63)),
 oq 65 (.mov (.t 64)),
 ⟨some 66, .mov (.t 12), some (65, false), []⟩,
 ⟨some 67, .mov (.t 15), some (65, false), []⟩,
 ⟨some 68, .call 10 [(.one (.sl 3)), (.one (.sl 3))] [lB] [(.t 66), (.t 67)], some (65, false), []⟩,
 ⟨some 69, .not (.t 68), some (65, false), []⟩,
 oq 70 (.pick (.t 65) (.c lB [.bool true]) (.t 69))] false 0))
 (.cond (.t 70) (.seq (.region [] [oq 8 (.mov (.c lB [.bool false]))] false 0)
 .ret)
 .skip))
 (.seq (.region [] [oq 71 (.mov (.t 0)),
 oq 72 (.call 12 [(.one (.sl 27))] [(.one (.sl 27))] [(.t 71)]),
 oq 73 (.call 6 [(.one (.sl 27))] [(.one (.sl 37))] [(.t 72)]),
 oq 74 (.mov (.t 9)),
 oq 75 (.call 13 [(.one (.sl 37))] [(.one (.sl 37))] [(.t 74)]),
 oq 76 (.call 11 [(.one (.sl 37)), (.one (.sl 37))] [lB] [(.t 73), (.t 75)]),
 oq 77 (.mov (.t 76)),
 ⟨some 78, .mov (.t 0), some (77, true), []⟩,
 ⟨some 79, .mov (.t 1), some (77, true), []⟩,
 ⟨some 80, .call 14 [(.one (.sl 27)), (.one (.sl 27))] [(.one (.sl 27))] [(.t 78), (.t 79)], some (77, true), []⟩,
 ⟨some 81, .call 6 [(.one (.sl 27))] [(.one (.sl 37))] [(.t 80)], some (77, true), []⟩,
 ⟨some 82, .mov (.t 9), some (77, true), []⟩,
 ⟨some 83, .mov (.t 10), some (77, true), []⟩,
 ⟨some 84, .call 15 [(.one (.sl 37)), (.one (.sl 37))] [(.one (.sl 37))] [(.t 82), (.t 83)], some (77, true), []⟩,
 ⟨some 85, .call 11 [(.one (.sl 37)), (.one (.sl 37))] [lB] [(.t 81), (.t 84)], some (77, true), []⟩,
 oq 86 (.pick (.t 77) (.t 85) (.c lB [.bool false])),
 oq 87 (.mov (.t 86)),
 ⟨some 88, .mov (.t 0), some (87, true), []⟩,
 ⟨some 89, .call 16 [(.one (.sl 27))] [lI] [(.t 88)], some (87, true), []⟩,
 ⟨some 90, .mov (.t 9), some (87, true), []⟩,
 ⟨some 91, .call 17 [(.one (.sl 37))] [lI] [(.t 90)], some (87, true), []⟩,
 ⟨some 92, .icmp .eql (.t 89) (.t 91), some (87, true), []⟩,
 oq 93 (.pick (.t 87) (.t 92) (.c lB [.bool false])),
 oq 8 (.mov (.t 93))] false 0)
 .ret))))))) }
noncomputable def claplaw3_AlignLists (E : Env) (p0 : C) (p1 : C) (p2 : Int) (p3 : Int) : Option (List Row) :=
 ((E.pc n_claplaw3_aligned []).bind fun y1 =>
 let K2 : Bool → Option (Nat × List PV) := fun q3 =>
 some (0, [.r [p0], .r [p1], .r [.int p2], .r [.int p3], .r [.bool q3]])
 if (!((at_ (rowsAt y1 0) 0).toB)) = true then
 K2 true
 else
 (E.pc n_align_Check [[.sl ([[.int 0, .int 1]] : List Row)], [.int 1], [.int 1]]).bind fun y4 =>
 K2 (((at_ (rowsAt y4 0) 0).toI) != 11)).bind fun x5 =>
 if (gB 4 x5.2) = true then
 some [[.bool false]]
 else
 (E.pc n_claplaw3_twos [[gC 0 x5.2]]).bind fun y6 =>
 (E.pc n_claplaw3_twos [[gC 1 x5.2]]).bind fun y7 =>
 (E.pc n_align_Kept [[gC 0 x5.2], [.int (gI 2 x5.2)], [.int (gI 3 x5.2)]]).bind fun y8 =>
 (E.pc n_clapref3_Kept [[at_ (rowsAt y6 0) 0], [.int (gI 2 x5.2)], [.int (gI 3 x5.2)]]).bind fun y9 =>
 ((E.pc n_align_Check [[gC 0 x5.2], [.int (gI 2 x5.2)], [.int (gI 3 x5.2)]]).bind fun y10 =>
 (E.pc n_clapref3_Aligned [[at_ (rowsAt y6 0) 0], [.int (gI 2 x5.2)], [.int (gI 3 x5.2)]]).bind fun y11 =>
 let K12 : Bool → Option (Nat × List PV) := fun q13 =>
 let K14 : Bool → Option (Nat × List PV) := fun q15 =>
 let K16 : Bool → Option (Nat × List PV) := fun q17 =>
 some (0, [.r [gC 0 x5.2], .r [gC 1 x5.2], .r [at_ (rowsAt y6 0) 0], .r [at_ (rowsAt y7 0) 0], .r [.bool q17]])
 if q15 = true then
 K16 true
 else
 (E.pc n_slices_Equal_int [[at_ (rowsAt y8 1) 0], [at_ (rowsAt y9 1) 0]]).bind fun y18 =>
 K16 (!((at_ (rowsAt y18 0) 0).toB))
 if q13 = true then
 K14 true
 else
 (E.pc n_slices_Equal_int [[at_ (rowsAt y8 0) 0], [at_ (rowsAt y9 0) 0]]).bind fun y19 =>
 K14 (!((at_ (rowsAt y19 0) 0).toB))
 if (((at_ (rowsAt y10 0) 0).toI) != ((at_ (rowsAt y11 0) 0).toI)) = true then
 K12 true
 else
 K12 (((at_ (rowsAt y8 2) 0).toI) != ((at_ (rowsAt y9 2) 0).toI))).bind fun x20 =>
 if (gB 4 x20.2) = true then
 some [[.bool false]]
 else
 (E.pc n_align_Invert [[gC 0 x20.2]]).bind fun y21 =>
 (E.pc n_claplaw3_twos [[at_ (rowsAt y21 0) 0]]).bind fun y22 =>
 (E.pc n_clapref3_Exchanged [[gC 2 x20.2]]).bind fun y23 =>
 (E.pc n_slices_Equal_clapref3_Two [[at_ (rowsAt y22 0) 0], [at_ (rowsAt y23 0) 0]]).bind fun y24 =>
 let K25 : Bool → Option (List Row) := fun q26 =>
 let K27 : Bool → Option (List Row) := fun q28 =>
 some [[.bool q28]]
 if q26 = true then
 (E.pc n_align_Crossings [[gC 0 x20.2]]).bind fun y29 =>
 (E.pc n_clapref3_Crossings [[gC 2 x20.2]]).bind fun y30 =>
 K27 (((at_ (rowsAt y29 0) 0).toI) == ((at_ (rowsAt y30 0) 0).toI))
 else
 K27 false
 if ((at_ (rowsAt y24 0) 0).toB) = true then
 (E.pc n_align_Compose [[gC 0 x20.2], [gC 1 x20.2]]).bind fun y31 =>
 (E.pc n_claplaw3_twos [[at_ (rowsAt y31 0) 0]]).bind fun y32 =>
 (E.pc n_clapref3_Joined [[gC 2 x20.2], [gC 3 x20.2]]).bind fun y33 =>
 (E.pc n_slices_Equal_clapref3_Two [[at_ (rowsAt y32 0) 0], [at_ (rowsAt y33 0) 0]]).bind fun y34 =>
 K25 ((at_ (rowsAt y34 0) 0).toB)
 else
 K25 false
theorem claplaw3_AlignLists_eq (E : Env) (p0 : C) (p1 : C) (p2 : Int) (p3 : Int) : runP E claplaw3_AlignLists_a [[p0], [p1], [.int p2], [.int p3]] = claplaw3_AlignLists E p0 p1 p2 p3 := by kernel_rfl
end Go.Ev
