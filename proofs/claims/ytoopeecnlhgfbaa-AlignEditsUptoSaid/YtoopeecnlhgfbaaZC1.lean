/-
  A part of the proof: what the functions of the program compute.
-/
import Derived.Test.YtoopeecnlhgfbaaZNum
set_option linter.all false
set_option maxRecDepth 100000
namespace Go.Ev
def value_keys_h0 : Shape := { slots := [(1, .d (.one (.ref 24))), (6, .d (.one (.sl 46))), (7, .d lI), (8, .d lI)], objs := [] }
def value_keys_o0 : List (Exit' × Shape) := [(.exit 0, { slots := [], objs := [] }), (.ret, { slots := [(2, .d lI)], objs := [] })]
def value_keys_c0 : ACode := (.seq (.region [] [oq 9 (.icmp .lss (.t 8) (.t 7))] false 0)
 (.seq (.cond (.t 9) .skip
 (.exit 0))
 (.seq (.join [(.normal, { slots := [(1, .d (.one (.ref 24))), (6, .d (.one (.sl 46))), (7, .d lI), (8, .d lI)], objs := [] }), (.ret, { slots := [(2, .d lI)], objs := [] })] (.block 1 (.seq (.region [] [oq 10 (.mov (.t 8)),
 oq 11 (.iad 46 lA0 (.t 6) (.t 8)),
 oq 12 (.ld lA0 46 (.t 11)),
 oq 4 (.allocO 0 lA0 [.str [], .int 0, .int 0, .str [], .nils]),
 oq 3 (.mov (.t 10)),
 ⟨none, .st lA0 (.t 4) (.t 12), none, []⟩] false 1)
 (.block 2 (.seq (.join [(.normal, { slots := [(1, .d (.one (.ref 24))), (3, .d lI), (4, .ptr 0 0), (6, .d (.one (.sl 46))), (7, .d lI), (8, .d lI), (13, .d lB)], objs := [.var lA0] })] (.region [] [oq 14 (.fad 0 1 24 3 (.t 1)),
 oq 15 (.ld lI 3 (.t 14)),
 oq 16 (.icmp .eql (.t 15) (.c lI [.int 8])),
 oq 17 (.mov (.t 16)),
 ⟨some 18, .fad 0 1 46 9 (.t 4), some (17, true), []⟩,
 ⟨some 19, .ld lS 9 (.t 18), some (17, true), []⟩,
 ⟨some 20, .scmp .neq (.t 19) (.c lS [.str ([] : List UInt8)]), some (17, true), []⟩,
 oq 21 (.pick (.t 17) (.t 20) (.c lB [.bool false])),
 oq 13 (.mov (.t 21))] false 0))
 (.cond (.t 13) (.seq (.region [] [oq 2 (.mov (.c lI [.int 3]))] false 0)
 .ret)
 (.seq (.region [] [oq 23 (.fad 0 1 24 3 (.t 1)),
 oq 24 (.ld lI 3 (.t 23)),
 oq 25 (.icmp .eql (.t 24) (.c lI [.int 8])),
 oq 22 (.mov (.t 25))] false 0)
 (.cond (.t 22) .skip
 (.seq (.region [] [oq 27 (.fad 0 1 46 9 (.t 4)),
 oq 28 (.ld lS 9 (.t 27)),
 oq 29 (.lenS (.t 28)),
 oq 30 (.icmp .gtr (.t 29) (.c lI [.int 4000])),
 oq 26 (.mov (.t 30))] false 0)
 (.cond (.t 26) (.seq (.region [] [oq 2 (.mov (.c lI [.int 2]))] false 0)
 .ret)
 (.seq (.region [] [oq 32 (.mov (.t 3)),
 ⟨some 33, .icmp .gtr (.t 32) (.c lI [.int 0]), none, [0]⟩,
 ⟨some 34, .mov (.t 33), none, [0, 1]⟩,
 ⟨some 35, .fad 0 1 46 9 (.t 4), some (34, true), [0, 1, 2]⟩,
 ⟨some 36, .ld lS 9 (.t 35), some (34, true), [0, 1, 2, 3]⟩,
 ⟨some 37, .fad 3 1 24 22 (.t 1), some (34, true), [0, 1, 2]⟩,
 ⟨some 38, .ld (.one (.sl 46)) 22 (.t 37), some (34, true), [0, 1, 2, 5]⟩,
 ⟨some 39, .mov (.t 3), some (34, true), [0, 1, 2]⟩,
 ⟨some 40, .ibin .sub (.t 39) (.c lI [.int 1]), some (34, true), [0, 1, 2, 7]⟩,
 ⟨some 41, .iad 46 lA0 (.t 38) (.t 40), some (34, true), [0, 1, 2, 5, 6, 7, 8]⟩,
 ⟨some 42, .fad 0 1 46 9 (.t 41), some (34, true), [0, 1, 2, 5, 6, 7, 8, 9]⟩,
 ⟨some 43, .ld lS 9 (.t 42), some (34, true), [0, 1, 2, 5, 6, 7, 8, 9, 10]⟩,
 ⟨some 44, .scmp .leq (.t 36) (.t 43), some (34, true), [0, 1, 2, 3, 4, 5, 6, 7, 8, 9, 10, 11]⟩,
 ⟨some 45, .pick (.t 34) (.t 44) (.c lB [.bool false]), none, [0, 1, 2, 3, 4, 5, 6, 7, 8, 9, 10, 11, 12]⟩,
 ⟨some 31, .mov (.t 45), none, [0, 1, 2, 3, 4, 5, 6, 7, 8, 9, 10, 11, 12, 13]⟩] true 0)
 (.cond (.t 31) (.seq (.region [] [oq 2 (.mov (.c lI [.int 9]))] false 0)
 .ret)
 .skip))))))))))))
 (.region [] [oq 46 (.ibin .add (.t 8) (.c lI [.int 1])),
 oq 8 (.mov (.t 46))] false 0))))
noncomputable def value_keys_l0 (E : Env) (v0 : C) (v1 : C) (v2 : Int) (v3 : Int) : Option (Nat × List PV) := E.fix (stepOf E value_keys_c0 value_keys_h0 value_keys_o0) [.r [v0], .r [v1], .r [.int v2], .r [.int v3]]
noncomputable def value_keys_b0 (E : Env) (X : C → C → Int → Int → Option (Nat × List PV)) (v0 : C) (v1 : C) (v2 : Int) (v3 : Int) : Option (Nat × List PV) :=
 if (decide (v3 < v2)) = true then
 (if (0 : Int) ≤ v3 ∧ v3 < (v1.rows.length : Int) then
 (if v0.isDp = true then
 let K1 : Bool → Option (Nat × List PV) := fun q2 =>
 some (0, [.r [v0], .r [.int v3], .r [v1], .r [.int v2], .r [.int v3], .r [.bool q2], .r (rowsAt v1.rows v3.toNat)])
 if (((at_ v0.dpRow 0).toI) == 8) = true then
 K1 (!(((at_ (rowsAt v1.rows v3.toNat) 0).toS) == ([] : List UInt8)))
 else
 K1 false
 else none).bind fun x3 =>
 if (gB 5 x3.2) = true then
 some (1, [.r [.int 3]])
 else
 if (gC 0 x3.2).isDp = true then
 if (((at_ ((gC 0 x3.2).dpRow) 0).toI) == 8) = true then
 some (0, [.r [gC 0 x3.2], .r [gC 2 x3.2], .r [.int (gI 3 x3.2)], .r [.int (gI 4 x3.2)]])
 else
 if (decide (((gS 6 x3.2).length : Int) > 4000)) = true then
 some (1, [.r [.int 2]])
 else
 let K4 : Bool → Option (Nat × List PV) := fun q5 =>
 if q5 = true then
 some (1, [.r [.int 9]])
 else
 some (0, [.r [gC 0 x3.2], .r [gC 2 x3.2], .r [.int (gI 3 x3.2)], .r [.int (gI 4 x3.2)]])
 if (decide ((gI 1 x3.2) > 0)) = true then
 if (gC 0 x3.2).isDp = true then
 if (0 : Int) ≤ (Go.IntKind.i64.wrap ((gI 1 x3.2) - 1)) ∧ (Go.IntKind.i64.wrap ((gI 1 x3.2) - 1)) < (((at_ ((gC 0 x3.2).dpRow) 3).rows).length : Int) then
 K4 (Go.Op.bytesLess (gS 6 x3.2) ((at_ (rowsAt ((at_ ((gC 0 x3.2).dpRow) 3).rows) ((Go.IntKind.i64.wrap ((gI 1 x3.2) - 1)).toNat)) 0).toS) || (gS 6 x3.2) == ((at_ (rowsAt ((at_ ((gC 0 x3.2).dpRow) 3).rows) ((Go.IntKind.i64.wrap ((gI 1 x3.2) - 1)).toNat)) 0).toS))
 else none
 else none
 else
 K4 false
 else none
 else none).bind fun x6 =>
 match x6.1 with
 | 0 =>
 X (gC 0 x6.2) (gC 1 x6.2) (gI 2 x6.2) (Go.IntKind.i64.wrap ((gI 3 x6.2) + 1))
 | i7 + 1 =>
 some (1, [.r [.int (gI 0 x6.2)]])
 else
 some (0, [])
theorem value_keys_s0 (E : Env) (X : List PV → Option (Nat × List PV)) (v0 : C) (v1 : C) (v2 : Int) (v3 : Int) : stepOf E value_keys_c0 value_keys_h0 value_keys_o0 X [.r [v0], .r [v1], .r [.int v2], .r [.int v3]] = value_keys_b0 E (fun (v0 : C) (v1 : C) (v2 : Int) (v3 : Int) => X [.r [v0], .r [v1], .r [.int v2], .r [.int v3]]) v0 v1 v2 v3 := by kernel_rfl
def value_keys_a : AFun := { ps := [lA1], rs := [lI], res := [(false, 2, none)], body := (.seq (.region [] [oq 1 (.boxP lA1 24 (.t 0)),
 oq 2 (.mov (.c lI [.int 0]))] false 0)
 (.seq (.seq (.region [] [oq 5 (.fad 3 1 24 22 (.t 1)),
 oq 6 (.ld (.one (.sl 46)) 22 (.t 5)),
 oq 7 (.lenL (.t 6)),
 oq 8 (.mov (.c lI [.int 0]))] false 0)
 (.block 0 (.loop value_keys_h0 value_keys_o0 value_keys_c0)))
 (.seq (.region [] [oq 2 (.mov (.c lI [.int 0]))] false 0)
 .ret))) }
noncomputable def value_keys (E : Env) (p0 : Row) : Option (List Row) :=
 (value_keys_l0 E (.dp p0) (at_ p0 3) (((at_ p0 3).rows).length : Int) 0).bind fun x8 =>
 match x8.1 with
 | 0 =>
 some [[.int 0]]
 | i9 + 1 =>
 some [[.int (gI 0 x8.2)]]
theorem value_keys_eq (E : Env) (p0 : Row) : runP E value_keys_a [p0] = value_keys E p0 := by kernel_rfl

def value_fields_a : AFun := { ps := [lA1], rs := [lI], res := [(false, 2, none)], body := (.seq (.region [] [oq 1 (.boxP lA1 24 (.t 0)),
 oq 2 (.mov (.c lI [.int 0]))] false 0)
 (.seq (.seq (.region [] [oq 3 (.fad 0 1 24 3 (.t 1)),
 oq 4 (.ld lI 3 (.t 3))] false 0)
 (.block 0 (.seq (.region [] [oq 6 (.icmp .eql (.t 4) (.c lI [.int 5])),
 oq 5 (.mov (.t 6))] false 0)
 (.cond (.t 5) (.seq (.region [] [oq 7 (.fad 2 1 24 9 (.t 1)),
 oq 8 (.ld lS 9 (.t 7)),
 oq 9 (.lenS (.t 8)),
 oq 10 (.icmp .gtr (.t 9) (.c lI [.int 4000]))] false 0)
 (.cond (.t 10) (.seq (.region [] [oq 2 (.mov (.c lI [.int 2]))] false 0)
 .ret)
 .skip))
 (.seq (.region [] [oq 12 (.icmp .eql (.t 4) (.c lI [.int 6])),
 oq 11 (.mov (.t 12))] false 0)
 (.cond (.t 11) (.seq (.seq (.region [] [oq 13 (.fad 3 1 24 22 (.t 1)),
 oq 14 (.ld (.one (.sl 46)) 22 (.t 13)),
 oq 15 (.lenL (.t 14)),
 oq 16 (.icmp .gtr (.t 15) (.c lI [.int 24]))] false 0)
 (.cond (.t 16) (.seq (.region [] [oq 2 (.mov (.c lI [.int 2]))] false 0)
 .ret)
 .skip))
 (.seq (.region [] [oq 17 (.fad 3 1 24 22 (.t 1)),
 oq 18 (.ld (.one (.sl 46)) 22 (.t 17)),
 oq 19 (.call 36 [(.one (.sl 46))] [lI] [(.t 18)]),
 oq 2 (.mov (.t 19))] false 0)
 .ret))
 (.seq (.region [] [oq 21 (.icmp .eql (.t 4) (.c lI [.int 7])),
 oq 20 (.mov (.t 21))] false 0)
 (.cond (.t 20) (.seq (.seq (.region [] [oq 22 (.fad 3 1 24 22 (.t 1)),
 oq 23 (.ld (.one (.sl 46)) 22 (.t 22)),
 oq 24 (.lenL (.t 23)),
 oq 25 (.icmp .neq (.t 24) (.c lI [.int 1]))] false 0)
 (.cond (.t 25) (.seq (.region [] [oq 2 (.mov (.c lI [.int 3]))] false 0)
 .ret)
 .skip))
 (.seq (.region [] [oq 26 (.fad 3 1 24 22 (.t 1)),
 oq 27 (.ld (.one (.sl 46)) 22 (.t 26)),
 oq 28 (.call 36 [(.one (.sl 46))] [lI] [(.t 27)]),
 oq 2 (.mov (.t 28))] false 0)
 .ret))
 (.seq (.seq (.region [] [oq 30 (.icmp .eql (.t 4) (.c lI [.int 8])),
 oq 29 (.mov (.t 30))] false 0)
 (.cond (.t 29) .skip
 (.region [] [oq 31 (.icmp .eql (.t 4) (.c lI [.int 9])),
 oq 29 (.mov (.t 31))] false 0)))
 (.cond (.t 29) (.seq (.seq (.region [] [oq 32 (.fad 3 1 24 22 (.t 1)),
 oq 33 (.ld (.one (.sl 46)) 22 (.t 32)),
 oq 34 (.lenL (.t 33)),
 oq 35 (.icmp .gtr (.t 34) (.c lI [.int 200]))] false 0)
 (.cond (.t 35) (.seq (.region [] [oq 2 (.mov (.c lI [.int 2]))] false 0)
 .ret)
 .skip))
 (.seq (.region [] [oq 36 (.ld lA1 24 (.t 1)),
 oq 37 (.call 37 [lA1] [lI] [(.t 36)]),
 oq 2 (.mov (.t 37))] false 0)
 .ret))
 .skip))))))))))
 (.seq (.region [] [oq 2 (.mov (.c lI [.int 0]))] false 0)
 .ret))) }
noncomputable def value_fields (E : Env) (p0 : Row) : Option (List Row) :=
 if (((at_ p0 0).toI) == 5) = true then
 if (decide ((((at_ p0 2).toS).length : Int) > 4000)) = true then
 some [[.int 2]]
 else
 some [[.int 0]]
 else
 if (((at_ p0 0).toI) == 6) = true then
 if (decide ((((at_ p0 3).rows).length : Int) > 24)) = true then
 some [[.int 2]]
 else
 (E.pc n_value_names [[at_ p0 3]]).bind fun y1 =>
 some [[.int ((at_ (rowsAt y1 0) 0).toI)]]
 else
 if (((at_ p0 0).toI) == 7) = true then
 if ((((at_ p0 3).rows).length : Int) != 1) = true then
 some [[.int 3]]
 else
 (E.pc n_value_names [[at_ p0 3]]).bind fun y2 =>
 some [[.int ((at_ (rowsAt y2 0) 0).toI)]]
 else
 if (((at_ p0 0).toI) == 8) = true then
 if (((at_ p0 0).toI) == 8) = true then
 if (decide ((((at_ p0 3).rows).length : Int) > 200)) = true then
 some [[.int 2]]
 else
 (E.pc n_value_keys [p0]).bind fun y3 =>
 some [[.int ((at_ (rowsAt y3 0) 0).toI)]]
 else
 some [[.int 0]]
 else
 if (((at_ p0 0).toI) == 9) = true then
 if (decide ((((at_ p0 3).rows).length : Int) > 200)) = true then
 some [[.int 2]]
 else
 (E.pc n_value_keys [p0]).bind fun y4 =>
 some [[.int ((at_ (rowsAt y4 0) 0).toI)]]
 else
 some [[.int 0]]
theorem value_fields_eq (E : Env) (p0 : Row) : runP E value_fields_a [p0] = value_fields E p0 := by kernel_rfl

def value_node_h0 : Shape := { slots := [(46, .d (.one (.sl 46))), (47, .d lI), (48, .d lI)], objs := [] }
def value_node_o0 : List (Exit' × Shape) := [(.exit 1, { slots := [], objs := [] }), (.ret, { slots := [(4, .d lI)], objs := [] })]
def value_node_c0 : ACode := (.seq (.region [] [oq 49 (.icmp .lss (.t 48) (.t 47))] false 0)
 (.seq (.cond (.t 49) .skip
 (.exit 1))
 (.seq (.block 2 (.seq (.region [] [oq 50 (.iad 46 lA0 (.t 46) (.t 48)),
 oq 51 (.ld lA0 46 (.t 50)),
 oq 7 (.allocO 0 lA0 [.str [], .int 0, .int 0, .str [], .nils]),
 ⟨none, .st lA0 (.t 7) (.t 51), none, []⟩] false 1)
 (.seq (.region [] [oq 52 (.fad 1 4 46 24 (.t 7)),
 oq 53 (.ld lA1 24 (.t 52)),
 oq 54 (.call 23 [lA1, lB] [lI] [(.t 53), (.c lB [.bool false])]),
 oq 8 (.mov (.t 54))] false 0)
 (.seq (.region [] [oq 55 (.mov (.t 8)),
 oq 56 (.icmp .neq (.t 55) (.c lI [.int 0]))] false 0)
 (.cond (.t 56) (.seq (.region [] [oq 57 (.mov (.t 8)),
 oq 4 (.mov (.t 57))] false 0)
 .ret)
 .skip)))))
 (.region [] [oq 58 (.ibin .add (.t 48) (.c lI [.int 1])),
 oq 48 (.mov (.t 58))] false 0))))
noncomputable def value_node_l0 (E : Env) (v0 : C) (v1 : Int) (v2 : Int) : Option (Nat × List PV) := E.fix (stepOf E value_node_c0 value_node_h0 value_node_o0) [.r [v0], .r [.int v1], .r [.int v2]]
noncomputable def value_node_b0 (E : Env) (X : C → Int → Int → Option (Nat × List PV)) (v0 : C) (v1 : Int) (v2 : Int) : Option (Nat × List PV) :=
 if (decide (v2 < v1)) = true then
 if (0 : Int) ≤ v2 ∧ v2 < (v0.rows.length : Int) then
 (E.pc n_value_node [[at_ (rowsAt v0.rows v2.toNat) 1, at_ (rowsAt v0.rows v2.toNat) 2, at_ (rowsAt v0.rows v2.toNat) 3, at_ (rowsAt v0.rows v2.toNat) 4], [.bool false]]).bind fun y17 =>
 if (((at_ (rowsAt y17 0) 0).toI) != 0) = true then
 some (1, [.r [.int ((at_ (rowsAt y17 0) 0).toI)]])
 else
 X v0 v1 (Go.IntKind.i64.wrap (v2 + 1))
 else none
 else
 some (0, [])
theorem value_node_s0 (E : Env) (X : List PV → Option (Nat × List PV)) (v0 : C) (v1 : Int) (v2 : Int) : stepOf E value_node_c0 value_node_h0 value_node_o0 X [.r [v0], .r [.int v1], .r [.int v2]] = value_node_b0 E (fun (v0 : C) (v1 : Int) (v2 : Int) => X [.r [v0], .r [.int v1], .r [.int v2]]) v0 v1 v2 := by kernel_rfl
def value_node_a : AFun := { ps := [lA1, lB], rs := [lI], res := [(false, 4, none)], body := (.seq (.region [] [oq 2 (.boxP lA1 24 (.t 0)),
 oq 4 (.mov (.c lI [.int 0]))] false 0)
 (.seq (.join [(.normal, { slots := [(2, .d (.one (.ref 24)))], objs := [] }), (.ret, { slots := [(4, .d lI)], objs := [] })] (.block 0 (.seq (.join [(.normal, { slots := [(2, .d (.one (.ref 24))), (9, .d lB)], objs := [] })] (.region [] [oq 10 (.fad 0 1 24 3 (.t 2)),
 oq 11 (.ld lI 3 (.t 10)),
 oq 12 (.icmp .lss (.t 11) (.c lI [.int 0])),
 oq 13 (.mov (.t 12)),
 ⟨some 14, .fad 0 1 24 3 (.t 2), some (13, false), []⟩,
 ⟨some 15, .ld lI 3 (.t 14), some (13, false), []⟩,
 ⟨some 16, .icmp .geq (.t 15) (.c lI [.int 12]), some (13, false), []⟩,
 oq 17 (.pick (.t 13) (.c lB [.bool true]) (.t 16)),
 oq 18 (.mov (.t 17)),
 ⟨some 19, .fad 0 1 24 3 (.t 2), some (18, false), []⟩,
 ⟨some 20, .ld lI 3 (.t 19), some (18, false), []⟩,
 ⟨some 21, .icmp .eql (.t 20) (.c lI [.int 10]), some (18, false), []⟩,
 oq 22 (.pick (.t 18) (.c lB [.bool true]) (.t 21)),
 oq 23 (.mov (.t 22)),
 ⟨some 24, .fad 0 1 24 3 (.t 2), some (23, false), []⟩,
 ⟨some 25, .ld lI 3 (.t 24), some (23, false), []⟩,
 ⟨some 26, .icmp .eql (.t 25) (.c lI [.int 11]), some (23, false), []⟩,
 ⟨some 27, .mov (.t 26), some (23, false), []⟩,
 ⟨some 28, .mov (.t 1), some (27, true), []⟩,
 ⟨some 29, .not (.t 28), some (27, true), []⟩,
 ⟨some 30, .pick (.t 27) (.t 29) (.c lB [.bool false]), some (23, false), []⟩,
 oq 31 (.pick (.t 23) (.c lB [.bool true]) (.t 30)),
 oq 32 (.mov (.t 31)),
 ⟨some 33, .ld lA1 24 (.t 2), some (32, false), []⟩,
 ⟨some 34, .call 30 [lA1] [lB] [(.t 33)], some (32, false), []⟩,
 oq 35 (.pick (.t 32) (.c lB [.bool true]) (.t 34)),
 oq 9 (.mov (.t 35))] false 0))
 (.cond (.t 9) (.seq (.region [] [oq 4 (.mov (.c lI [.int 3]))] false 0)
 .ret)
 (.seq (.region [] [oq 37 (.ld lA1 24 (.t 2)),
 oq 38 (.call 31 [lA1] [lB] [(.t 37)]),
 oq 39 (.not (.t 38)),
 oq 36 (.mov (.t 39))] false 0)
 (.cond (.t 36) (.seq (.region [] [oq 4 (.mov (.c lI [.int 11]))] false 0)
 .ret)
 .skip))))))
 (.seq (.seq (.region [] [oq 40 (.ld lA1 24 (.t 2)),
 oq 41 (.call 32 [lA1] [lI] [(.t 40)]),
 oq 5 (.mov (.t 41))] false 0)
 (.seq (.region [] [oq 42 (.mov (.t 5)),
 oq 43 (.icmp .neq (.t 42) (.c lI [.int 0]))] false 0)
 (.cond (.t 43) (.seq (.region [] [oq 44 (.mov (.t 5)),
 oq 4 (.mov (.t 44))] false 0)
 .ret)
 .skip)))
 (.seq (.seq (.region [] [oq 45 (.fad 3 1 24 22 (.t 2)),
 oq 46 (.ld (.one (.sl 46)) 22 (.t 45)),
 oq 47 (.lenL (.t 46)),
 oq 48 (.mov (.c lI [.int 0]))] false 0)
 (.block 1 (.loop value_node_h0 value_node_o0 value_node_c0)))
 (.seq (.region [] [oq 4 (.mov (.c lI [.int 0]))] false 0)
 .ret))))) }
noncomputable def value_node (E : Env) (p0 : Row) (p1 : Bool) : Option (List Row) :=
 ((let K1 : Bool → Option (Nat × List PV) := fun q2 =>
  let K3 : Bool → Option (Nat × List PV) := fun q4 =>
   let K5 : Bool → Option (Nat × List PV) := fun q6 =>
    let K7 : Bool → Option (Nat × List PV) := fun q8 =>
     some (0, [.r [.dp p0], .r [.bool q8]])
    if q6 = true then
     K7 true
    else
     (E.pc n_value_unused [p0]).bind fun y9 =>
      K7 ((at_ (rowsAt y9 0) 0).toB)
   if q4 = true then
    K5 true
   else
    let K10 : Bool → Option (Nat × List PV) := fun q11 =>
     K5 q11
    if (((at_ p0 0).toI) == 11) = true then
     K10 (!p1)
    else
     K10 false
  if q2 = true then
   K3 true
  else
   K3 (((at_ p0 0).toI) == 10)
 if (decide (((at_ p0 0).toI) < 0)) = true then
  K1 true
 else
  K1 (decide (((at_ p0 0).toI) ≥ 12))).bind fun x12 =>
  if (gB 1 x12.2) = true then
   some (1, [.r [.int 3]])
  else
   if (gC 0 x12.2).isDp = true then
    (E.pc n_value_number [(gC 0 x12.2).dpRow]).bind fun y13 =>
     if (!((at_ (rowsAt y13 0) 0).toB)) = true then
      some (1, [.r [.int 11]])
     else
      some (0, [.r [gC 0 x12.2]])
   else none).bind fun x14 =>
  match x14.1 with
  | 0 =>
   if (gC 0 x14.2).isDp = true then
    (E.pc n_value_fields [(gC 0 x14.2).dpRow]).bind fun y16 =>
     if (((at_ (rowsAt y16 0) 0).toI) != 0) = true then
      some [[.int ((at_ (rowsAt y16 0) 0).toI)]]
     else
      if (gC 0 x14.2).isDp = true then
       (value_node_l0 E (at_ ((gC 0 x14.2).dpRow) 3) (((at_ ((gC 0 x14.2).dpRow) 3).rows).length : Int) 0).bind fun x18 =>
        match x18.1 with
        | 0 =>
         some [[.int 0]]
        | i19 + 1 =>
         some [[.int (gI 0 x18.2)]]
      else none
   else none
  | i15 + 1 =>
   some [[.int (gI 0 x14.2)]]
theorem value_node_eq (E : Env) (p0 : Row) (p1 : Bool) : runP E value_node_a [p0, [.bool p1]] = value_node E p0 p1 := by kernel_rfl

def value_Check_a : AFun := { ps := [lA1], rs := [lI], res := [(false, 2, none)], body := (.seq (.region [] [oq 1 (.boxP lA1 24 (.t 0)),
 oq 2 (.mov (.c lI [.int 0]))] false 0)
 (.seq (.seq (.region [] [oq 3 (.ld lA1 24 (.t 1)),
 oq 4 (.call 21 [lA1] [lI] [(.t 3)]),
 oq 5 (.icmp .gtr (.t 4) (.c lI [.int 2000])),
 oq 6 (.mov (.t 5)),
 ⟨some 7, .ld lA1 24 (.t 1), some (6, false), []⟩,
 ⟨some 8, .call 22 [lA1] [lI] [(.t 7)], some (6, false), []⟩,
 ⟨some 9, .icmp .gtr (.t 8) (.c lI [.int 40]), some (6, false), []⟩,
 oq 10 (.pick (.t 6) (.c lB [.bool true]) (.t 9))] false 0)
 (.cond (.t 10) (.seq (.region [] [oq 2 (.mov (.c lI [.int 2]))] false 0)
 .ret)
 .skip))
 (.seq (.region [] [oq 11 (.ld lA1 24 (.t 1)),
 oq 12 (.call 23 [lA1, lB] [lI] [(.t 11), (.c lB [.bool true])]),
 oq 2 (.mov (.t 12))] false 0)
 .ret))) }
noncomputable def value_Check (E : Env) (p0 : Row) : Option (List Row) :=
 (E.pc n_value_Size [p0]).bind fun y1 =>
 let K2 : Bool → Option (List Row) := fun q3 =>
 if q3 = true then
 some [[.int 2]]
 else
 (E.pc n_value_node [p0, [.bool true]]).bind fun y4 =>
 some [[.int ((at_ (rowsAt y4 0) 0).toI)]]
 if (decide (((at_ (rowsAt y1 0) 0).toI) > 2000)) = true then
 K2 true
 else
 (E.pc n_value_Deep [p0]).bind fun y5 =>
 K2 (decide (((at_ (rowsAt y5 0) 0).toI) > 40))
theorem value_Check_eq (E : Env) (p0 : Row) : runP E value_Check_a [p0] = value_Check E p0 := by kernel_rfl

def align_check_h0 : Shape := { slots := [(10, .d (.one (.sl 24))), (11, .d lI), (12, .d lI)], objs := [] }
def align_check_o0 : List (Exit' × Shape) := [(.exit 0, { slots := [], objs := [] }), (.ret, { slots := [(4, .d lI)], objs := [] })]
def align_check_c0 : ACode := (.seq (.region [] [oq 13 (.icmp .lss (.t 12) (.t 11))] false 0)
 (.seq (.cond (.t 13) .skip
 (.exit 0))
 (.seq (.block 1 (.seq (.region [] [oq 14 (.iad 24 lA1 (.t 10) (.t 12)),
 oq 15 (.ld lA1 24 (.t 14)),
 oq 6 (.allocO 0 lA1 [.int 0, .int 0, .str [], .nils]),
 ⟨none, .st lA1 (.t 6) (.t 15), none, []⟩] false 1)
 (.seq (.seq (.region [] [oq 16 (.ld lA1 24 (.t 6)),
 oq 17 (.call 19 [lA1] [lI] [(.t 16)]),
 oq 7 (.mov (.t 17))] false 0)
 (.seq (.region [] [oq 18 (.mov (.t 7)),
 oq 19 (.icmp .neq (.t 18) (.c lI [.int 0]))] false 0)
 (.cond (.t 19) (.seq (.region [] [oq 20 (.mov (.t 7)),
 oq 4 (.mov (.t 20))] false 0)
 .ret)
 .skip)))
 (.seq (.region [] [oq 21 (.fad 0 1 24 3 (.t 6)),
 oq 22 (.ld lI 3 (.t 21)),
 oq 23 (.icmp .neq (.t 22) (.c lI [.int 8]))] false 0)
 (.cond (.t 23) (.seq (.region [] [oq 4 (.mov (.c lI [.int 8]))] false 0)
 .ret)
 .skip)))))
 (.region [] [oq 24 (.ibin .add (.t 12) (.c lI [.int 1])),
 oq 12 (.mov (.t 24))] false 0))))
noncomputable def align_check_l0 (E : Env) (v0 : C) (v1 : Int) (v2 : Int) : Option (Nat × List PV) := E.fix (stepOf E align_check_c0 align_check_h0 align_check_o0) [.r [v0], .r [.int v1], .r [.int v2]]
noncomputable def align_check_b0 (E : Env) (X : C → Int → Int → Option (Nat × List PV)) (v0 : C) (v1 : Int) (v2 : Int) : Option (Nat × List PV) :=
 if (decide (v2 < v1)) = true then
 if (0 : Int) ≤ v2 ∧ v2 < (v0.rows.length : Int) then
 (E.pc n_value_Check [rowsAt v0.rows v2.toNat]).bind fun y1 =>
 if (((at_ (rowsAt y1 0) 0).toI) != 0) = true then
 some (1, [.r [.int ((at_ (rowsAt y1 0) 0).toI)]])
 else
 if (((at_ (rowsAt v0.rows v2.toNat) 0).toI) != 8) = true then
 some (1, [.r [.int 8]])
 else
 X v0 v1 (Go.IntKind.i64.wrap (v2 + 1))
 else none
 else
 some (0, [])
theorem align_check_s0 (E : Env) (X : List PV → Option (Nat × List PV)) (v0 : C) (v1 : Int) (v2 : Int) : stepOf E align_check_c0 align_check_h0 align_check_o0 X [.r [v0], .r [.int v1], .r [.int v2]] = align_check_b0 E (fun (v0 : C) (v1 : Int) (v2 : Int) => X [.r [v0], .r [.int v1], .r [.int v2]]) v0 v1 v2 := by kernel_rfl
def align_check_a : AFun := { ps := [lA1, lA1], rs := [lI], res := [(false, 4, none)], body := (.seq (.region [] [oq 2 (.boxP lA1 24 (.t 0)),
 oq 3 (.boxP lA1 24 (.t 1)),
 oq 4 (.mov (.c lI [.int 0]))] false 0)
 (.seq (.seq (.region [] [oq 8 (.ld lA1 24 (.t 2)),
 oq 9 (.ld lA1 24 (.t 3)),
 oq 10 (.bsl 24 lA1 2 [.int 0, .int 0, .str [], .nils] [(0, (.t 8)), (1, (.t 9))]),
 oq 11 (.lenL (.t 10)),
 oq 12 (.mov (.c lI [.int 0]))] false 0)
 (.block 0 (.loop align_check_h0 align_check_o0 align_check_c0)))
 (.seq (.region [] [oq 4 (.mov (.c lI [.int 0]))] false 0)
 .ret))) }
noncomputable def align_check (E : Env) (p0 : Row) (p1 : Row) : Option (List Row) :=
 (align_check_l0 E (.sl ([p0, p1] : List Row)) (([p0, p1] : List Row).length : Int) 0).bind fun x2 =>
 match x2.1 with
 | 0 =>
 some [[.int 0]]
 | i3 + 1 =>
 some [[.int (gI 0 x2.2)]]
theorem align_check_eq (E : Env) (p0 : Row) (p1 : Row) : runP E align_check_a [p0, p1] = align_check E p0 p1 := by kernel_rfl

def align_table_h1 : Shape := { slots := [(0, .d (.one (.sl 46))), (1, .d (.one (.sl 46))), (5, .hol 0), (6, .d lI), (7, .d lI)], objs := [.hol (.one (.sl 3)) (.whole 1), .arr lI] }
def align_table_o1 : List (Exit' × Shape) := [(.exit 2, { slots := [(0, .d (.one (.sl 46))), (1, .d (.one (.sl 46))), (5, .hol 0), (6, .d lI)], objs := [.hol (.one (.sl 3)) (.whole 1), .arr lI] })]
def align_table_c1 : ACode := (.seq (.seq (.region [] [oq 27 (.mov (.t 7)),
 oq 28 (.icmp .geq (.t 27) (.c lI [.int 0]))] false 0)
 (.cond (.t 28) .skip
 (.exit 2)))
 (.seq (.block 3 (.block 4 (.seq (.region [] [oq 78 (.mov (.t 6)),
 oq 79 (.mov (.t 0)),
 oq 80 (.lenL (.t 79)),
 oq 81 (.icmp .eql (.t 78) (.t 80)),
 oq 77 (.mov (.t 81))] false 0)
 (.cond (.t 77) (.region [] [oq 82 (.mov (.t 5)),
 oq 83 (.mov (.t 6)),
 oq 84 (.iad 44 (.one (.sl 3)) (.t 82) (.t 83)),
 oq 85 (.ldH true (.one (.sl 3)) (.t 84)),
 oq 86 (.mov (.t 7)),
 oq 87 (.mov (.t 1)),
 oq 88 (.lenL (.t 87)),
 oq 89 (.mov (.t 7)),
 oq 90 (.ibin .sub (.t 88) (.t 89)),
 oq 91 (.ibin .mul (.c lI [.int 2]) (.t 90)),
 oq 92 (.iad 3 lI (.t 85) (.t 86)),
 ⟨none, .st lI (.t 92) (.t 91), none, []⟩] false 0)
 (.seq (.region [] [oq 94 (.mov (.t 7)),
 oq 95 (.mov (.t 1)),
 oq 96 (.lenL (.t 95)),
 oq 97 (.icmp .eql (.t 94) (.t 96)),
 oq 93 (.mov (.t 97))] false 0)
 (.cond (.t 93) (.region [] [oq 98 (.mov (.t 5)),
 oq 99 (.mov (.t 6)),
 oq 100 (.iad 44 (.one (.sl 3)) (.t 98) (.t 99)),
 oq 101 (.ldH true (.one (.sl 3)) (.t 100)),
 oq 102 (.mov (.t 7)),
 oq 103 (.mov (.t 0)),
 oq 104 (.lenL (.t 103)),
 oq 105 (.mov (.t 6)),
 oq 106 (.ibin .sub (.t 104) (.t 105)),
 oq 107 (.ibin .mul (.c lI [.int 2]) (.t 106)),
 oq 108 (.iad 3 lI (.t 101) (.t 102)),
 ⟨none, .st lI (.t 108) (.t 107), none, []⟩] false 0)
 (.region [] [oq 31 (.mov (.t 5)),
 oq 32 (.mov (.t 6)),
 ⟨some 33, .iad 44 (.one (.sl 3)) (.t 31) (.t 32), none, [0, 1]⟩,
 ⟨some 34, .ldH true (.one (.sl 3)) (.t 33), none, [0, 1, 2]⟩,
 oq 35 (.mov (.t 7)),
 oq 36 (.mov (.t 5)),
 oq 37 (.mov (.t 6)),
 ⟨some 38, .ibin .add (.t 37) (.c lI [.int 1]), none, [6]⟩,
 ⟨some 39, .iad 44 (.one (.sl 3)) (.t 36) (.t 38), none, [5, 6, 7]⟩,
 ⟨some 40, .ldH false (.one (.sl 3)) (.t 39), none, [5, 6, 7, 8]⟩,
 oq 41 (.mov (.t 7)),
 ⟨some 42, .ibin .add (.t 41) (.c lI [.int 1]), none, [10]⟩,
 ⟨some 43, .iad 3 lI (.t 40) (.t 42), none, [5, 6, 7, 8, 9, 10, 11]⟩,
 ⟨some 44, .ld lI 3 (.t 43), none, [5, 6, 7, 8, 9, 10, 11, 12]⟩,
 oq 45 (.mov (.t 0)),
 oq 46 (.mov (.t 6)),
 ⟨some 47, .iad 46 lA0 (.t 45) (.t 46), none, [14, 15]⟩,
 ⟨some 48, .fad 1 4 46 24 (.t 47), none, [14, 15, 16]⟩,
 ⟨some 49, .ld lA1 24 (.t 48), none, [14, 15, 16, 17]⟩,
 oq 50 (.mov (.t 1)),
 oq 51 (.mov (.t 7)),
 ⟨some 52, .iad 46 lA0 (.t 50) (.t 51), none, [19, 20]⟩,
 ⟨some 53, .fad 1 4 46 24 (.t 52), none, [19, 20, 21]⟩,
 ⟨some 54, .ld lA1 24 (.t 53), none, [19, 20, 21, 22]⟩,
 ⟨some 55, .call 7 [lA1, lA1] [lI] [(.t 49), (.t 54)], none, [14, 15, 16, 17, 18, 19, 20, 21, 22, 23]⟩,
 ⟨some 56, .ibin .add (.t 44) (.t 55), none, [5, 6, 7, 8, 9, 10, 11, 12, 13, 14, 15, 16, 17, 18, 19, 20, 21, 22, 23, 24]⟩,
 oq 57 (.mov (.t 5)),
 oq 58 (.mov (.t 6)),
 ⟨some 59, .ibin .add (.t 58) (.c lI [.int 1]), none, [27]⟩,
 ⟨some 60, .iad 44 (.one (.sl 3)) (.t 57) (.t 59), none, [26, 27, 28]⟩,
 ⟨some 61, .ldH false (.one (.sl 3)) (.t 60), none, [26, 27, 28, 29]⟩,
 oq 62 (.mov (.t 7)),
 ⟨some 63, .iad 3 lI (.t 61) (.t 62), none, [26, 27, 28, 29, 30, 31]⟩,
 ⟨some 64, .ld lI 3 (.t 63), none, [26, 27, 28, 29, 30, 31, 32]⟩,
 ⟨some 65, .ibin .add (.t 64) (.c lI [.int 2]), none, [26, 27, 28, 29, 30, 31, 32, 33]⟩,
 oq 66 (.mov (.t 5)),
 oq 67 (.mov (.t 6)),
 ⟨some 68, .iad 44 (.one (.sl 3)) (.t 66) (.t 67), none, [35, 36]⟩,
 ⟨some 69, .ldH true (.one (.sl 3)) (.t 68), none, [35, 36, 37]⟩,
 oq 70 (.mov (.t 7)),
 ⟨some 71, .ibin .add (.t 70) (.c lI [.int 1]), none, [39]⟩,
 ⟨some 72, .iad 3 lI (.t 69) (.t 71), none, [35, 36, 37, 38, 39, 40]⟩,
 ⟨some 73, .ld lI 3 (.t 72), none, [35, 36, 37, 38, 39, 40, 41]⟩,
 ⟨some 74, .ibin .add (.t 73) (.c lI [.int 2]), none, [35, 36, 37, 38, 39, 40, 41, 42]⟩,
 ⟨some 75, .imin false [(.t 56), (.t 65), (.t 74)], none, [5, 6, 7, 8, 9, 10, 11, 12, 13, 14, 15, 16, 17, 18, 19, 20, 21, 22, 23, 24, 25, 26, 27, 28, 29, 30, 31, 32, 33, 34, 35, 36, 37, 38, 39, 40, 41, 42, 43]⟩,
 ⟨some 76, .iad 3 lI (.t 34) (.t 35), none, [0, 1, 2, 3, 4, 5, 6, 7, 8, 9, 10, 11, 12, 13, 14, 15, 16, 17, 18, 19, 20, 21, 22, 23, 24, 25, 26, 27, 28, 29, 30, 31, 32, 33, 34, 35, 36, 37, 38, 39, 40, 41, 42, 43, 44]⟩,
 ⟨none, .st lI (.t 76) (.t 75), none, [0, 1, 2, 3, 4, 5, 6, 7, 8, 9, 10, 11, 12, 13, 14, 15, 16, 17, 18, 19, 20, 21, 22, 23, 24, 25, 26, 27, 28, 29, 30, 31, 32, 33, 34, 35, 36, 37, 38, 39, 40, 41, 42, 43, 44, 45]⟩] true 0)))))))
 (.region [] [oq 29 (.mov (.t 7)),
 oq 30 (.ibin .sub (.t 29) (.c lI [.int 1])),
 oq 7 (.mov (.t 30))] false 0)))
noncomputable def align_table_l1 (E : Env) (v0 : C) (v1 : C) (v2 : Int) (v3 : Int) (v4 : Row) (v5 : C) : Option (Nat × List PV) := E.fix (stepOf E align_table_c1 align_table_h1 align_table_o1) [.r [v0], .r [v1], .r [.int v2], .r [.int v3], .r v4, .r [v5]]
noncomputable def align_table_b1 (E : Env) (X : C → C → Int → Int → Row → C → Option (Nat × List PV)) (v0 : C) (v1 : C) (v2 : Int) (v3 : Int) (v4 : Row) (v5 : C) : Option (Nat × List PV) :=
 if (decide (v3 ≥ 0)) = true then
 if (v2 == (v0.rows.length : Int)) = true then
 if (0 : Int) ≤ v2 ∧ v2 < (((at_ v4 0).rows).length : Int) then
 if v2.toNat < ((at_ v4 0).rows).length ∧ v2.toNat = (((at_ v4 1).toI).toNat) then
 if (0 : Int) ≤ v3 ∧ v3 < (v5.rows.length : Int) then
 if v3.toNat < v5.rows.length then
 X v0 v1 v2 (Go.IntKind.i64.wrap (v3 - 1)) [.sl ((at_ v4 0).rows), .int ((((at_ v4 1).toI).toNat : Nat) : Int)] (.sl (v5.rows.set v3.toNat [.int (Go.IntKind.i64.wrap (2 * (Go.IntKind.i64.wrap ((v1.rows.length : Int) - v3))))]))
 else none
 else none
 else none
 else none
 else
 if (v3 == (v1.rows.length : Int)) = true then
 if (0 : Int) ≤ v2 ∧ v2 < (((at_ v4 0).rows).length : Int) then
 if v2.toNat < ((at_ v4 0).rows).length ∧ v2.toNat = (((at_ v4 1).toI).toNat) then
 if (0 : Int) ≤ v3 ∧ v3 < (v5.rows.length : Int) then
 if v3.toNat < v5.rows.length then
 X v0 v1 v2 (Go.IntKind.i64.wrap (v3 - 1)) [.sl ((at_ v4 0).rows), .int ((((at_ v4 1).toI).toNat : Nat) : Int)] (.sl (v5.rows.set v3.toNat [.int (Go.IntKind.i64.wrap (2 * (Go.IntKind.i64.wrap ((v0.rows.length : Int) - v2))))]))
 else none
 else none
 else none
 else none
 else
 if (0 : Int) ≤ v2 ∧ v2 < (((at_ v4 0).rows).length : Int) then
 if v2.toNat < ((at_ v4 0).rows).length ∧ v2.toNat = (((at_ v4 1).toI).toNat) then
 if (0 : Int) ≤ (Go.IntKind.i64.wrap (v2 + 1)) ∧ (Go.IntKind.i64.wrap (v2 + 1)) < (((at_ v4 0).rows).length : Int) then
 if ((Go.IntKind.i64.wrap (v2 + 1)).toNat) < ((at_ v4 0).rows).length ∧ ((Go.IntKind.i64.wrap (v2 + 1)).toNat) ≠ (((at_ v4 1).toI).toNat) then
 if (0 : Int) ≤ (Go.IntKind.i64.wrap (v3 + 1)) ∧ (Go.IntKind.i64.wrap (v3 + 1)) < (((at_ (rowsAt ((at_ v4 0).rows) ((Go.IntKind.i64.wrap (v2 + 1)).toNat)) 0).rows).length : Int) then
 if (0 : Int) ≤ v2 ∧ v2 < (v0.rows.length : Int) then
 if (0 : Int) ≤ v3 ∧ v3 < (v1.rows.length : Int) then
 (E.pc n_align_Cost [[at_ (rowsAt v0.rows v2.toNat) 1, at_ (rowsAt v0.rows v2.toNat) 2, at_ (rowsAt v0.rows v2.toNat) 3, at_ (rowsAt v0.rows v2.toNat) 4], [at_ (rowsAt v1.rows v3.toNat) 1, at_ (rowsAt v1.rows v3.toNat) 2, at_ (rowsAt v1.rows v3.toNat) 3, at_ (rowsAt v1.rows v3.toNat) 4]]).bind fun y2 =>
 if (0 : Int) ≤ (Go.IntKind.i64.wrap (v2 + 1)) ∧ (Go.IntKind.i64.wrap (v2 + 1)) < (((at_ v4 0).rows).length : Int) then
 if ((Go.IntKind.i64.wrap (v2 + 1)).toNat) < ((at_ v4 0).rows).length ∧ ((Go.IntKind.i64.wrap (v2 + 1)).toNat) ≠ (((at_ v4 1).toI).toNat) then
 if (0 : Int) ≤ v3 ∧ v3 < (((at_ (rowsAt ((at_ v4 0).rows) ((Go.IntKind.i64.wrap (v2 + 1)).toNat)) 0).rows).length : Int) then
 if (0 : Int) ≤ v2 ∧ v2 < (((at_ v4 0).rows).length : Int) then
 if v2.toNat < ((at_ v4 0).rows).length ∧ v2.toNat = (((at_ v4 1).toI).toNat) then
 if (0 : Int) ≤ (Go.IntKind.i64.wrap (v3 + 1)) ∧ (Go.IntKind.i64.wrap (v3 + 1)) < (v5.rows.length : Int) then
 if ((Go.IntKind.i64.wrap (v3 + 1)).toNat) < v5.rows.length then
 if (0 : Int) ≤ v3 ∧ v3 < (v5.rows.length : Int) then
 if v3.toNat < v5.rows.length then
 X v0 v1 v2 (Go.IntKind.i64.wrap (v3 - 1)) [.sl ((at_ v4 0).rows), .int ((((at_ v4 1).toI).toNat : Nat) : Int)] (.sl (v5.rows.set v3.toNat [.int (if (Go.IntKind.i64.wrap (((at_ (rowsAt v5.rows ((Go.IntKind.i64.wrap (v3 + 1)).toNat)) 0).toI) + 2)) < (if (Go.IntKind.i64.wrap (((at_ (rowsAt ((at_ (rowsAt ((at_ v4 0).rows) ((Go.IntKind.i64.wrap (v2 + 1)).toNat)) 0).rows) v3.toNat) 0).toI) + 2)) < (Go.IntKind.i64.wrap (((at_ (rowsAt ((at_ (rowsAt ((at_ v4 0).rows) ((Go.IntKind.i64.wrap (v2 + 1)).toNat)) 0).rows) ((Go.IntKind.i64.wrap (v3 + 1)).toNat)) 0).toI) + ((at_ (rowsAt y2 0) 0).toI))) then Go.IntKind.i64.wrap (((at_ (rowsAt ((at_ (rowsAt ((at_ v4 0).rows) ((Go.IntKind.i64.wrap (v2 + 1)).toNat)) 0).rows) v3.toNat) 0).toI) + 2) else Go.IntKind.i64.wrap (((at_ (rowsAt ((at_ (rowsAt ((at_ v4 0).rows) ((Go.IntKind.i64.wrap (v2 + 1)).toNat)) 0).rows) ((Go.IntKind.i64.wrap (v3 + 1)).toNat)) 0).toI) + ((at_ (rowsAt y2 0) 0).toI))) then Go.IntKind.i64.wrap (((at_ (rowsAt v5.rows ((Go.IntKind.i64.wrap (v3 + 1)).toNat)) 0).toI) + 2) else if (Go.IntKind.i64.wrap (((at_ (rowsAt ((at_ (rowsAt ((at_ v4 0).rows) ((Go.IntKind.i64.wrap (v2 + 1)).toNat)) 0).rows) v3.toNat) 0).toI) + 2)) < (Go.IntKind.i64.wrap (((at_ (rowsAt ((at_ (rowsAt ((at_ v4 0).rows) ((Go.IntKind.i64.wrap (v2 + 1)).toNat)) 0).rows) ((Go.IntKind.i64.wrap (v3 + 1)).toNat)) 0).toI) + ((at_ (rowsAt y2 0) 0).toI))) then Go.IntKind.i64.wrap (((at_ (rowsAt ((at_ (rowsAt ((at_ v4 0).rows) ((Go.IntKind.i64.wrap (v2 + 1)).toNat)) 0).rows) v3.toNat) 0).toI) + 2) else Go.IntKind.i64.wrap (((at_ (rowsAt ((at_ (rowsAt ((at_ v4 0).rows) ((Go.IntKind.i64.wrap (v2 + 1)).toNat)) 0).rows) ((Go.IntKind.i64.wrap (v3 + 1)).toNat)) 0).toI) + ((at_ (rowsAt y2 0) 0).toI)))]))
 else none
 else none
 else none
 else none
 else none
 else none
 else none
 else none
 else none
 else none
 else none
 else none
 else none
 else none
 else none
 else none
 else
 some (0, [.r [v0], .r [v1], .r [.int v2], .r [.sl ((at_ v4 0).rows), .int ((((at_ v4 1).toI).toNat : Nat) : Int)], .r [v5]])
theorem align_table_s1 (E : Env) (X : List PV → Option (Nat × List PV)) (v0 : C) (v1 : C) (v2 : Int) (v3 : Int) (v4 : Row) (v5 : C) : stepOf E align_table_c1 align_table_h1 align_table_o1 X [.r [v0], .r [v1], .r [.int v2], .r [.int v3], .r v4, .r [v5]] = align_table_b1 E (fun (v0 : C) (v1 : C) (v2 : Int) (v3 : Int) (v4 : Row) (v5 : C) => X [.r [v0], .r [v1], .r [.int v2], .r [.int v3], .r v4, .r [v5]]) v0 v1 v2 v3 v4 v5 := by kernel_rfl
def align_table_h0 : Shape := { slots := [(0, .d (.one (.sl 46))), (1, .d (.one (.sl 46))), (5, .whole 0), (6, .d lI)], objs := [.arr (.one (.sl 3))] }
def align_table_o0 : List (Exit' × Shape) := [(.exit 0, { slots := [(5, .whole 0)], objs := [.arr (.one (.sl 3))] })]
def align_table_c0 : ACode := (.seq (.seq (.region [] [oq 14 (.mov (.t 6)),
 oq 15 (.icmp .geq (.t 14) (.c lI [.int 0]))] false 0)
 (.cond (.t 15) .skip
 (.exit 0)))
 (.seq (.block 1 (.seq (.ghost (.opnH 5 (.one (.sl 3))) (.region [] [oq 18 (.mov (.t 5)),
 oq 19 (.mov (.t 6)),
 oq 20 (.mov (.t 1)),
 oq 21 (.lenL (.t 20)),
 oq 22 (.ibin .add (.t 21) (.c lI [.int 1])),
 oq 23 (.mk 0 3 lI [.int 0] 8 (.t 22) (.t 22)),
 oq 24 (.iad 44 (.one (.sl 3)) (.t 18) (.t 19)),
 ⟨none, .stH (.t 24) (.t 23), none, []⟩] false 1))
 (.seq (.region [] [oq 25 (.mov (.t 1)),
 oq 26 (.lenL (.t 25)),
 oq 7 (.mov (.t 26))] false 0)
 (.block 2 (.loop align_table_h1 align_table_o1 align_table_c1)))))
 (.ghost (.clsH 5 3 lI) (.region [] [oq 16 (.mov (.t 6)),
 oq 17 (.ibin .sub (.t 16) (.c lI [.int 1])),
 oq 6 (.mov (.t 17))] false 0))))
noncomputable def align_table_l0 (E : Env) (v0 : C) (v1 : C) (v2 : Int) (v3 : C) : Option (Nat × List PV) := E.fix (stepOf E align_table_c0 align_table_h0 align_table_o0) [.r [v0], .r [v1], .r [.int v2], .r [v3]]
noncomputable def align_table_b0 (E : Env) (X : C → C → Int → C → Option (Nat × List PV)) (v0 : C) (v1 : C) (v2 : Int) (v3 : C) : Option (Nat × List PV) :=
 if (decide (v2 ≥ 0)) = true then
 asRows v3 fun r1 =>
 if (0 : Int) ≤ (Go.IntKind.i64.wrap ((v1.rows.length : Int) + 1)) ∧ (Go.IntKind.i64.wrap ((v1.rows.length : Int) + 1)) ≤ (Go.IntKind.i64.wrap ((v1.rows.length : Int) + 1)) ∧ (Go.IntKind.i64.wrap ((v1.rows.length : Int) + 1)) * 8 ≤ 140737488355328 ∧ (Go.IntKind.i64.wrap ((v1.rows.length : Int) + 1)) ≤ 1099511627776 then
 if (0 : Int) ≤ v2 ∧ v2 < (r1.length : Int) then
 if r1.length ≤ r1.length ∧ v2.toNat < r1.length then
 (align_table_l1 E v0 v1 v2 (v1.rows.length : Int) [.sl r1, .int ((v2.toNat : Nat) : Int)] (.sl (List.replicate ((Go.IntKind.i64.wrap ((v1.rows.length : Int) + 1)).toNat) ([.int 0] : Row)))).bind fun x3 =>
 X (gC 0 x3.2) (gC 1 x3.2) (Go.IntKind.i64.wrap ((gI 2 x3.2) - 1)) (.sl (((gC 3 x3.2).rows).set (((at_ (gR 3 x3.2) 1).toI).toNat) [gC 4 x3.2]))
 else none
 else none
 else none
 else
 some (0, [.r [v3]])
theorem align_table_s0 (E : Env) (X : List PV → Option (Nat × List PV)) (v0 : C) (v1 : C) (v2 : Int) (v3 : C) : stepOf E align_table_c0 align_table_h0 align_table_o0 X [.r [v0], .r [v1], .r [.int v2], .r [v3]] = align_table_b0 E (fun (v0 : C) (v1 : C) (v2 : Int) (v3 : C) => X [.r [v0], .r [v1], .r [.int v2], .r [v3]]) v0 v1 v2 v3 := by kernel_rfl
def align_table_a : AFun := { ps := [(.one (.sl 46)), (.one (.sl 46))], rs := [(.one (.sl 44))], res := [(false, 4, (some (.one (.sl 3))))], body := (.seq (.region [] [oq 4 (.mov (.c (.one (.sl 44)) [.nils]))] false 0)
 (.seq (.region [] [oq 8 (.mov (.t 0)),
 oq 9 (.lenL (.t 8)),
 oq 10 (.ibin .add (.t 9) (.c lI [.int 1])),
 oq 11 (.mk 0 44 (.one (.sl 3)) [.nils] 24 (.t 10) (.t 10)),
 oq 5 (.mov (.t 11))] false 1)
 (.seq (.seq (.region [] [oq 12 (.mov (.t 0)),
 oq 13 (.lenL (.t 12)),
 oq 6 (.mov (.t 13))] false 0)
 (.block 0 (.loop align_table_h0 align_table_o0 align_table_c0)))
 (.seq (.region [] [oq 109 (.mov (.t 5)),
 oq 4 (.mov (.t 109))] false 0)
 .ret)))) }
noncomputable def align_table (E : Env) (p0 : C) (p1 : C) : Option (List Row) :=
 if (0 : Int) ≤ (Go.IntKind.i64.wrap ((p0.rows.length : Int) + 1)) ∧ (Go.IntKind.i64.wrap ((p0.rows.length : Int) + 1)) ≤ (Go.IntKind.i64.wrap ((p0.rows.length : Int) + 1)) ∧ (Go.IntKind.i64.wrap ((p0.rows.length : Int) + 1)) * 24 ≤ 140737488355328 ∧ (Go.IntKind.i64.wrap ((p0.rows.length : Int) + 1)) ≤ 1099511627776 then
 (align_table_l0 E p0 p1 (p0.rows.length : Int) (.sl (List.replicate ((Go.IntKind.i64.wrap ((p0.rows.length : Int) + 1)).toNat) ([.nils] : Row)))).bind fun x4 =>
 some [[gC 0 x4.2]]
 else none
theorem align_table_eq (E : Env) (p0 : C) (p1 : C) : runP E align_table_a [[p0], [p1]] = align_table E p0 p1 := by kernel_rfl

def align_ByEdits_h0 : Shape := { slots := [(2, .d (.one (.ref 24))), (3, .d (.one (.ref 24))), (8, .d (.one (.sl 44))), (9, .sw 0), (10, .d lI), (11, .d lI)], objs := [.sarr 40 lA2] }
def align_ByEdits_o0 : List (Exit' × Shape) := [(.exit 0, { slots := [(8, .d (.one (.sl 44))), (9, .sw 0)], objs := [.sarr 40 lA2] })]
def align_ByEdits_c0 : ACode := (.seq (.seq (.join [(.normal, { slots := [(2, .d (.one (.ref 24))), (3, .d (.one (.ref 24))), (8, .d (.one (.sl 44))), (9, .sw 0), (10, .d lI), (11, .d lI), (34, .d lB)], objs := [.sarr 40 lA2] })] (.region [] [oq 23 (.mov (.t 10)),
 oq 24 (.fad 3 1 24 22 (.t 2)),
 oq 25 (.ld (.one (.sl 46)) 22 (.t 24)),
 oq 26 (.lenL (.t 25)),
 oq 27 (.icmp .lss (.t 23) (.t 26)),
 oq 28 (.mov (.t 27)),
 ⟨some 29, .mov (.t 11), some (28, false), []⟩,
 ⟨some 30, .fad 3 1 24 22 (.t 3), some (28, false), []⟩,
 ⟨some 31, .ld (.one (.sl 46)) 22 (.t 30), some (28, false), []⟩,
 ⟨some 32, .lenL (.t 31), some (28, false), []⟩,
 ⟨some 33, .icmp .lss (.t 29) (.t 32), some (28, false), []⟩,
 oq 34 (.pick (.t 28) (.c lB [.bool true]) (.t 33))] false 0))
 (.cond (.t 34) .skip
 (.exit 0)))
 (.join [(.normal, { slots := [(2, .d (.one (.ref 24))), (3, .d (.one (.ref 24))), (8, .d (.one (.sl 44))), (9, .sw 0), (10, .d lI), (11, .d lI)], objs := [.sarr 40 lA2] })] (.block 1 (.block 2 (.seq (.join [(.normal, { slots := [(2, .d (.one (.ref 24))), (3, .d (.one (.ref 24))), (8, .d (.one (.sl 44))), (9, .sw 0), (10, .d lI), (11, .d lI), (37, .d lB)], objs := [.sarr 40 lA2] })] (.region [] [oq 38 (.mov (.t 10)),
 oq 39 (.fad 3 1 24 22 (.t 2)),
 ⟨some 40, .ld (.one (.sl 46)) 22 (.t 39), none, [1]⟩,
 ⟨some 41, .lenL (.t 40), none, [1, 2]⟩,
 ⟨some 42, .icmp .lss (.t 38) (.t 41), none, [0, 1, 2, 3]⟩,
 ⟨some 43, .mov (.t 42), none, [0, 1, 2, 3, 4]⟩,
 ⟨some 44, .mov (.t 11), some (43, true), [0, 1, 2, 3, 4, 5]⟩,
 ⟨some 45, .fad 3 1 24 22 (.t 3), some (43, true), [0, 1, 2, 3, 4, 5]⟩,
 ⟨some 46, .ld (.one (.sl 46)) 22 (.t 45), some (43, true), [0, 1, 2, 3, 4, 5, 7]⟩,
 ⟨some 47, .lenL (.t 46), some (43, true), [0, 1, 2, 3, 4, 5, 7, 8]⟩,
 ⟨some 48, .icmp .lss (.t 44) (.t 47), some (43, true), [0, 1, 2, 3, 4, 5, 6, 7, 8, 9]⟩,
 ⟨some 49, .pick (.t 43) (.t 48) (.c lB [.bool false]), none, [0, 1, 2, 3, 4, 5, 6, 7, 8, 9, 10]⟩,
 ⟨some 50, .mov (.t 49), none, [0, 1, 2, 3, 4, 5, 6, 7, 8, 9, 10, 11]⟩,
 ⟨some 51, .mov (.t 8), some (50, true), [0, 1, 2, 3, 4, 5, 6, 7, 8, 9, 10, 11, 12]⟩,
 ⟨some 52, .mov (.t 10), some (50, true), [0, 1, 2, 3, 4, 5, 6, 7, 8, 9, 10, 11, 12]⟩,
 ⟨some 53, .iad 44 (.one (.sl 3)) (.t 51) (.t 52), some (50, true), [0, 1, 2, 3, 4, 5, 6, 7, 8, 9, 10, 11, 12, 13, 14]⟩,
 ⟨some 54, .ld (.one (.sl 3)) 44 (.t 53), some (50, true), [0, 1, 2, 3, 4, 5, 6, 7, 8, 9, 10, 11, 12, 13, 14, 15]⟩,
 ⟨some 55, .mov (.t 11), some (50, true), [0, 1, 2, 3, 4, 5, 6, 7, 8, 9, 10, 11, 12]⟩,
 ⟨some 56, .iad 3 lI (.t 54) (.t 55), some (50, true), [0, 1, 2, 3, 4, 5, 6, 7, 8, 9, 10, 11, 12, 13, 14, 15, 16, 17]⟩,
 ⟨some 57, .ld lI 3 (.t 56), some (50, true), [0, 1, 2, 3, 4, 5, 6, 7, 8, 9, 10, 11, 12, 13, 14, 15, 16, 17, 18]⟩,
 ⟨some 58, .mov (.t 8), some (50, true), [0, 1, 2, 3, 4, 5, 6, 7, 8, 9, 10, 11, 12]⟩,
 ⟨some 59, .mov (.t 10), some (50, true), [0, 1, 2, 3, 4, 5, 6, 7, 8, 9, 10, 11, 12]⟩,
 ⟨some 60, .ibin .add (.t 59) (.c lI [.int 1]), some (50, true), [0, 1, 2, 3, 4, 5, 6, 7, 8, 9, 10, 11, 12, 21]⟩,
 ⟨some 61, .iad 44 (.one (.sl 3)) (.t 58) (.t 60), some (50, true), [0, 1, 2, 3, 4, 5, 6, 7, 8, 9, 10, 11, 12, 20, 21, 22]⟩,
 ⟨some 62, .ld (.one (.sl 3)) 44 (.t 61), some (50, true), [0, 1, 2, 3, 4, 5, 6, 7, 8, 9, 10, 11, 12, 20, 21, 22, 23]⟩,
 ⟨some 63, .mov (.t 11), some (50, true), [0, 1, 2, 3, 4, 5, 6, 7, 8, 9, 10, 11, 12]⟩,
 ⟨some 64, .ibin .add (.t 63) (.c lI [.int 1]), some (50, true), [0, 1, 2, 3, 4, 5, 6, 7, 8, 9, 10, 11, 12, 25]⟩,
 ⟨some 65, .iad 3 lI (.t 62) (.t 64), some (50, true), [0, 1, 2, 3, 4, 5, 6, 7, 8, 9, 10, 11, 12, 20, 21, 22, 23, 24, 25, 26]⟩,
 ⟨some 66, .ld lI 3 (.t 65), some (50, true), [0, 1, 2, 3, 4, 5, 6, 7, 8, 9, 10, 11, 12, 20, 21, 22, 23, 24, 25, 26, 27]⟩,
 ⟨some 67, .fad 3 1 24 22 (.t 2), some (50, true), [0, 1, 2, 3, 4, 5, 6, 7, 8, 9, 10, 11, 12]⟩,
 ⟨some 68, .ld (.one (.sl 46)) 22 (.t 67), some (50, true), [0, 1, 2, 3, 4, 5, 6, 7, 8, 9, 10, 11, 12, 29]⟩,
 ⟨some 69, .mov (.t 10), some (50, true), [0, 1, 2, 3, 4, 5, 6, 7, 8, 9, 10, 11, 12]⟩,
 ⟨some 70, .iad 46 lA0 (.t 68) (.t 69), some (50, true), [0, 1, 2, 3, 4, 5, 6, 7, 8, 9, 10, 11, 12, 29, 30, 31]⟩,
 ⟨some 71, .fad 1 4 46 24 (.t 70), some (50, true), [0, 1, 2, 3, 4, 5, 6, 7, 8, 9, 10, 11, 12, 29, 30, 31, 32]⟩,
 ⟨some 72, .ld lA1 24 (.t 71), some (50, true), [0, 1, 2, 3, 4, 5, 6, 7, 8, 9, 10, 11, 12, 29, 30, 31, 32, 33]⟩,
 ⟨some 73, .fad 3 1 24 22 (.t 3), some (50, true), [0, 1, 2, 3, 4, 5, 6, 7, 8, 9, 10, 11, 12]⟩,
 ⟨some 74, .ld (.one (.sl 46)) 22 (.t 73), some (50, true), [0, 1, 2, 3, 4, 5, 6, 7, 8, 9, 10, 11, 12, 35]⟩,
 ⟨some 75, .mov (.t 11), some (50, true), [0, 1, 2, 3, 4, 5, 6, 7, 8, 9, 10, 11, 12]⟩,
 ⟨some 76, .iad 46 lA0 (.t 74) (.t 75), some (50, true), [0, 1, 2, 3, 4, 5, 6, 7, 8, 9, 10, 11, 12, 35, 36, 37]⟩,
 ⟨some 77, .fad 1 4 46 24 (.t 76), some (50, true), [0, 1, 2, 3, 4, 5, 6, 7, 8, 9, 10, 11, 12, 35, 36, 37, 38]⟩,
 ⟨some 78, .ld lA1 24 (.t 77), some (50, true), [0, 1, 2, 3, 4, 5, 6, 7, 8, 9, 10, 11, 12, 35, 36, 37, 38, 39]⟩,
 ⟨some 79, .call 7 [lA1, lA1] [lI] [(.t 72), (.t 78)], some (50, true), [0, 1, 2, 3, 4, 5, 6, 7, 8, 9, 10, 11, 12, 29, 30, 31, 32, 33, 34, 35, 36, 37, 38, 39, 40]⟩,
 ⟨some 80, .ibin .add (.t 66) (.t 79), some (50, true), [0, 1, 2, 3, 4, 5, 6, 7, 8, 9, 10, 11, 12, 20, 21, 22, 23, 24, 25, 26, 27, 28, 29, 30, 31, 32, 33, 34, 35, 36, 37, 38, 39, 40, 41]⟩,
 ⟨some 81, .icmp .eql (.t 57) (.t 80), some (50, true), [0, 1, 2, 3, 4, 5, 6, 7, 8, 9, 10, 11, 12, 13, 14, 15, 16, 17, 18, 19, 20, 21, 22, 23, 24, 25, 26, 27, 28, 29, 30, 31, 32, 33, 34, 35, 36, 37, 38, 39, 40, 41, 42]⟩,
 ⟨some 82, .pick (.t 50) (.t 81) (.c lB [.bool false]), none, [0, 1, 2, 3, 4, 5, 6, 7, 8, 9, 10, 11, 12, 13, 14, 15, 16, 17, 18, 19, 20, 21, 22, 23, 24, 25, 26, 27, 28, 29, 30, 31, 32, 33, 34, 35, 36, 37, 38, 39, 40, 41, 42, 43]⟩,
 ⟨some 37, .mov (.t 82), none, [0, 1, 2, 3, 4, 5, 6, 7, 8, 9, 10, 11, 12, 13, 14, 15, 16, 17, 18, 19, 20, 21, 22, 23, 24, 25, 26, 27, 28, 29, 30, 31, 32, 33, 34, 35, 36, 37, 38, 39, 40, 41, 42, 43, 44]⟩] true 0))
 (.cond (.t 37) (.seq (.region [] [oq 83 (.mov (.t 9)),
 oq 84 (.mov (.t 10)),
 oq 85 (.mov (.t 11)),
 oq 86 (.bld lA2 [.int 0, .int 0] [(0, 1, (.t 84)), (1, 1, (.t 85))]),
 oq 87 (.bsl 40 lA2 1 [.int 0, .int 0] [(0, (.t 86))]),
 oq 88 (.appW 0 40 lA2 16 (.t 83) (.t 87)),
 oq 9 (.mov (.t 88))] false 1)
 (.region [] [oq 89 (.mov (.t 10)),
 oq 90 (.ibin .add (.t 89) (.c lI [.int 1])),
 oq 91 (.mov (.t 11)),
 oq 92 (.ibin .add (.t 91) (.c lI [.int 1])),
 oq 10 (.mov (.t 90)),
 oq 11 (.mov (.t 92))] false 0))
 (.seq (.region [] [oq 94 (.mov (.t 10)),
 oq 95 (.fad 3 1 24 22 (.t 2)),
 ⟨some 96, .ld (.one (.sl 46)) 22 (.t 95), none, [1]⟩,
 ⟨some 97, .lenL (.t 96), none, [1, 2]⟩,
 ⟨some 98, .icmp .lss (.t 94) (.t 97), none, [0, 1, 2, 3]⟩,
 ⟨some 99, .mov (.t 98), none, [0, 1, 2, 3, 4]⟩,
 ⟨some 100, .mov (.t 8), some (99, true), [0, 1, 2, 3, 4, 5]⟩,
 ⟨some 101, .mov (.t 10), some (99, true), [0, 1, 2, 3, 4, 5]⟩,
 ⟨some 102, .iad 44 (.one (.sl 3)) (.t 100) (.t 101), some (99, true), [0, 1, 2, 3, 4, 5, 6, 7]⟩,
 ⟨some 103, .ld (.one (.sl 3)) 44 (.t 102), some (99, true), [0, 1, 2, 3, 4, 5, 6, 7, 8]⟩,
 ⟨some 104, .mov (.t 11), some (99, true), [0, 1, 2, 3, 4, 5]⟩,
 ⟨some 105, .iad 3 lI (.t 103) (.t 104), some (99, true), [0, 1, 2, 3, 4, 5, 6, 7, 8, 9, 10]⟩,
 ⟨some 106, .ld lI 3 (.t 105), some (99, true), [0, 1, 2, 3, 4, 5, 6, 7, 8, 9, 10, 11]⟩,
 ⟨some 107, .mov (.t 8), some (99, true), [0, 1, 2, 3, 4, 5]⟩,
 ⟨some 108, .mov (.t 10), some (99, true), [0, 1, 2, 3, 4, 5]⟩,
 ⟨some 109, .ibin .add (.t 108) (.c lI [.int 1]), some (99, true), [0, 1, 2, 3, 4, 5, 14]⟩,
 ⟨some 110, .iad 44 (.one (.sl 3)) (.t 107) (.t 109), some (99, true), [0, 1, 2, 3, 4, 5, 13, 14, 15]⟩,
 ⟨some 111, .ld (.one (.sl 3)) 44 (.t 110), some (99, true), [0, 1, 2, 3, 4, 5, 13, 14, 15, 16]⟩,
 ⟨some 112, .mov (.t 11), some (99, true), [0, 1, 2, 3, 4, 5]⟩,
 ⟨some 113, .iad 3 lI (.t 111) (.t 112), some (99, true), [0, 1, 2, 3, 4, 5, 13, 14, 15, 16, 17, 18]⟩,
 ⟨some 114, .ld lI 3 (.t 113), some (99, true), [0, 1, 2, 3, 4, 5, 13, 14, 15, 16, 17, 18, 19]⟩,
 ⟨some 115, .ibin .add (.t 114) (.c lI [.int 2]), some (99, true), [0, 1, 2, 3, 4, 5, 13, 14, 15, 16, 17, 18, 19, 20]⟩,
 ⟨some 116, .icmp .eql (.t 106) (.t 115), some (99, true), [0, 1, 2, 3, 4, 5, 6, 7, 8, 9, 10, 11, 12, 13, 14, 15, 16, 17, 18, 19, 20, 21]⟩,
 ⟨some 117, .pick (.t 99) (.t 116) (.c lB [.bool false]), none, [0, 1, 2, 3, 4, 5, 6, 7, 8, 9, 10, 11, 12, 13, 14, 15, 16, 17, 18, 19, 20, 21, 22]⟩,
 ⟨some 93, .mov (.t 117), none, [0, 1, 2, 3, 4, 5, 6, 7, 8, 9, 10, 11, 12, 13, 14, 15, 16, 17, 18, 19, 20, 21, 22, 23]⟩] true 0)
 (.cond (.t 93) (.region [] [oq 118 (.mov (.t 10)),
 oq 119 (.ibin .add (.t 118) (.c lI [.int 1])),
 oq 10 (.mov (.t 119))] false 0)
 (.region [] [oq 35 (.mov (.t 11)),
 oq 36 (.ibin .add (.t 35) (.c lI [.int 1])),
 oq 11 (.mov (.t 36))] false 0)))))))))
noncomputable def align_ByEdits_l0 (E : Env) (v0 : C) (v1 : C) (v2 : C) (v3 : Int) (v4 : Int) (v5 : C) : Option (Nat × List PV) := E.fix (stepOf E align_ByEdits_c0 align_ByEdits_h0 align_ByEdits_o0) [.r [v0], .r [v1], .r [v2], .r [.int v3], .r [.int v4], .r [v5]]
noncomputable def align_ByEdits_b0 (E : Env) (X : C → C → C → Int → Int → C → Option (Nat × List PV)) (v0 : C) (v1 : C) (v2 : C) (v3 : Int) (v4 : Int) (v5 : C) : Option (Nat × List PV) :=
 (if v0.isDp = true then
 let K3 : Bool → Option (Nat × List PV) := fun q4 =>
 some (0, [.r [v0], .r [v1], .r [v2], .r [.int v3], .r [.int v4], .r [.bool q4], .r [v5]])
 if (decide (v3 < (((at_ v0.dpRow 3).rows).length : Int))) = true then
 K3 true
 else
 if v1.isDp = true then
 K3 (decide (v4 < (((at_ v1.dpRow 3).rows).length : Int)))
 else none
 else none).bind fun x5 =>
 if (gB 5 x5.2) = true then
 ((if (gC 0 x5.2).isDp = true then
 let K6 : Bool → Option (Nat × List PV) := fun q7 =>
 let K8 : Bool → Option (Nat × List PV) := fun q9 =>
 some (0, [.r [gC 0 x5.2], .r [gC 1 x5.2], .r [gC 2 x5.2], .r [.int (gI 3 x5.2)], .r [.int (gI 4 x5.2)], .r [.bool q9], .r [gC 6 x5.2]])
 if q7 = true then
 if (0 : Int) ≤ (gI 3 x5.2) ∧ (gI 3 x5.2) < (((gC 2 x5.2).rows).length : Int) then
 if (0 : Int) ≤ (gI 4 x5.2) ∧ (gI 4 x5.2) < (((at_ (rowsAt ((gC 2 x5.2).rows) ((gI 3 x5.2).toNat)) 0).rows).length : Int) then
 if (0 : Int) ≤ (Go.IntKind.i64.wrap ((gI 3 x5.2) + 1)) ∧ (Go.IntKind.i64.wrap ((gI 3 x5.2) + 1)) < (((gC 2 x5.2).rows).length : Int) then
 if (0 : Int) ≤ (Go.IntKind.i64.wrap ((gI 4 x5.2) + 1)) ∧ (Go.IntKind.i64.wrap ((gI 4 x5.2) + 1)) < (((at_ (rowsAt ((gC 2 x5.2).rows) ((Go.IntKind.i64.wrap ((gI 3 x5.2) + 1)).toNat)) 0).rows).length : Int) then
 if (gC 0 x5.2).isDp = true then
 if (0 : Int) ≤ (gI 3 x5.2) ∧ (gI 3 x5.2) < (((at_ ((gC 0 x5.2).dpRow) 3).rows).length : Int) then
 if (gC 1 x5.2).isDp = true then
 if (0 : Int) ≤ (gI 4 x5.2) ∧ (gI 4 x5.2) < (((at_ ((gC 1 x5.2).dpRow) 3).rows).length : Int) then
 (E.pc n_align_Cost [[at_ (rowsAt ((at_ ((gC 0 x5.2).dpRow) 3).rows) ((gI 3 x5.2).toNat)) 1, at_ (rowsAt ((at_ ((gC 0 x5.2).dpRow) 3).rows) ((gI 3 x5.2).toNat)) 2, at_ (rowsAt ((at_ ((gC 0 x5.2).dpRow) 3).rows) ((gI 3 x5.2).toNat)) 3, at_ (rowsAt ((at_ ((gC 0 x5.2).dpRow) 3).rows) ((gI 3 x5.2).toNat)) 4], [at_ (rowsAt ((at_ ((gC 1 x5.2).dpRow) 3).rows) ((gI 4 x5.2).toNat)) 1, at_ (rowsAt ((at_ ((gC 1 x5.2).dpRow) 3).rows) ((gI 4 x5.2).toNat)) 2, at_ (rowsAt ((at_ ((gC 1 x5.2).dpRow) 3).rows) ((gI 4 x5.2).toNat)) 3, at_ (rowsAt ((at_ ((gC 1 x5.2).dpRow) 3).rows) ((gI 4 x5.2).toNat)) 4]]).bind fun y10 =>
 K8 (((at_ (rowsAt ((at_ (rowsAt ((gC 2 x5.2).rows) ((gI 3 x5.2).toNat)) 0).rows) ((gI 4 x5.2).toNat)) 0).toI) == (Go.IntKind.i64.wrap (((at_ (rowsAt ((at_ (rowsAt ((gC 2 x5.2).rows) ((Go.IntKind.i64.wrap ((gI 3 x5.2) + 1)).toNat)) 0).rows) ((Go.IntKind.i64.wrap ((gI 4 x5.2) + 1)).toNat)) 0).toI) + ((at_ (rowsAt y10 0) 0).toI))))
 else none
 else none
 else none
 else none
 else none
 else none
 else none
 else none
 else
 K8 false
 if (decide ((gI 3 x5.2) < (((at_ ((gC 0 x5.2).dpRow) 3).rows).length : Int))) = true then
 if (gC 1 x5.2).isDp = true then
 K6 (decide ((gI 4 x5.2) < (((at_ ((gC 1 x5.2).dpRow) 3).rows).length : Int)))
 else none
 else
 K6 false
 else none).bind fun x11 =>
 if (gB 5 x11.2) = true then
 if (((gC 6 x11.2).rows).length + ([[.int (gI 3 x11.2), .int (gI 4 x11.2)]] : List Row).length) * 16 ≤ 140737488355328 then
 some (0, [.r [gC 0 x11.2], .r [gC 1 x11.2], .r [gC 2 x11.2], .r [.int (Go.IntKind.i64.wrap ((gI 3 x11.2) + 1))], .r [.int (Go.IntKind.i64.wrap ((gI 4 x11.2) + 1))], .r [appC (gC 6 x11.2) ([[.int (gI 3 x11.2), .int (gI 4 x11.2)]] : List Row)]])
 else none
 else
 if (gC 0 x11.2).isDp = true then
 let K12 : Bool → Option (Nat × List PV) := fun q13 =>
 if q13 = true then
 some (0, [.r [gC 0 x11.2], .r [gC 1 x11.2], .r [gC 2 x11.2], .r [.int (Go.IntKind.i64.wrap ((gI 3 x11.2) + 1))], .r [.int (gI 4 x11.2)], .r [gC 6 x11.2]])
 else
 some (0, [.r [gC 0 x11.2], .r [gC 1 x11.2], .r [gC 2 x11.2], .r [.int (gI 3 x11.2)], .r [.int (Go.IntKind.i64.wrap ((gI 4 x11.2) + 1))], .r [gC 6 x11.2]])
 if (decide ((gI 3 x11.2) < (((at_ ((gC 0 x11.2).dpRow) 3).rows).length : Int))) = true then
 if (0 : Int) ≤ (gI 3 x11.2) ∧ (gI 3 x11.2) < (((gC 2 x11.2).rows).length : Int) then
 if (0 : Int) ≤ (gI 4 x11.2) ∧ (gI 4 x11.2) < (((at_ (rowsAt ((gC 2 x11.2).rows) ((gI 3 x11.2).toNat)) 0).rows).length : Int) then
 if (0 : Int) ≤ (Go.IntKind.i64.wrap ((gI 3 x11.2) + 1)) ∧ (Go.IntKind.i64.wrap ((gI 3 x11.2) + 1)) < (((gC 2 x11.2).rows).length : Int) then
 if (0 : Int) ≤ (gI 4 x11.2) ∧ (gI 4 x11.2) < (((at_ (rowsAt ((gC 2 x11.2).rows) ((Go.IntKind.i64.wrap ((gI 3 x11.2) + 1)).toNat)) 0).rows).length : Int) then
 K12 (((at_ (rowsAt ((at_ (rowsAt ((gC 2 x11.2).rows) ((gI 3 x11.2).toNat)) 0).rows) ((gI 4 x11.2).toNat)) 0).toI) == (Go.IntKind.i64.wrap (((at_ (rowsAt ((at_ (rowsAt ((gC 2 x11.2).rows) ((Go.IntKind.i64.wrap ((gI 3 x11.2) + 1)).toNat)) 0).rows) ((gI 4 x11.2).toNat)) 0).toI) + 2)))
 else none
 else none
 else none
 else none
 else
 K12 false
 else none).bind fun x14 =>
 X (gC 0 x14.2) (gC 1 x14.2) (gC 2 x14.2) (gI 3 x14.2) (gI 4 x14.2) (gC 5 x14.2)
 else
 some (0, [.r [gC 2 x5.2], .r [gC 6 x5.2]])
theorem align_ByEdits_s0 (E : Env) (X : List PV → Option (Nat × List PV)) (v0 : C) (v1 : C) (v2 : C) (v3 : Int) (v4 : Int) (v5 : C) : stepOf E align_ByEdits_c0 align_ByEdits_h0 align_ByEdits_o0 X [.r [v0], .r [v1], .r [v2], .r [.int v3], .r [.int v4], .r [v5]] = align_ByEdits_b0 E (fun (v0 : C) (v1 : C) (v2 : C) (v3 : Int) (v4 : Int) (v5 : C) => X [.r [v0], .r [v1], .r [v2], .r [.int v3], .r [.int v4], .r [v5]]) v0 v1 v2 v3 v4 v5 := by kernel_rfl
def align_ByEdits_a : AFun := { ps := [lA1, lA1], rs := [(.one (.sl 40)), lI, lI], res := [(false, 4, (some lA2)), (false, 5, none), (false, 6, none)], body := (.seq (.region [] [oq 2 (.boxP lA1 24 (.t 0)),
 oq 3 (.boxP lA1 24 (.t 1)),
 oq 4 (.mov (.c (.one (.sl 40)) [.nils])),
 oq 5 (.mov (.c lI [.int 0])),
 oq 6 (.mov (.c lI [.int 0]))] false 0)
 (.seq (.seq (.region [] [oq 12 (.ld lA1 24 (.t 2)),
 oq 13 (.ld lA1 24 (.t 3)),
 oq 14 (.call 12 [lA1, lA1] [lI] [(.t 12), (.t 13)]),
 oq 7 (.mov (.t 14))] false 0)
 (.seq (.region [] [oq 15 (.mov (.t 7)),
 oq 16 (.icmp .neq (.t 15) (.c lI [.int 0]))] false 0)
 (.cond (.t 16) (.seq (.region [] [oq 17 (.mov (.t 7)),
 oq 4 (.mov (.c (.one (.sl 40)) [.nils])),
 oq 5 (.mov (.c lI [.int 0])),
 oq 6 (.mov (.t 17))] false 0)
 .ret)
 .skip)))
 (.seq (.region [] [oq 18 (.fad 3 1 24 22 (.t 2)),
 oq 19 (.ld (.one (.sl 46)) 22 (.t 18)),
 oq 20 (.fad 3 1 24 22 (.t 3)),
 oq 21 (.ld (.one (.sl 46)) 22 (.t 20)),
 oq 22 (.call 13 [(.one (.sl 46)), (.one (.sl 46))] [(.one (.sl 44))] [(.t 19), (.t 21)]),
 oq 8 (.mov (.t 22))] false 0)
 (.seq (.region [] [oq 9 (.nilS 0 40 lA2)] false 1)
 (.seq (.region [] [oq 10 (.mov (.c lI [.int 0])),
 oq 11 (.mov (.c lI [.int 0]))] false 0)
 (.seq (.block 0 (.loop align_ByEdits_h0 align_ByEdits_o0 align_ByEdits_c0))
 (.seq (.region [] [oq 120 (.mov (.t 9)),
 oq 121 (.mov (.t 8)),
 ⟨some 122, .iad 44 (.one (.sl 3)) (.t 121) (.c lI [.int 0]), none, [1]⟩,
 ⟨some 123, .ld (.one (.sl 3)) 44 (.t 122), none, [1, 2]⟩,
 ⟨some 124, .iad 3 lI (.t 123) (.c lI [.int 0]), none, [1, 2, 3]⟩,
 ⟨some 125, .ld lI 3 (.t 124), none, [1, 2, 3, 4]⟩,
 ⟨some 4, .mov (.t 120), none, [0]⟩,
 ⟨some 5, .mov (.t 125), none, [0, 1, 2, 3, 4, 5, 6]⟩,
 ⟨some 6, .mov (.c lI [.int 0]), none, [0, 1, 2, 3, 4, 5, 6, 7]⟩] true 0)
 .ret))))))) }
noncomputable def align_ByEdits (E : Env) (p0 : Row) (p1 : Row) : Option (List Row) :=
 (E.pc n_align_check [p0, p1]).bind fun y1 =>
 if (((at_ (rowsAt y1 0) 0).toI) != 0) = true then
 some [[.nils], [.int 0], [.int ((at_ (rowsAt y1 0) 0).toI)]]
 else
 (E.pc n_align_table [[at_ p0 3], [at_ p1 3]]).bind fun y2 =>
 (align_ByEdits_l0 E (.dp p0) (.dp p1) (at_ (rowsAt y2 0) 0) 0 0 .nils).bind fun x15 =>
 if (0 : Int) ≤ 0 ∧ 0 < (((gC 0 x15.2).rows).length : Int) then
 if (0 : Int) ≤ 0 ∧ 0 < (((at_ (rowsAt ((gC 0 x15.2).rows) 0) 0).rows).length : Int) then
 some [[gC 1 x15.2], [.int ((at_ (rowsAt ((at_ (rowsAt ((gC 0 x15.2).rows) 0) 0).rows) 0) 0).toI)], [.int 0]]
 else none
 else none
theorem align_ByEdits_eq (E : Env) (p0 : Row) (p1 : Row) : runP E align_ByEdits_a [p0, p1] = align_ByEdits E p0 p1 := by kernel_rfl

def claplaw3_num_a : AFun := { ps := [lI], rs := [lA1], res := [(true, 2, none)], body := (.seq (.region [] [oq 2 (.allocO 0 lA1 [.int 0, .int 0, .str [], .nils])] false 1)
 (.seq (.region [] [oq 3 (.mov (.t 0)),
 oq 4 (.bld lA1 [.int 0, .int 0, .str [], .nils] [(0, 1, (.c lI [.int 2])), (1, 1, (.t 3))]),
 ⟨none, .st lA1 (.t 2) (.t 4), none, []⟩] false 0)
 .ret)) }
noncomputable def claplaw3_num (E : Env) (p0 : Int) : Option (List Row) :=
 some [[.int 2, .int p0, .str [], .nils]]
end Go.Ev
