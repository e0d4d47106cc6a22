/-
  A part of the proof: what the functions of the program compute.
-/
import Derived.Test.YtpagadadfpmeaaaGreatDoorZNum
set_option linter.all false
set_option maxRecDepth 100000
namespace Go.Ev
def slices_IndexFunc_api_Field_h0 : Shape := { slots := [(0, .d (.one (.sl 67))), (1, .d (.one (.fn 131))), (7, .d lI), (8, .d lI)], objs := [] }
def slices_IndexFunc_api_Field_o0 : List (Exit' × Shape) := [(.exit 0, { slots := [], objs := [] }), (.ret, { slots := [(4, .d lI)], objs := [] })]
def slices_IndexFunc_api_Field_c0 : ACode := (.seq (.region [] [oq 9 (.icmp .lss (.t 8) (.t 7))] false 0)
 (.seq (.cond (.t 9) .skip
 (.exit 0))
 (.seq (.block 1 (.seq (.region [] [oq 10 (.mov (.t 8)),
 oq 5 (.mov (.t 10))] false 0)
 (.seq (.region [] [oq 11 (.mov (.t 1)),
 oq 12 (.mov (.t 0)),
 oq 13 (.mov (.t 5)),
 oq 14 (.iad 67 lA2 (.t 12) (.t 13)),
 oq 15 (.ld lA2 67 (.t 14)),
 oq 16 (.callv 131 [lA2] [lB] (.t 11) [(.t 15)])] false 0)
 (.cond (.t 16) (.seq (.region [] [oq 17 (.mov (.t 5)),
 oq 4 (.mov (.t 17))] false 0)
 .ret)
 .skip))))
 (.region [] [oq 18 (.ibin .add (.t 8) (.c lI [.int 1])),
 oq 8 (.mov (.t 18))] false 0))))
noncomputable def slices_IndexFunc_api_Field_l0 (E : Env) (v0 : C) (v1 : C) (v2 : Int) (v3 : Int) : Option (Nat × List PV) := E.fix (stepOf E slices_IndexFunc_api_Field_c0 slices_IndexFunc_api_Field_h0 slices_IndexFunc_api_Field_o0) [.r [v0], .r [v1], .r [.int v2], .r [.int v3]]
noncomputable def slices_IndexFunc_api_Field_b0 (E : Env) (X : C → C → Int → Int → Option (Nat × List PV)) (v0 : C) (v1 : C) (v2 : Int) (v3 : Int) : Option (Nat × List PV) :=
 if (decide (v3 < v2)) = true then
 if (0 : Int) ≤ v3 ∧ v3 < (v0.rows.length : Int) then
 (callC E v1 [rowsAt v0.rows v3.toNat]).bind fun y1 =>
 if ((at_ (rowsAt y1 0) 0).toB) = true then
 some (1, [.r [.int v3]])
 else
 X v0 v1 v2 (Go.IntKind.i64.wrap (v3 + 1))
 else none
 else
 some (0, [])
theorem slices_IndexFunc_api_Field_s0 (E : Env) (X : List PV → Option (Nat × List PV)) (v0 : C) (v1 : C) (v2 : Int) (v3 : Int) : stepOf E slices_IndexFunc_api_Field_c0 slices_IndexFunc_api_Field_h0 slices_IndexFunc_api_Field_o0 X [.r [v0], .r [v1], .r [.int v2], .r [.int v3]] = slices_IndexFunc_api_Field_b0 E (fun (v0 : C) (v1 : C) (v2 : Int) (v3 : Int) => X [.r [v0], .r [v1], .r [.int v2], .r [.int v3]]) v0 v1 v2 v3 := by kernel_rfl
def slices_IndexFunc_api_Field_a : AFun := { ps := [(.one (.sl 67)), (.one (.fn 131))], rs := [lI], res := [(false, 4, none)], body := (.seq (.region [] [oq 4 (.mov (.c lI [.int 0]))] false 0)
 (.seq (.seq (.region [] [oq 6 (.mov (.t 0)),
 oq 7 (.lenL (.t 6)),
 oq 8 (.mov (.c lI [.int 0]))] false 0)
 (.block 0 (.loop slices_IndexFunc_api_Field_h0 slices_IndexFunc_api_Field_o0 slices_IndexFunc_api_Field_c0)))
 (.seq (.region [] [oq 4 (.mov (.c lI [.int (-1)]))] false 0)
 .ret))) }
/-- slices.IndexFunc[[]clapperbridge/api.Field,clapperbridge/api.Field] -/
noncomputable def slices_IndexFunc_api_Field (E : Env) (p0 : C) (p1 : C) : Option (List Row) :=
 (slices_IndexFunc_api_Field_l0 E p0 p1 (p0.rows.length : Int) 0).bind fun x2 =>
 match x2.1 with
 | 0 =>
 some [[.int (-1)]]
 | i3 + 1 =>
 some [[.int (gI 0 x2.2)]]
theorem slices_IndexFunc_api_Field_eq (E : Env) (p0 : C) (p1 : C) : runP E slices_IndexFunc_api_Field_a [[p0], [p1]] = slices_IndexFunc_api_Field E p0 p1 := by kernel_rfl

def slices_ContainsFunc_api_Field_a : AFun := { ps := [(.one (.sl 67)), (.one (.fn 131))], rs := [lB], res := [(false, 4, none)], body := (.seq (.region [] [oq 4 (.mov (.c lB [.bool false]))] false 0)
 (.seq (.region [] [oq 5 (.mov (.t 0)),
 oq 6 (.mov (.t 1)),
 oq 7 (.call 95 [(.one (.sl 67)), (.one (.fn 131))] [lI] [(.t 5), (.t 6)]),
 oq 8 (.icmp .geq (.t 7) (.c lI [.int 0])),
 oq 4 (.mov (.t 8))] false 0)
 .ret)) }
/-- slices.ContainsFunc[[]clapperbridge/api.Field,clapperbridge/api.Field] -/
noncomputable def slices_ContainsFunc_api_Field (E : Env) (p0 : C) (p1 : C) : Option (List Row) :=
 (E.pc n_slices_IndexFunc_api_Field [[p0], [p1]]).bind fun y1 =>
 some [[.bool (decide (((at_ (rowsAt y1 0) 0).toI) ≥ 0))]]
theorem slices_ContainsFunc_api_Field_eq (E : Env) (p0 : C) (p1 : C) : runP E slices_ContainsFunc_api_Field_a [[p0], [p1]] = slices_ContainsFunc_api_Field E p0 p1 := by kernel_rfl

def value_names_1_a : AFun := { ps := [lA2, (.one (.ref 67))], rs := [lB], res := [(false, 3, none)], body := (.seq (.region [] [oq 2 (.boxP lA2 67 (.t 0)),
 oq 3 (.mov (.c lB [.bool false]))] false 0)
 (.seq (.region [] [oq 4 (.fad 0 1 67 9 (.t 2)),
 oq 5 (.ld lS 9 (.t 4)),
 oq 6 (.fad 0 1 67 9 (.t 1)),
 oq 7 (.ld lS 9 (.t 6)),
 oq 8 (.scmp .eql (.t 5) (.t 7)),
 oq 3 (.mov (.t 8))] false 0)
 .ret)) }
/-- clapperbridge/value.names$1 -/
noncomputable def value_names_1 (E : Env) (p0 : Row) (p1 : C) : Option (List Row) :=
 if p1.isDp = true then
 some [[.bool (((at_ p0 0).toS) == ((at_ p1.dpRow 0).toS))]]
 else none
theorem value_names_1_eq (E : Env) (p0 : Row) (p1 : C) : runP E value_names_1_a [p0, [p1]] = value_names_1 E p0 p1 := by kernel_rfl

def value_names_h0 : Shape := { slots := [(0, .d (.one (.sl 67))), (5, .d (.one (.sl 67))), (6, .d lI), (7, .d lI)], objs := [] }
def value_names_o0 : List (Exit' × Shape) := [(.exit 0, { slots := [], objs := [] }), (.ret, { slots := [(2, .d lI)], objs := [] })]
def value_names_c0 : ACode := (.seq (.region [] [oq 8 (.icmp .lss (.t 7) (.t 6))] false 0)
 (.seq (.cond (.t 8) .skip
 (.exit 0))
 (.seq (.block 1 (.seq (.region [] [oq 9 (.mov (.t 7)),
 oq 10 (.iad 67 lA2 (.t 5) (.t 7)),
 oq 11 (.ld lA2 67 (.t 10)),
 oq 4 (.allocO 0 lA2 [.str [], .int 0, .int 0, .str [], .nils]),
 oq 3 (.mov (.t 9)),
 ⟨none, .st lA2 (.t 4) (.t 11), none, []⟩] false 1)
 (.seq (.seq (.region [] [oq 12 (.fad 0 1 67 9 (.t 4)),
 oq 13 (.ld lS 9 (.t 12)),
 oq 14 (.call 18 [lS] [lB] [(.t 13)]),
 oq 15 (.not (.t 14))] false 0)
 (.cond (.t 15) (.seq (.region [] [oq 2 (.mov (.c lI [.int 15]))] false 0)
 .ret)
 .skip))
 (.seq (.region [(4, 67, some lA2)] [oq 16 (.mov (.t 0)),
 oq 17 (.mov (.t 3)),
 oq 18 (.slc 67 lA2 (.t 16) none (some (.t 17))),
 oq 19 (.mkf 81 131 [.ref 67] [(.t 4)]),
 oq 20 (.call 80 [(.one (.sl 67)), (.one (.fn 131))] [lB] [(.t 18), (.t 19)])] false 0)
 (.cond (.t 20) (.seq (.region [] [oq 2 (.mov (.c lI [.int 5]))] false 0)
 .ret)
 .skip)))))
 (.region [] [oq 21 (.ibin .add (.t 7) (.c lI [.int 1])),
 oq 7 (.mov (.t 21))] false 0))))
noncomputable def value_names_l0 (E : Env) (v0 : C) (v1 : C) (v2 : Int) (v3 : Int) : Option (Nat × List PV) := E.fix (stepOf E value_names_c0 value_names_h0 value_names_o0) [.r [v0], .r [v1], .r [.int v2], .r [.int v3]]
noncomputable def value_names_b0 (E : Env) (X : C → C → Int → Int → Option (Nat × List PV)) (v0 : C) (v1 : C) (v2 : Int) (v3 : Int) : Option (Nat × List PV) :=
 if (decide (v3 < v2)) = true then
 if (0 : Int) ≤ v3 ∧ v3 < (v1.rows.length : Int) then
 (E.pc n_value_Name [[.str ((at_ (rowsAt v1.rows v3.toNat) 0).toS)]]).bind fun y1 =>
 if (!((at_ (rowsAt y1 0) 0).toB)) = true then
 some (1, [.r [.int 15]])
 else
 if (0 : Int) ≤ 0 ∧ 0 ≤ v3 ∧ v3 ≤ (v0.rows.length : Int) then
 (E.pc n_slices_ContainsFunc_api_Field [[slcC v0 0 v3], [.fn n_value_names_1 [.dp (rowsAt v1.rows v3.toNat)]]]).bind fun y2 =>
 if ((at_ (rowsAt y2 0) 0).toB) = true then
 some (1, [.r [.int 5]])
 else
 X v0 v1 v2 (Go.IntKind.i64.wrap (v3 + 1))
 else none
 else none
 else
 some (0, [])
theorem value_names_s0 (E : Env) (X : List PV → Option (Nat × List PV)) (v0 : C) (v1 : C) (v2 : Int) (v3 : Int) : stepOf E value_names_c0 value_names_h0 value_names_o0 X [.r [v0], .r [v1], .r [.int v2], .r [.int v3]] = value_names_b0 E (fun (v0 : C) (v1 : C) (v2 : Int) (v3 : Int) => X [.r [v0], .r [v1], .r [.int v2], .r [.int v3]]) v0 v1 v2 v3 := by kernel_rfl
def value_names_a : AFun := { ps := [(.one (.sl 67))], rs := [lI], res := [(false, 2, none)], body := (.seq (.region [] [oq 2 (.mov (.c lI [.int 0]))] false 0)
 (.seq (.seq (.region [] [oq 5 (.mov (.t 0)),
 oq 6 (.lenL (.t 5)),
 oq 7 (.mov (.c lI [.int 0]))] false 0)
 (.block 0 (.loop value_names_h0 value_names_o0 value_names_c0)))
 (.seq (.region [] [oq 2 (.mov (.c lI [.int 0]))] false 0)
 .ret))) }
/-- clapperbridge/value.names -/
noncomputable def value_names (E : Env) (p0 : C) : Option (List Row) :=
 (value_names_l0 E p0 p0 (p0.rows.length : Int) 0).bind fun x3 =>
 match x3.1 with
 | 0 =>
 some [[.int 0]]
 | i4 + 1 =>
 some [[.int (gI 0 x3.2)]]
theorem value_names_eq (E : Env) (p0 : C) : runP E value_names_a [[p0]] = value_names E p0 := by kernel_rfl

def value_keys_h0 : Shape := { slots := [(1, .d (.one (.ref 25))), (6, .d (.one (.sl 67))), (7, .d lI), (8, .d lI)], objs := [] }
def value_keys_o0 : List (Exit' × Shape) := [(.exit 0, { slots := [], objs := [] }), (.ret, { slots := [(2, .d lI)], objs := [] })]
def value_keys_c0 : ACode := (.seq (.region [] [oq 9 (.icmp .lss (.t 8) (.t 7))] false 0)
 (.seq (.cond (.t 9) .skip
 (.exit 0))
 (.seq (.join [(.normal, { slots := [(1, .d (.one (.ref 25))), (6, .d (.one (.sl 67))), (7, .d lI), (8, .d lI)], objs := [] }), (.ret, { slots := [(2, .d lI)], objs := [] })] (.block 1 (.seq (.region [] [oq 10 (.mov (.t 8)),
 oq 11 (.iad 67 lA2 (.t 6) (.t 8)),
 oq 12 (.ld lA2 67 (.t 11)),
 oq 4 (.allocO 0 lA2 [.str [], .int 0, .int 0, .str [], .nils]),
 oq 3 (.mov (.t 10)),
 ⟨none, .st lA2 (.t 4) (.t 12), none, []⟩] false 1)
 (.block 2 (.seq (.join [(.normal, { slots := [(1, .d (.one (.ref 25))), (3, .d lI), (4, .ptr 0 0), (6, .d (.one (.sl 67))), (7, .d lI), (8, .d lI), (13, .d lB)], objs := [.var lA2] })] (.region [] [oq 14 (.fad 0 1 25 3 (.t 1)),
 oq 15 (.ld lI 3 (.t 14)),
 oq 16 (.icmp .eql (.t 15) (.c lI [.int 8])),
 oq 17 (.mov (.t 16)),
 ⟨some 18, .fad 0 1 67 9 (.t 4), some (17, true), []⟩,
 ⟨some 19, .ld lS 9 (.t 18), some (17, true), []⟩,
 ⟨some 20, .scmp .neq (.t 19) (.c lS [.str ([] : List UInt8)]), some (17, true), []⟩,
 oq 21 (.pick (.t 17) (.t 20) (.c lB [.bool false])),
 oq 13 (.mov (.t 21))] false 0))
 (.cond (.t 13) (.seq (.region [] [oq 2 (.mov (.c lI [.int 3]))] false 0)
 .ret)
 (.seq (.region [] [oq 23 (.fad 0 1 25 3 (.t 1)),
 oq 24 (.ld lI 3 (.t 23)),
 oq 25 (.icmp .eql (.t 24) (.c lI [.int 8])),
 oq 22 (.mov (.t 25))] false 0)
 (.cond (.t 22) .skip
 (.seq (.region [] [oq 27 (.fad 0 1 67 9 (.t 4)),
 oq 28 (.ld lS 9 (.t 27)),
 oq 29 (.lenS (.t 28)),
 oq 30 (.icmp .gtr (.t 29) (.c lI [.int 4000])),
 oq 26 (.mov (.t 30))] false 0)
 (.cond (.t 26) (.seq (.region [] [oq 2 (.mov (.c lI [.int 2]))] false 0)
 .ret)
 (.seq (.region [] [oq 32 (.mov (.t 3)),
 ⟨some 33, .icmp .gtr (.t 32) (.c lI [.int 0]), none, [0]⟩,
 ⟨some 34, .mov (.t 33), none, [0, 1]⟩,
 ⟨some 35, .fad 0 1 67 9 (.t 4), some (34, true), [0, 1, 2]⟩,
 ⟨some 36, .ld lS 9 (.t 35), some (34, true), [0, 1, 2, 3]⟩,
 ⟨some 37, .fad 3 1 25 23 (.t 1), some (34, true), [0, 1, 2]⟩,
 ⟨some 38, .ld (.one (.sl 67)) 23 (.t 37), some (34, true), [0, 1, 2, 5]⟩,
 ⟨some 39, .mov (.t 3), some (34, true), [0, 1, 2]⟩,
 ⟨some 40, .ibin .sub (.t 39) (.c lI [.int 1]), some (34, true), [0, 1, 2, 7]⟩,
 ⟨some 41, .iad 67 lA2 (.t 38) (.t 40), some (34, true), [0, 1, 2, 5, 6, 7, 8]⟩,
 ⟨some 42, .fad 0 1 67 9 (.t 41), some (34, true), [0, 1, 2, 5, 6, 7, 8, 9]⟩,
 ⟨some 43, .ld lS 9 (.t 42), some (34, true), [0, 1, 2, 5, 6, 7, 8, 9, 10]⟩,
 ⟨some 44, .scmp .leq (.t 36) (.t 43), some (34, true), [0, 1, 2, 3, 4, 5, 6, 7, 8, 9, 10, 11]⟩,
 ⟨some 45, .pick (.t 34) (.t 44) (.c lB [.bool false]), none, [0, 1, 2, 3, 4, 5, 6, 7, 8, 9, 10, 11, 12]⟩,
 ⟨some 31, .mov (.t 45), none, [0, 1, 2, 3, 4, 5, 6, 7, 8, 9, 10, 11, 12, 13]⟩] true 0)
 (.cond (.t 31) (.seq (.region [] [oq 2 (.mov (.c lI [.int 9]))] false 0)
 .ret)
 .skip))))))))))))
 (.region [] [oq 46 (.ibin .add (.t 8) (.c lI [.int 1])),
 oq 8 (.mov (.t 46))] false 0))))
noncomputable def value_keys_l0 (E : Env) (v0 : C) (v1 : C) (v2 : Int) (v3 : Int) : Option (Nat × List PV) := E.fix (stepOf E value_keys_c0 value_keys_h0 value_keys_o0) [.r [v0], .r [v1], .r [.int v2], .r [.int v3]]
noncomputable def value_keys_b0 (E : Env) (X : C → C → Int → Int → Option (Nat × List PV)) (v0 : C) (v1 : C) (v2 : Int) (v3 : Int) : Option (Nat × List PV) :=
 if (decide (v3 < v2)) = true then
 (if (0 : Int) ≤ v3 ∧ v3 < (v1.rows.length : Int) then
 (if v0.isDp = true then
 let K1 : Bool → Option (Nat × List PV) := fun q2 =>
 some (0, [.r [v0], .r [.int v3], .r [v1], .r [.int v2], .r [.int v3], .r [.bool q2], .r (rowsAt v1.rows v3.toNat)])
 if (((at_ v0.dpRow 0).toI) == 8) = true then
 K1 (!(((at_ (rowsAt v1.rows v3.toNat) 0).toS) == ([] : List UInt8)))
 else
 K1 false
 else none).bind fun x3 =>
 if (gB 5 x3.2) = true then
 some (1, [.r [.int 3]])
 else
 if (gC 0 x3.2).isDp = true then
 if (((at_ ((gC 0 x3.2).dpRow) 0).toI) == 8) = true then
 some (0, [.r [gC 0 x3.2], .r [gC 2 x3.2], .r [.int (gI 3 x3.2)], .r [.int (gI 4 x3.2)]])
 else
 if (decide (((gS 6 x3.2).length : Int) > 4000)) = true then
 some (1, [.r [.int 2]])
 else
 let K4 : Bool → Option (Nat × List PV) := fun q5 =>
 if q5 = true then
 some (1, [.r [.int 9]])
 else
 some (0, [.r [gC 0 x3.2], .r [gC 2 x3.2], .r [.int (gI 3 x3.2)], .r [.int (gI 4 x3.2)]])
 if (decide ((gI 1 x3.2) > 0)) = true then
 if (gC 0 x3.2).isDp = true then
 if (0 : Int) ≤ (Go.IntKind.i64.wrap ((gI 1 x3.2) - 1)) ∧ (Go.IntKind.i64.wrap ((gI 1 x3.2) - 1)) < (((at_ ((gC 0 x3.2).dpRow) 3).rows).length : Int) then
 K4 (Go.Op.bytesLess (gS 6 x3.2) ((at_ (rowsAt ((at_ ((gC 0 x3.2).dpRow) 3).rows) ((Go.IntKind.i64.wrap ((gI 1 x3.2) - 1)).toNat)) 0).toS) || (gS 6 x3.2) == ((at_ (rowsAt ((at_ ((gC 0 x3.2).dpRow) 3).rows) ((Go.IntKind.i64.wrap ((gI 1 x3.2) - 1)).toNat)) 0).toS))
 else none
 else none
 else
 K4 false
 else none
 else none).bind fun x6 =>
 match x6.1 with
 | 0 =>
 X (gC 0 x6.2) (gC 1 x6.2) (gI 2 x6.2) (Go.IntKind.i64.wrap ((gI 3 x6.2) + 1))
 | i7 + 1 =>
 some (1, [.r [.int (gI 0 x6.2)]])
 else
 some (0, [])
theorem value_keys_s0 (E : Env) (X : List PV → Option (Nat × List PV)) (v0 : C) (v1 : C) (v2 : Int) (v3 : Int) : stepOf E value_keys_c0 value_keys_h0 value_keys_o0 X [.r [v0], .r [v1], .r [.int v2], .r [.int v3]] = value_keys_b0 E (fun (v0 : C) (v1 : C) (v2 : Int) (v3 : Int) => X [.r [v0], .r [v1], .r [.int v2], .r [.int v3]]) v0 v1 v2 v3 := by kernel_rfl
def value_keys_a : AFun := { ps := [lA3], rs := [lI], res := [(false, 2, none)], body := (.seq (.region [] [oq 1 (.boxP lA3 25 (.t 0)),
 oq 2 (.mov (.c lI [.int 0]))] false 0)
 (.seq (.seq (.region [] [oq 5 (.fad 3 1 25 23 (.t 1)),
 oq 6 (.ld (.one (.sl 67)) 23 (.t 5)),
 oq 7 (.lenL (.t 6)),
 oq 8 (.mov (.c lI [.int 0]))] false 0)
 (.block 0 (.loop value_keys_h0 value_keys_o0 value_keys_c0)))
 (.seq (.region [] [oq 2 (.mov (.c lI [.int 0]))] false 0)
 .ret))) }
/-- clapperbridge/value.keys -/
noncomputable def value_keys (E : Env) (p0 : Row) : Option (List Row) :=
 (value_keys_l0 E (.dp p0) (at_ p0 3) (((at_ p0 3).rows).length : Int) 0).bind fun x8 =>
 match x8.1 with
 | 0 =>
 some [[.int 0]]
 | i9 + 1 =>
 some [[.int (gI 0 x8.2)]]
theorem value_keys_eq (E : Env) (p0 : Row) : runP E value_keys_a [p0] = value_keys E p0 := by kernel_rfl

def value_fields_a : AFun := { ps := [lA3], rs := [lI], res := [(false, 2, none)], body := (.seq (.region [] [oq 1 (.boxP lA3 25 (.t 0)),
 oq 2 (.mov (.c lI [.int 0]))] false 0)
 (.seq (.seq (.region [] [oq 3 (.fad 0 1 25 3 (.t 1)),
 oq 4 (.ld lI 3 (.t 3))] false 0)
 (.block 0 (.seq (.region [] [oq 6 (.icmp .eql (.t 4) (.c lI [.int 5])),
 oq 5 (.mov (.t 6))] false 0)
 (.cond (.t 5) (.seq (.region [] [oq 7 (.fad 2 1 25 9 (.t 1)),
 oq 8 (.ld lS 9 (.t 7)),
 oq 9 (.lenS (.t 8)),
 oq 10 (.icmp .gtr (.t 9) (.c lI [.int 4000]))] false 0)
 (.cond (.t 10) (.seq (.region [] [oq 2 (.mov (.c lI [.int 2]))] false 0)
 .ret)
 .skip))
 (.seq (.region [] [oq 12 (.icmp .eql (.t 4) (.c lI [.int 6])),
 oq 11 (.mov (.t 12))] false 0)
 (.cond (.t 11) (.seq (.seq (.region [] [oq 13 (.fad 3 1 25 23 (.t 1)),
 oq 14 (.ld (.one (.sl 67)) 23 (.t 13)),
 oq 15 (.lenL (.t 14)),
 oq 16 (.icmp .gtr (.t 15) (.c lI [.int 24]))] false 0)
 (.cond (.t 16) (.seq (.region [] [oq 2 (.mov (.c lI [.int 2]))] false 0)
 .ret)
 .skip))
 (.seq (.region [] [oq 17 (.fad 3 1 25 23 (.t 1)),
 oq 18 (.ld (.one (.sl 67)) 23 (.t 17)),
 oq 19 (.call 67 [(.one (.sl 67))] [lI] [(.t 18)]),
 oq 2 (.mov (.t 19))] false 0)
 .ret))
 (.seq (.region [] [oq 21 (.icmp .eql (.t 4) (.c lI [.int 7])),
 oq 20 (.mov (.t 21))] false 0)
 (.cond (.t 20) (.seq (.seq (.region [] [oq 22 (.fad 3 1 25 23 (.t 1)),
 oq 23 (.ld (.one (.sl 67)) 23 (.t 22)),
 oq 24 (.lenL (.t 23)),
 oq 25 (.icmp .neq (.t 24) (.c lI [.int 1]))] false 0)
 (.cond (.t 25) (.seq (.region [] [oq 2 (.mov (.c lI [.int 3]))] false 0)
 .ret)
 .skip))
 (.seq (.region [] [oq 26 (.fad 3 1 25 23 (.t 1)),
 oq 27 (.ld (.one (.sl 67)) 23 (.t 26)),
 oq 28 (.call 67 [(.one (.sl 67))] [lI] [(.t 27)]),
 oq 2 (.mov (.t 28))] false 0)
 .ret))
 (.seq (.seq (.region [] [oq 30 (.icmp .eql (.t 4) (.c lI [.int 8])),
 oq 29 (.mov (.t 30))] false 0)
 (.cond (.t 29) .skip
 (.region [] [oq 31 (.icmp .eql (.t 4) (.c lI [.int 9])),
 oq 29 (.mov (.t 31))] false 0)))
 (.cond (.t 29) (.seq (.seq (.region [] [oq 32 (.fad 3 1 25 23 (.t 1)),
 oq 33 (.ld (.one (.sl 67)) 23 (.t 32)),
 oq 34 (.lenL (.t 33)),
 oq 35 (.icmp .gtr (.t 34) (.c lI [.int 200]))] false 0)
 (.cond (.t 35) (.seq (.region [] [oq 2 (.mov (.c lI [.int 2]))] false 0)
 .ret)
 .skip))
 (.seq (.region [] [oq 36 (.ld lA3 25 (.t 1)),
 oq 37 (.call 68 [lA3] [lI] [(.t 36)]),
 oq 2 (.mov (.t 37))] false 0)
 .ret))
 .skip))))))))))
 (.seq (.region [] [oq 2 (.mov (.c lI [.int 0]))] false 0)
 .ret))) }
/-- clapperbridge/value.fields -/
noncomputable def value_fields (E : Env) (p0 : Row) : Option (List Row) :=
 if (((at_ p0 0).toI) == 5) = true then
 if (decide ((((at_ p0 2).toS).length : Int) > 4000)) = true then
 some [[.int 2]]
 else
 some [[.int 0]]
 else
 if (((at_ p0 0).toI) == 6) = true then
 if (decide ((((at_ p0 3).rows).length : Int) > 24)) = true then
 some [[.int 2]]
 else
 (E.pc n_value_names [[at_ p0 3]]).bind fun y1 =>
 some [[.int ((at_ (rowsAt y1 0) 0).toI)]]
 else
 if (((at_ p0 0).toI) == 7) = true then
 if ((((at_ p0 3).rows).length : Int) != 1) = true then
 some [[.int 3]]
 else
 (E.pc n_value_names [[at_ p0 3]]).bind fun y2 =>
 some [[.int ((at_ (rowsAt y2 0) 0).toI)]]
 else
 if (((at_ p0 0).toI) == 8) = true then
 if (((at_ p0 0).toI) == 8) = true then
 if (decide ((((at_ p0 3).rows).length : Int) > 200)) = true then
 some [[.int 2]]
 else
 (E.pc n_value_keys [p0]).bind fun y3 =>
 some [[.int ((at_ (rowsAt y3 0) 0).toI)]]
 else
 some [[.int 0]]
 else
 if (((at_ p0 0).toI) == 9) = true then
 if (decide ((((at_ p0 3).rows).length : Int) > 200)) = true then
 some [[.int 2]]
 else
 (E.pc n_value_keys [p0]).bind fun y4 =>
 some [[.int ((at_ (rowsAt y4 0) 0).toI)]]
 else
 some [[.int 0]]
theorem value_fields_eq (E : Env) (p0 : Row) : runP E value_fields_a [p0] = value_fields E p0 := by kernel_rfl

def value_node_h0 : Shape := { slots := [(46, .d (.one (.sl 67))), (47, .d lI), (48, .d lI)], objs := [] }
def value_node_o0 : List (Exit' × Shape) := [(.exit 1, { slots := [], objs := [] }), (.ret, { slots := [(4, .d lI)], objs := [] })]
def value_node_c0 : ACode := (.seq (.region [] [oq 49 (.icmp .lss (.t 48) (.t 47))] false 0)
 (.seq (.cond (.t 49) .skip
 (.exit 1))
 (.seq (.block 2 (.seq (.region [] [oq 50 (.iad 67 lA2 (.t 46) (.t 48)),
 oq 51 (.ld lA2 67 (.t 50)),
 oq 7 (.allocO 0 lA2 [.str [], .int 0, .int 0, .str [], .nils]),
 ⟨none, .st lA2 (.t 7) (.t 51), none, []⟩] false 1)
 (.seq (.region [] [oq 52 (.fad 1 4 67 25 (.t 7)),
 oq 53 (.ld lA3 25 (.t 52)),
 oq 54 (.call 32 [lA3, lB] [lI] [(.t 53), (.c lB [.bool false])]),
 oq 8 (.mov (.t 54))] false 0)
 (.seq (.region [] [oq 55 (.mov (.t 8)),
 oq 56 (.icmp .neq (.t 55) (.c lI [.int 0]))] false 0)
 (.cond (.t 56) (.seq (.region [] [oq 57 (.mov (.t 8)),
 oq 4 (.mov (.t 57))] false 0)
 .ret)
 .skip)))))
 (.region [] [oq 58 (.ibin .add (.t 48) (.c lI [.int 1])),
 oq 48 (.mov (.t 58))] false 0))))
noncomputable def value_node_l0 (E : Env) (v0 : C) (v1 : Int) (v2 : Int) : Option (Nat × List PV) := E.fix (stepOf E value_node_c0 value_node_h0 value_node_o0) [.r [v0], .r [.int v1], .r [.int v2]]
noncomputable def value_node_b0 (E : Env) (X : C → Int → Int → Option (Nat × List PV)) (v0 : C) (v1 : Int) (v2 : Int) : Option (Nat × List PV) :=
 if (decide (v2 < v1)) = true then
 if (0 : Int) ≤ v2 ∧ v2 < (v0.rows.length : Int) then
 (E.pc n_value_node [[at_ (rowsAt v0.rows v2.toNat) 1, at_ (rowsAt v0.rows v2.toNat) 2, at_ (rowsAt v0.rows v2.toNat) 3, at_ (rowsAt v0.rows v2.toNat) 4], [.bool false]]).bind fun y17 =>
 if (((at_ (rowsAt y17 0) 0).toI) != 0) = true then
 some (1, [.r [.int ((at_ (rowsAt y17 0) 0).toI)]])
 else
 X v0 v1 (Go.IntKind.i64.wrap (v2 + 1))
 else none
 else
 some (0, [])
theorem value_node_s0 (E : Env) (X : List PV → Option (Nat × List PV)) (v0 : C) (v1 : Int) (v2 : Int) : stepOf E value_node_c0 value_node_h0 value_node_o0 X [.r [v0], .r [.int v1], .r [.int v2]] = value_node_b0 E (fun (v0 : C) (v1 : Int) (v2 : Int) => X [.r [v0], .r [.int v1], .r [.int v2]]) v0 v1 v2 := by kernel_rfl
def value_node_a : AFun := { ps := [lA3, lB], rs := [lI], res := [(false, 4, none)], body := (.seq (.region [] [oq 2 (.boxP lA3 25 (.t 0)),
 oq 4 (.mov (.c lI [.int 0]))] false 0)
 (.seq (.join [(.normal, { slots := [(2, .d (.one (.ref 25)))], objs := [] }), (.ret, { slots := [(4, .d lI)], objs := [] })] (.block 0 (.seq (.join [(.normal, { slots := [(2, .d (.one (.ref 25))), (9, .d lB)], objs := [] })] (.region [] [oq 10 (.fad 0 1 25 3 (.t 2)),
 oq 11 (.ld lI 3 (.t 10)),
 oq 12 (.icmp .lss (.t 11) (.c lI [.int 0])),
 oq 13 (.mov (.t 12)),
 ⟨some 14, .fad 0 1 25 3 (.t 2), some (13, false), []⟩,
 ⟨some 15, .ld lI 3 (.t 14), some (13, false), []⟩,
 ⟨some 16, .icmp .geq (.t 15) (.c lI [.int 12]), some (13, false), []⟩,
 oq 17 (.pick (.t 13) (.c lB [.bool true]) (.t 16)),
 oq 18 (.mov (.t 17)),
 ⟨some 19, .fad 0 1 25 3 (.t 2), some (18, false), []⟩,
 ⟨some 20, .ld lI 3 (.t 19), some (18, false), []⟩,
 ⟨some 21, .icmp .eql (.t 20) (.c lI [.int 10]), some (18, false), []⟩,
 oq 22 (.pick (.t 18) (.c lB [.bool true]) (.t 21)),
 oq 23 (.mov (.t 22)),
 ⟨some 24, .fad 0 1 25 3 (.t 2), some (23, false), []⟩,
 ⟨some 25, .ld lI 3 (.t 24), some (23, false), []⟩,
 ⟨some 26, .icmp .eql (.t 25) (.c lI [.int 11]), some (23, false), []⟩,
 ⟨some 27, .mov (.t 26), some (23, false), []⟩,
 ⟨some 28, .mov (.t 1), some (27, true), []⟩,
 ⟨some 29, .not (.t 28), some (27, true), []⟩,
 ⟨some 30, .pick (.t 27) (.t 29) (.c lB [.bool false]), some (23, false), []⟩,
 oq 31 (.pick (.t 23) (.c lB [.bool true]) (.t 30)),
 oq 32 (.mov (.t 31)),
 ⟨some 33, .ld lA3 25 (.t 2), some (32, false), []⟩,
 ⟨some 34, .call 52 [lA3] [lB] [(.t 33)], some (32, false), []⟩,
 oq 35 (.pick (.t 32) (.c lB [.bool true]) (.t 34)),
 oq 9 (.mov (.t 35))] false 0))
 (.cond (.t 9) (.seq (.region [] [oq 4 (.mov (.c lI [.int 3]))] false 0)
 .ret)
 (.seq (.region [] [oq 37 (.ld lA3 25 (.t 2)),
 oq 38 (.call 53 [lA3] [lB] [(.t 37)]),
 oq 39 (.not (.t 38)),
 oq 36 (.mov (.t 39))] false 0)
 (.cond (.t 36) (.seq (.region [] [oq 4 (.mov (.c lI [.int 11]))] false 0)
 .ret)
 .skip))))))
 (.seq (.seq (.region [] [oq 40 (.ld lA3 25 (.t 2)),
 oq 41 (.call 54 [lA3] [lI] [(.t 40)]),
 oq 5 (.mov (.t 41))] false 0)
 (.seq (.region [] [oq 42 (.mov (.t 5)),
 oq 43 (.icmp .neq (.t 42) (.c lI [.int 0]))] false 0)
 (.cond (.t 43) (.seq (.region [] [oq 44 (.mov (.t 5)),
 oq 4 (.mov (.t 44))] false 0)
 .ret)
 .skip)))
 (.seq (.seq (.region [] [oq 45 (.fad 3 1 25 23 (.t 2)),
 oq 46 (.ld (.one (.sl 67)) 23 (.t 45)),
 oq 47 (.lenL (.t 46)),
 oq 48 (.mov (.c lI [.int 0]))] false 0)
 (.block 1 (.loop value_node_h0 value_node_o0 value_node_c0)))
 (.seq (.region [] [oq 4 (.mov (.c lI [.int 0]))] false 0)
 .ret))))) }
/-- clapperbridge/value.node -/
noncomputable def value_node (E : Env) (p0 : Row) (p1 : Bool) : Option (List Row) :=
 ((let K1 : Bool → Option (Nat × List PV) := fun q2 =>
  let K3 : Bool → Option (Nat × List PV) := fun q4 =>
   let K5 : Bool → Option (Nat × List PV) := fun q6 =>
    let K7 : Bool → Option (Nat × List PV) := fun q8 =>
     some (0, [.r [.dp p0], .r [.bool q8]])
    if q6 = true then
     K7 true
    else
     (E.pc n_value_unused [p0]).bind fun y9 =>
      K7 ((at_ (rowsAt y9 0) 0).toB)
   if q4 = true then
    K5 true
   else
    let K10 : Bool → Option (Nat × List PV) := fun q11 =>
     K5 q11
    if (((at_ p0 0).toI) == 11) = true then
     K10 (!p1)
    else
     K10 false
  if q2 = true then
   K3 true
  else
   K3 (((at_ p0 0).toI) == 10)
 if (decide (((at_ p0 0).toI) < 0)) = true then
  K1 true
 else
  K1 (decide (((at_ p0 0).toI) ≥ 12))).bind fun x12 =>
  if (gB 1 x12.2) = true then
   some (1, [.r [.int 3]])
  else
   if (gC 0 x12.2).isDp = true then
    (E.pc n_value_number [(gC 0 x12.2).dpRow]).bind fun y13 =>
     if (!((at_ (rowsAt y13 0) 0).toB)) = true then
      some (1, [.r [.int 11]])
     else
      some (0, [.r [gC 0 x12.2]])
   else none).bind fun x14 =>
  match x14.1 with
  | 0 =>
   if (gC 0 x14.2).isDp = true then
    (E.pc n_value_fields [(gC 0 x14.2).dpRow]).bind fun y16 =>
     if (((at_ (rowsAt y16 0) 0).toI) != 0) = true then
      some [[.int ((at_ (rowsAt y16 0) 0).toI)]]
     else
      if (gC 0 x14.2).isDp = true then
       (value_node_l0 E (at_ ((gC 0 x14.2).dpRow) 3) (((at_ ((gC 0 x14.2).dpRow) 3).rows).length : Int) 0).bind fun x18 =>
        match x18.1 with
        | 0 =>
         some [[.int 0]]
        | i19 + 1 =>
         some [[.int (gI 0 x18.2)]]
      else none
   else none
  | i15 + 1 =>
   some [[.int (gI 0 x14.2)]]
theorem value_node_eq (E : Env) (p0 : Row) (p1 : Bool) : runP E value_node_a [p0, [.bool p1]] = value_node E p0 p1 := by kernel_rfl

def value_Check_a : AFun := { ps := [lA3], rs := [lI], res := [(false, 2, none)], body := (.seq (.region [] [oq 1 (.boxP lA3 25 (.t 0)),
 oq 2 (.mov (.c lI [.int 0]))] false 0)
 (.seq (.seq (.region [] [oq 3 (.ld lA3 25 (.t 1)),
 oq 4 (.call 30 [lA3] [lI] [(.t 3)]),
 oq 5 (.icmp .gtr (.t 4) (.c lI [.int 2000])),
 oq 6 (.mov (.t 5)),
 ⟨some 7, .ld lA3 25 (.t 1), some (6, false), []⟩,
 ⟨some 8, .call 31 [lA3] [lI] [(.t 7)], some (6, false), []⟩,
 ⟨some 9, .icmp .gtr (.t 8) (.c lI [.int 40]), some (6, false), []⟩,
 oq 10 (.pick (.t 6) (.c lB [.bool true]) (.t 9))] false 0)
 (.cond (.t 10) (.seq (.region [] [oq 2 (.mov (.c lI [.int 2]))] false 0)
 .ret)
 .skip))
 (.seq (.region [] [oq 11 (.ld lA3 25 (.t 1)),
 oq 12 (.call 32 [lA3, lB] [lI] [(.t 11), (.c lB [.bool true])]),
 oq 2 (.mov (.t 12))] false 0)
 .ret))) }
/-- clapperbridge/value.Check -/
noncomputable def value_Check (E : Env) (p0 : Row) : Option (List Row) :=
 (E.pc n_value_Size [p0]).bind fun y1 =>
 let K2 : Bool → Option (List Row) := fun q3 =>
 if q3 = true then
 some [[.int 2]]
 else
 (E.pc n_value_node [p0, [.bool true]]).bind fun y4 =>
 some [[.int ((at_ (rowsAt y4 0) 0).toI)]]
 if (decide (((at_ (rowsAt y1 0) 0).toI) > 2000)) = true then
 K2 true
 else
 (E.pc n_value_Deep [p0]).bind fun y5 =>
 K2 (decide (((at_ (rowsAt y5 0) 0).toI) > 40))
theorem value_Check_eq (E : Env) (p0 : Row) : runP E value_Check_a [p0] = value_Check E p0 := by kernel_rfl

def lens_Plain_a : AFun := { ps := [lI], rs := [lB], res := [(false, 2, none)], body := (.seq (.region [] [oq 2 (.mov (.c lB [.bool false]))] false 0)
 (.seq (.region [] [oq 3 (.mov (.t 0)),
 oq 4 (.icmp .eql (.t 3) (.c lI [.int 1])),
 oq 5 (.mov (.t 4)),
 ⟨some 6, .mov (.t 0), some (5, false), []⟩,
 ⟨some 7, .icmp .eql (.t 6) (.c lI [.int 2]), some (5, false), []⟩,
 oq 8 (.pick (.t 5) (.c lB [.bool true]) (.t 7)),
 oq 9 (.mov (.t 8)),
 ⟨some 10, .mov (.t 0), some (9, false), []⟩,
 ⟨some 11, .icmp .eql (.t 10) (.c lI [.int 4]), some (9, false), []⟩,
 oq 12 (.pick (.t 9) (.c lB [.bool true]) (.t 11)),
 oq 13 (.mov (.t 12)),
 ⟨some 14, .mov (.t 0), some (13, false), []⟩,
 ⟨some 15, .icmp .eql (.t 14) (.c lI [.int 5]), some (13, false), []⟩,
 oq 16 (.pick (.t 13) (.c lB [.bool true]) (.t 15)),
 oq 2 (.mov (.t 16))] false 0)
 .ret)) }
/-- clapperbridge/lens.Plain -/
noncomputable def lens_Plain (E : Env) (p0 : Int) : Option (List Row) :=
 let K1 : Bool → Option (List Row) := fun q2 =>
 let K3 : Bool → Option (List Row) := fun q4 =>
 let K5 : Bool → Option (List Row) := fun q6 =>
 some [[.bool q6]]
 if q4 = true then
 K5 true
 else
 K5 (p0 == 5)
 if q2 = true then
 K3 true
 else
 K3 (p0 == 4)
 if (p0 == 1) = true then
 K1 true
 else
 K1 (p0 == 2)
theorem lens_Plain_eq (E : Env) (p0 : Int) : runP E lens_Plain_a [[.int p0]] = lens_Plain E p0 := by kernel_rfl

def slices_Index_string_h0 : Shape := { slots := [(0, .d (.one (.sl 9))), (1, .d lS), (7, .d lI), (8, .d lI)], objs := [] }
def slices_Index_string_o0 : List (Exit' × Shape) := [(.exit 0, { slots := [], objs := [] }), (.ret, { slots := [(4, .d lI)], objs := [] })]
def slices_Index_string_c0 : ACode := (.seq (.region [] [oq 9 (.icmp .lss (.t 8) (.t 7))] false 0)
 (.seq (.cond (.t 9) .skip
 (.exit 0))
 (.seq (.block 1 (.seq (.region [] [oq 10 (.mov (.t 8)),
 oq 5 (.mov (.t 10))] false 0)
 (.seq (.region [] [oq 11 (.mov (.t 1)),
 oq 12 (.mov (.t 0)),
 oq 13 (.mov (.t 5)),
 oq 14 (.iad 9 lS (.t 12) (.t 13)),
 oq 15 (.ld lS 9 (.t 14)),
 oq 16 (.scmp .eql (.t 11) (.t 15))] false 0)
 (.cond (.t 16) (.seq (.region [] [oq 17 (.mov (.t 5)),
 oq 4 (.mov (.t 17))] false 0)
 .ret)
 .skip))))
 (.region [] [oq 18 (.ibin .add (.t 8) (.c lI [.int 1])),
 oq 8 (.mov (.t 18))] false 0))))
noncomputable def slices_Index_string_l0 (E : Env) (v0 : C) (v1 : List UInt8) (v2 : Int) (v3 : Int) : Option (Nat × List PV) := E.fix (stepOf E slices_Index_string_c0 slices_Index_string_h0 slices_Index_string_o0) [.r [v0], .r [.str v1], .r [.int v2], .r [.int v3]]
noncomputable def slices_Index_string_b0 (E : Env) (X : C → List UInt8 → Int → Int → Option (Nat × List PV)) (v0 : C) (v1 : List UInt8) (v2 : Int) (v3 : Int) : Option (Nat × List PV) :=
 if (decide (v3 < v2)) = true then
 if (0 : Int) ≤ v3 ∧ v3 < (v0.rows.length : Int) then
 if (v1 == ((at_ (rowsAt v0.rows v3.toNat) 0).toS)) = true then
 some (1, [.r [.int v3]])
 else
 X v0 v1 v2 (Go.IntKind.i64.wrap (v3 + 1))
 else none
 else
 some (0, [])
theorem slices_Index_string_s0 (E : Env) (X : List PV → Option (Nat × List PV)) (v0 : C) (v1 : List UInt8) (v2 : Int) (v3 : Int) : stepOf E slices_Index_string_c0 slices_Index_string_h0 slices_Index_string_o0 X [.r [v0], .r [.str v1], .r [.int v2], .r [.int v3]] = slices_Index_string_b0 E (fun (v0 : C) (v1 : List UInt8) (v2 : Int) (v3 : Int) => X [.r [v0], .r [.str v1], .r [.int v2], .r [.int v3]]) v0 v1 v2 v3 := by kernel_rfl
def slices_Index_string_a : AFun := { ps := [(.one (.sl 9)), lS], rs := [lI], res := [(false, 4, none)], body := (.seq (.region [] [oq 4 (.mov (.c lI [.int 0]))] false 0)
 (.seq (.seq (.region [] [oq 6 (.mov (.t 0)),
 oq 7 (.lenL (.t 6)),
 oq 8 (.mov (.c lI [.int 0]))] false 0)
 (.block 0 (.loop slices_Index_string_h0 slices_Index_string_o0 slices_Index_string_c0)))
 (.seq (.region [] [oq 4 (.mov (.c lI [.int (-1)]))] false 0)
 .ret))) }
/-- slices.Index[[]string,string] -/
noncomputable def slices_Index_string (E : Env) (p0 : C) (p1 : List UInt8) : Option (List Row) :=
 (slices_Index_string_l0 E p0 p1 (p0.rows.length : Int) 0).bind fun x1 =>
 match x1.1 with
 | 0 =>
 some [[.int (-1)]]
 | i2 + 1 =>
 some [[.int (gI 0 x1.2)]]
theorem slices_Index_string_eq (E : Env) (p0 : C) (p1 : List UInt8) : runP E slices_Index_string_a [[p0], [.str p1]] = slices_Index_string E p0 p1 := by kernel_rfl

def slices_Contains_string_a : AFun := { ps := [(.one (.sl 9)), lS], rs := [lB], res := [(false, 4, none)], body := (.seq (.region [] [oq 4 (.mov (.c lB [.bool false]))] false 0)
 (.seq (.region [] [oq 5 (.mov (.t 0)),
 oq 6 (.mov (.t 1)),
 oq 7 (.call 69 [(.one (.sl 9)), lS] [lI] [(.t 5), (.t 6)]),
 oq 8 (.icmp .geq (.t 7) (.c lI [.int 0])),
 oq 4 (.mov (.t 8))] false 0)
 .ret)) }
/-- slices.Contains[[]string,string] -/
noncomputable def slices_Contains_string (E : Env) (p0 : C) (p1 : List UInt8) : Option (List Row) :=
 (E.pc n_slices_Index_string [[p0], [.str p1]]).bind fun y1 =>
 some [[.bool (decide (((at_ (rowsAt y1 0) 0).toI) ≥ 0))]]
theorem slices_Contains_string_eq (E : Env) (p0 : C) (p1 : List UInt8) : runP E slices_Contains_string_a [[p0], [.str p1]] = slices_Contains_string E p0 p1 := by kernel_rfl

def lens_names_h0 : Shape := { slots := [(0, .d (.one (.sl 9))), (8, .d (.one (.sl 9))), (9, .d lI), (10, .d lI)], objs := [] }
def lens_names_o0 : List (Exit' × Shape) := [(.exit 0, { slots := [], objs := [] }), (.ret, { slots := [(2, .d lI)], objs := [] })]
def lens_names_c0 : ACode := (.seq (.region [] [oq 11 (.icmp .lss (.t 10) (.t 9))] false 0)
 (.seq (.cond (.t 11) .skip
 (.exit 0))
 (.seq (.block 1 (.seq (.region [] [oq 12 (.mov (.t 10)),
 oq 13 (.iad 9 lS (.t 8) (.t 10)),
 oq 14 (.ld lS 9 (.t 13)),
 oq 3 (.mov (.t 12)),
 oq 4 (.mov (.t 14))] false 0)
 (.seq (.seq (.region [] [oq 15 (.mov (.t 4)),
 oq 16 (.call 18 [lS] [lB] [(.t 15)]),
 oq 17 (.not (.t 16))] false 0)
 (.cond (.t 17) (.seq (.region [] [oq 2 (.mov (.c lI [.int 15]))] false 0)
 .ret)
 .skip))
 (.seq (.region [] [oq 18 (.mov (.t 0)),
 oq 19 (.mov (.t 3)),
 oq 20 (.slc 9 lS (.t 18) none (some (.t 19))),
 oq 21 (.mov (.t 4)),
 oq 22 (.call 55 [(.one (.sl 9)), lS] [lB] [(.t 20), (.t 21)])] false 0)
 (.cond (.t 22) (.seq (.region [] [oq 2 (.mov (.c lI [.int 5]))] false 0)
 .ret)
 .skip)))))
 (.region [] [oq 23 (.ibin .add (.t 10) (.c lI [.int 1])),
 oq 10 (.mov (.t 23))] false 0))))
noncomputable def lens_names_l0 (E : Env) (v0 : C) (v1 : C) (v2 : Int) (v3 : Int) : Option (Nat × List PV) := E.fix (stepOf E lens_names_c0 lens_names_h0 lens_names_o0) [.r [v0], .r [v1], .r [.int v2], .r [.int v3]]
noncomputable def lens_names_b0 (E : Env) (X : C → C → Int → Int → Option (Nat × List PV)) (v0 : C) (v1 : C) (v2 : Int) (v3 : Int) : Option (Nat × List PV) :=
 if (decide (v3 < v2)) = true then
 if (0 : Int) ≤ v3 ∧ v3 < (v1.rows.length : Int) then
 (E.pc n_value_Name [[.str ((at_ (rowsAt v1.rows v3.toNat) 0).toS)]]).bind fun y1 =>
 if (!((at_ (rowsAt y1 0) 0).toB)) = true then
 some (1, [.r [.int 15]])
 else
 if (0 : Int) ≤ 0 ∧ 0 ≤ v3 ∧ v3 ≤ (v0.rows.length : Int) then
 (E.pc n_slices_Contains_string [[slcC v0 0 v3], [.str ((at_ (rowsAt v1.rows v3.toNat) 0).toS)]]).bind fun y2 =>
 if ((at_ (rowsAt y2 0) 0).toB) = true then
 some (1, [.r [.int 5]])
 else
 X v0 v1 v2 (Go.IntKind.i64.wrap (v3 + 1))
 else none
 else none
 else
 some (0, [])
theorem lens_names_s0 (E : Env) (X : List PV → Option (Nat × List PV)) (v0 : C) (v1 : C) (v2 : Int) (v3 : Int) : stepOf E lens_names_c0 lens_names_h0 lens_names_o0 X [.r [v0], .r [v1], .r [.int v2], .r [.int v3]] = lens_names_b0 E (fun (v0 : C) (v1 : C) (v2 : Int) (v3 : Int) => X [.r [v0], .r [v1], .r [.int v2], .r [.int v3]]) v0 v1 v2 v3 := by kernel_rfl
def lens_names_a : AFun := { ps := [(.one (.sl 9))], rs := [lI], res := [(false, 2, none)], body := (.seq (.region [] [oq 2 (.mov (.c lI [.int 0]))] false 0)
 (.seq (.seq (.region [] [oq 5 (.mov (.t 0)),
 oq 6 (.lenL (.t 5)),
 oq 7 (.icmp .eql (.t 6) (.c lI [.int 0]))] false 0)
 (.cond (.t 7) (.seq (.region [] [oq 2 (.mov (.c lI [.int 3]))] false 0)
 .ret)
 .skip))
 (.seq (.seq (.region [] [oq 8 (.mov (.t 0)),
 oq 9 (.lenL (.t 8)),
 oq 10 (.mov (.c lI [.int 0]))] false 0)
 (.block 0 (.loop lens_names_h0 lens_names_o0 lens_names_c0)))
 (.seq (.region [] [oq 2 (.mov (.c lI [.int 0]))] false 0)
 .ret)))) }
/-- clapperbridge/lens.names -/
noncomputable def lens_names (E : Env) (p0 : C) : Option (List Row) :=
 if ((p0.rows.length : Int) == 0) = true then
 some [[.int 3]]
 else
 (lens_names_l0 E p0 p0 (p0.rows.length : Int) 0).bind fun x3 =>
 match x3.1 with
 | 0 =>
 some [[.int 0]]
 | i4 + 1 =>
 some [[.int (gI 0 x3.2)]]
theorem lens_names_eq (E : Env) (p0 : C) : runP E lens_names_a [[p0]] = lens_names E p0 := by kernel_rfl

def pattern_reader_more_i3_a : AImp := { fn := 97, entry := pattern_reader_more_i3_en, res := [.tmp 2], exit := pattern_reader_more_i3_ex, body := (.seq (.region [] [oq 2 (.mov (.c lB [.bool false]))] false 0)
 (.seq (.region [] [oq 3 (.mov (.t 0)),
 ⟨some 4, .nchk (.t 3), none, [0]⟩,
 ⟨some 5, .fad 13 1 135 4 (.t 4), none, [0, 1]⟩,
 ⟨some 6, .ldC (.t 5), none, [0, 1, 2]⟩,
 ⟨some 7, .not (.t 6), none, [0, 1, 2, 3]⟩,
 ⟨some 8, .mov (.t 7), none, [0, 1, 2, 3, 4]⟩,
 ⟨some 9, .mov (.t 0), some (8, true), [0, 1, 2, 3, 4, 5]⟩,
 ⟨some 10, .nchk (.t 9), some (8, true), [0, 1, 2, 3, 4, 5, 6]⟩,
 ⟨some 11, .fad 1 1 135 3 (.t 10), some (8, true), [0, 1, 2, 3, 4, 5, 6, 7]⟩,
 ⟨some 12, .ldC (.t 11), some (8, true), [0, 1, 2, 3, 4, 5, 6, 7, 8]⟩,
 ⟨some 13, .mov (.t 0), some (8, true), [0, 1, 2, 3, 4, 5]⟩,
 ⟨some 14, .nchk (.t 13), some (8, true), [0, 1, 2, 3, 4, 5, 10]⟩,
 ⟨some 15, .fad 0 1 135 9 (.t 14), some (8, true), [0, 1, 2, 3, 4, 5, 10, 11]⟩,
 ⟨some 16, .ldC (.t 15), some (8, true), [0, 1, 2, 3, 4, 5, 10, 11, 12]⟩,
 ⟨some 17, .lenS (.t 16), some (8, true), [0, 1, 2, 3, 4, 5, 10, 11, 12, 13]⟩,
 ⟨some 18, .icmp .lss (.t 12) (.t 17), some (8, true), [0, 1, 2, 3, 4, 5, 6, 7, 8, 9, 10, 11, 12, 13, 14]⟩,
 ⟨some 19, .pick (.t 8) (.t 18) (.c lB [.bool false]), none, [0, 1, 2, 3, 4, 5, 6, 7, 8, 9, 10, 11, 12, 13, 14, 15]⟩,
 ⟨some 2, .mov (.t 19), none, [0, 1, 2, 3, 4, 5, 6, 7, 8, 9, 10, 11, 12, 13, 14, 15, 16]⟩] true 0)
 .ret)) }
/-- (*clapperbridge/pattern.reader).more, to which objects are handed -/
noncomputable def pattern_reader_more_i3 (E : Env) (p0 : List UInt8) (p1 : Int) (p2 : Bool) (p3 : Int) (p4 : Int) (p5 : Int) (p6 : Int) (p7 : Int) (p8 : Int) (p9 : Int) (p10 : Int) (p11 : Bool) (p12 : C) (p13 : C) : Option (List PV) :=
 let K1 : Bool → Option (List PV) := fun q2 =>
 some [.r [.bool q2], .r [.str p0], .r [.int p1], .r [.bool p2], .r [.int p3], .r [.int p4], .r [.int p5], .r [.int p6], .r [.int p7], .r [.int p8], .r [.int p9], .r [.int p10], .r [.bool p11], .r [p12], .r [p13]]
 if (!p11) = true then
 K1 (decide (p1 < (p0.length : Int)))
 else
 K1 false
theorem pattern_reader_more_i3_eq (E : Env) (p0 : List UInt8) (p1 : Int) (p2 : Bool) (p3 : Int) (p4 : Int) (p5 : Int) (p6 : Int) (p7 : Int) (p8 : Int) (p9 : Int) (p10 : Int) (p11 : Bool) (p12 : C) (p13 : C) : runI E pattern_reader_more_i3_a [.r [.str p0], .r [.int p1], .r [.bool p2], .r [.int p3], .r [.int p4], .r [.int p5], .r [.int p6], .r [.int p7], .r [.int p8], .r [.int p9], .r [.int p10], .r [.bool p11], .r [p12], .r [p13]] = pattern_reader_more_i3 E p0 p1 p2 p3 p4 p5 p6 p7 p8 p9 p10 p11 p12 p13 := by kernel_rfl

def pattern_reader_peek_i4_a : AImp := { fn := 98, entry := pattern_reader_peek_i4_en, res := [.tmp 2], exit := pattern_reader_peek_i4_ex, body := (.seq (.region [] [oq 2 (.mov (.c lU [.int 0]))] false 0)
 (.seq (.seq (.region [] [oq 3 (.mov (.t 0)),
 ⟨some 4, .nchk (.t 3), none, [0]⟩,
 ⟨some 5, .fad 1 1 135 3 (.t 4), none, [0, 1]⟩,
 ⟨some 6, .ldC (.t 5), none, [0, 1, 2]⟩,
 oq 7 (.mov (.t 0)),
 ⟨some 8, .nchk (.t 7), none, [4]⟩,
 ⟨some 9, .fad 0 1 135 9 (.t 8), none, [4, 5]⟩,
 ⟨some 10, .ldC (.t 9), none, [4, 5, 6]⟩,
 ⟨some 11, .lenS (.t 10), none, [4, 5, 6, 7]⟩,
 ⟨some 12, .icmp .geq (.t 6) (.t 11), none, [0, 1, 2, 3, 4, 5, 6, 7, 8]⟩] true 0)
 (.cond (.t 12) (.seq (.region [] [oq 2 (.mov (.c lU [.int 0]))] false 0)
 .ret)
 .skip))
 (.seq (.region [] [oq 13 (.mov (.t 0)),
 ⟨some 14, .nchk (.t 13), none, [0]⟩,
 ⟨some 15, .fad 0 1 135 9 (.t 14), none, [0, 1]⟩,
 ⟨some 16, .ldC (.t 15), none, [0, 1, 2]⟩,
 oq 17 (.mov (.t 0)),
 ⟨some 18, .nchk (.t 17), none, [4]⟩,
 ⟨some 19, .fad 1 1 135 3 (.t 18), none, [4, 5]⟩,
 ⟨some 20, .ldC (.t 19), none, [4, 5, 6]⟩,
 ⟨some 21, .idxS (.t 16) (.t 20), none, [0, 1, 2, 3, 4, 5, 6, 7]⟩,
 ⟨some 2, .mov (.t 21), none, [0, 1, 2, 3, 4, 5, 6, 7, 8]⟩] true 0)
 .ret))) }
/-- (*clapperbridge/pattern.reader).peek, to which objects are handed -/
noncomputable def pattern_reader_peek_i4 (E : Env) (p0 : List UInt8) (p1 : Int) (p2 : Bool) (p3 : Int) (p4 : Int) (p5 : Int) (p6 : Int) (p7 : Int) (p8 : Int) (p9 : Int) (p10 : Int) (p11 : Bool) (p12 : C) (p13 : C) : Option (List PV) :=
 if (decide (p1 ≥ (p0.length : Int))) = true then
 some [.r [.int 0], .r [.str p0], .r [.int p1], .r [.bool p2], .r [.int p3], .r [.int p4], .r [.int p5], .r [.int p6], .r [.int p7], .r [.int p8], .r [.int p9], .r [.int p10], .r [.bool p11], .r [p12], .r [p13]]
 else
 if (0 : Int) ≤ p1 ∧ p1 < (p0.length : Int) then
 some [.r [.int ((p0.getD p1.toNat 0).toNat : Int)], .r [.str p0], .r [.int p1], .r [.bool p2], .r [.int p3], .r [.int p4], .r [.int p5], .r [.int p6], .r [.int p7], .r [.int p8], .r [.int p9], .r [.int p10], .r [.bool p11], .r [p12], .r [p13]]
 else none
theorem pattern_reader_peek_i4_eq (E : Env) (p0 : List UInt8) (p1 : Int) (p2 : Bool) (p3 : Int) (p4 : Int) (p5 : Int) (p6 : Int) (p7 : Int) (p8 : Int) (p9 : Int) (p10 : Int) (p11 : Bool) (p12 : C) (p13 : C) : runI E pattern_reader_peek_i4_a [.r [.str p0], .r [.int p1], .r [.bool p2], .r [.int p3], .r [.int p4], .r [.int p5], .r [.int p6], .r [.int p7], .r [.int p8], .r [.int p9], .r [.int p10], .r [.bool p11], .r [p12], .r [p13]] = pattern_reader_peek_i4 E p0 p1 p2 p3 p4 p5 p6 p7 p8 p9 p10 p11 p12 p13 := by kernel_rfl

def internal_stringslite_IndexByte_a : AFun := { ps := [lS, lU], rs := [lI], res := [(false, 4, none)], body := (.seq (.region [] [oq 4 (.mov (.c lI [.int 0]))] false 0)
 (.seq (.region [] [oq 5 (.mov (.t 0)),
 oq 6 (.mov (.t 1)),
 oq 7 (.ixbS 77 (.t 5) (.t 6)),
 oq 4 (.mov (.t 7))] false 0)
 .ret)) }
/-- internal/stringslite.IndexByte -/
noncomputable def internal_stringslite_IndexByte (E : Env) (p0 : List UInt8) (p1 : Int) : Option (List Row) :=
 some [[.int (idxBy p0 (p1).toNat.toUInt8)]]
theorem internal_stringslite_IndexByte_eq (E : Env) (p0 : List UInt8) (p1 : Int) : runP E internal_stringslite_IndexByte_a [[.str p0], [.int p1]] = internal_stringslite_IndexByte E p0 p1 := by kernel_rfl

def strings_IndexByte_a : AFun := { ps := [lS, lU], rs := [lI], res := [(false, 4, none)], body := (.seq (.region [] [oq 4 (.mov (.c lI [.int 0]))] false 0)
 (.seq (.region [] [oq 5 (.mov (.t 0)),
 oq 6 (.mov (.t 1)),
 oq 7 (.call 60 [lS, lU] [lI] [(.t 5), (.t 6)]),
 oq 4 (.mov (.t 7))] false 0)
 .ret)) }
/-- strings.IndexByte -/
noncomputable def strings_IndexByte (E : Env) (p0 : List UInt8) (p1 : Int) : Option (List Row) :=
 (E.pc n_internal_stringslite_IndexByte [[.str p0], [.int p1]]).bind fun y1 =>
 some [[.int ((at_ (rowsAt y1 0) 0).toI)]]
theorem strings_IndexByte_eq (E : Env) (p0 : List UInt8) (p1 : Int) : runP E strings_IndexByte_a [[.str p0], [.int p1]] = strings_IndexByte E p0 p1 := by kernel_rfl

def pattern_class_turn_i7_h0 : Shape := { slots := [(0, .ptr 0 0), (3, .d lI)], objs := [.var lA5], m := 1 }
def pattern_class_turn_i7_o0 : List (Exit' × Shape) := [(.exit 0, { slots := [], objs := [.var lA5], m := 1 })]
def pattern_class_turn_i7_c0 : ACode := (.seq (.region [] [oq 4 (.icmp .lss (.t 3) (.c lI [.int 4]))] false 0)
 (.seq (.cond (.t 4) .skip
 (.exit 0))
 (.seq (.block 1 (.seq (.region [] [oq 5 (.mov (.t 3)),
 oq 2 (.mov (.t 5))] false 0)
 (.region [] [oq 6 (.mov (.t 0)),
 oq 7 (.mov (.t 2)),
 oq 8 (.mov (.t 0)),
 oq 9 (.mov (.t 2)),
 ⟨some 10, .nchk (.t 8), none, [2]⟩,
 ⟨some 11, .iadA 4 133 102 lW (.t 10) (.t 9), none, [2, 3, 4]⟩,
 ⟨some 12, .ld lW 102 (.t 11), none, [2, 3, 4, 5]⟩,
 ⟨some 13, .icpl (.t 12), none, [2, 3, 4, 5, 6]⟩,
 ⟨some 14, .nchk (.t 6), none, [0]⟩,
 ⟨some 15, .iadA 4 133 102 lW (.t 14) (.t 7), none, [0, 1, 2, 3, 4, 5, 6, 7, 8]⟩,
 ⟨none, .st lW (.t 15) (.t 13), none, [0, 1, 2, 3, 4, 5, 6, 7, 8, 9]⟩] true 0)))
 (.region [] [oq 16 (.ibin .add (.t 3) (.c lI [.int 1])),
 oq 3 (.mov (.t 16))] false 0))))
noncomputable def pattern_class_turn_i7_l0 (E : Env) (v0 : Int) (v1 : Row) : Option (Nat × List PV) := E.fix (stepOf E pattern_class_turn_i7_c0 pattern_class_turn_i7_h0 pattern_class_turn_i7_o0) [.r [.int v0], .r v1]
noncomputable def pattern_class_turn_i7_b0 (E : Env) (X : Int → Row → Option (Nat × List PV)) (v0 : Int) (v1 : Row) : Option (Nat × List PV) :=
 if (decide (v0 < 4)) = true then
 if (0 : Int) ≤ v0 ∧ v0 < (4 : Int) then
 part lW lA5 (0 + (v0.toNat * 1)) v1 fun y1 =>
 if (0 : Int) ≤ v0 ∧ v0 < (4 : Int) then
 turn lW lA5 (0 + (v0.toNat * 1)) v1 [.int (bitsOf .xor .u64 (if Go.IntKind.signed .u64 then -1 else Go.IntKind.max .u64) ((at_ y1 0).toI))] fun r2 =>
 X (Go.IntKind.i64.wrap (v0 + 1)) r2
 else none
 else none
 else
 some (0, [.r v1])
theorem pattern_class_turn_i7_s0 (E : Env) (X : List PV → Option (Nat × List PV)) (v0 : Int) (v1 : Row) : stepOf E pattern_class_turn_i7_c0 pattern_class_turn_i7_h0 pattern_class_turn_i7_o0 X [.r [.int v0], .r v1] = pattern_class_turn_i7_b0 E (fun (v0 : Int) (v1 : Row) => X [.r [.int v0], .r v1]) v0 v1 := by kernel_rfl
def pattern_class_turn_i7_a : AImp := { fn := 110, entry := pattern_class_turn_i7_en, res := [], exit := pattern_class_turn_i7_ex, body := (.seq (.region [] [oq 3 (.mov (.c lI [.int 0]))] false 0)
 (.block 0 (.loop pattern_class_turn_i7_h0 pattern_class_turn_i7_o0 pattern_class_turn_i7_c0))) }
/-- (*clapperbridge/pattern.class).turn, to which objects are handed -/
noncomputable def pattern_class_turn_i7 (E : Env) (p0 : Row) : Option (List PV) :=
 (pattern_class_turn_i7_l0 E 0 p0).bind fun x3 =>
 some [.r (gR 0 x3.2)]
theorem pattern_class_turn_i7_eq (E : Env) (p0 : Row) : runI E pattern_class_turn_i7_a [.r p0] = pattern_class_turn_i7 E p0 := by kernel_rfl

def pattern_reader_single_i9_a : AImp := { fn := 114, entry := pattern_reader_single_i9_en, res := [.tmp 2], exit := pattern_reader_single_i9_ex, body := (.seq (.region [] [oq 2 (.mov (.c lU [.int 0]))] false 0)
 (.seq (.seq (.region [] [oq 4 (.mov (.t 0)),
 ⟨some 5, .nchk (.t 4), none, [0]⟩,
 ⟨some 6, .fad 1 1 135 3 (.t 5), none, [0, 1]⟩,
 ⟨some 7, .ldC (.t 6), none, [0, 1, 2]⟩,
 oq 8 (.mov (.t 0)),
 ⟨some 9, .nchk (.t 8), none, [4]⟩,
 ⟨some 10, .fad 0 1 135 9 (.t 9), none, [4, 5]⟩,
 ⟨some 11, .ldC (.t 10), none, [4, 5, 6]⟩,
 ⟨some 12, .lenS (.t 11), none, [4, 5, 6, 7]⟩,
 ⟨some 13, .icmp .geq (.t 7) (.t 12), none, [0, 1, 2, 3, 4, 5, 6, 7, 8]⟩] true 0)
 (.cond (.t 13) (.seq (.region [] [oq 14 (.mov (.t 0)),
 oq 15 (.nchk (.t 14)),
 oq 16 (.fad 13 1 135 4 (.t 15)),
 ⟨none, .stC (.t 16) (.c lB [.bool true]), none, []⟩] false 0)
 (.seq (.region [] [oq 2 (.mov (.c lU [.int 0]))] false 0)
 .ret))
 .skip))
 (.seq (.region [] [oq 17 (.mov (.t 0)),
 ⟨some 18, .nchk (.t 17), none, [0]⟩,
 ⟨some 19, .fad 0 1 135 9 (.t 18), none, [0, 1]⟩,
 ⟨some 20, .ldC (.t 19), none, [0, 1, 2]⟩,
 oq 21 (.mov (.t 0)),
 ⟨some 22, .nchk (.t 21), none, [4]⟩,
 ⟨some 23, .fad 1 1 135 3 (.t 22), none, [4, 5]⟩,
 ⟨some 24, .ldC (.t 23), none, [4, 5, 6]⟩,
 ⟨some 25, .idxS (.t 20) (.t 24), none, [0, 1, 2, 3, 4, 5, 6, 7]⟩,
 ⟨some 3, .mov (.t 25), none, [0, 1, 2, 3, 4, 5, 6, 7, 8]⟩] true 0)
 (.seq (.region [] [oq 26 (.mov (.t 0)),
 oq 27 (.nchk (.t 26)),
 oq 28 (.fad 1 1 135 3 (.t 27)),
 oq 29 (.ldC (.t 28)),
 oq 30 (.ibin .add (.t 29) (.c lI [.int 1])),
 oq 31 (.nchk (.t 26)),
 oq 32 (.fad 1 1 135 3 (.t 31)),
 ⟨none, .stC (.t 32) (.t 30), none, []⟩] false 0)
 (.seq (.seq (.join [(.normal, { slots := [(0, .ptr 0 0), (3, .d lU), (42, .d lB)], objs := bS1, m := 3 })] (.region [] [oq 33 (.mov (.t 3)),
 oq 34 (.icmp .eql (.t 33) (.c lU [.int 93])),
 oq 35 (.mov (.t 34)),
 ⟨some 36, .mov (.t 3), some (35, false), []⟩,
 ⟨some 37, .icmp .eql (.t 36) (.c lU [.int 94]), some (35, false), []⟩,
 oq 38 (.pick (.t 35) (.c lB [.bool true]) (.t 37)),
 oq 39 (.mov (.t 38)),
 ⟨some 40, .mov (.t 3), some (39, false), []⟩,
 ⟨some 41, .icmp .eql (.t 40) (.c lU [.int 45]), some (39, false), []⟩,
 oq 42 (.pick (.t 39) (.c lB [.bool true]) (.t 41))] false 0))
 (.join [(.normal, { slots := [(0, .ptr 0 0), (3, .d lU)], objs := bS1, m := 3 })] (.cond (.t 42) (.region [] [oq 43 (.mov (.t 0)),
 oq 44 (.nchk (.t 43)),
 oq 45 (.fad 13 1 135 4 (.t 44)),
 ⟨none, .stC (.t 45) (.c lB [.bool true]), none, []⟩] false 0)
 .skip)))
 (.seq (.seq (.region [] [oq 46 (.mov (.t 3)),
 oq 47 (.icmp .eql (.t 46) (.c lU [.int 92]))] false 0)
 (.cond (.t 47) (.seq (.seq (.region [] [oq 48 (.mov (.t 0)),
 ⟨some 49, .nchk (.t 48), none, [0]⟩,
 ⟨some 50, .fad 1 1 135 3 (.t 49), none, [0, 1]⟩,
 ⟨some 51, .ldC (.t 50), none, [0, 1, 2]⟩,
 oq 52 (.mov (.t 0)),
 ⟨some 53, .nchk (.t 52), none, [4]⟩,
 ⟨some 54, .fad 0 1 135 9 (.t 53), none, [4, 5]⟩,
 ⟨some 55, .ldC (.t 54), none, [4, 5, 6]⟩,
 ⟨some 56, .lenS (.t 55), none, [4, 5, 6, 7]⟩,
 ⟨some 57, .icmp .geq (.t 51) (.t 56), none, [0, 1, 2, 3, 4, 5, 6, 7, 8]⟩] true 0)
 (.cond (.t 57) (.seq (.region [] [oq 58 (.mov (.t 0)),
 oq 59 (.nchk (.t 58)),
 oq 60 (.fad 13 1 135 4 (.t 59)),
 ⟨none, .stC (.t 60) (.c lB [.bool true]), none, []⟩] false 0)
 (.seq (.region [] [oq 2 (.mov (.c lU [.int 0]))] false 0)
 .ret))
 .skip))
 (.seq (.region [] [oq 61 (.mov (.t 0)),
 ⟨some 62, .nchk (.t 61), none, [0]⟩,
 ⟨some 63, .fad 0 1 135 9 (.t 62), none, [0, 1]⟩,
 ⟨some 64, .ldC (.t 63), none, [0, 1, 2]⟩,
 oq 65 (.mov (.t 0)),
 ⟨some 66, .nchk (.t 65), none, [4]⟩,
 ⟨some 67, .fad 1 1 135 3 (.t 66), none, [4, 5]⟩,
 ⟨some 68, .ldC (.t 67), none, [4, 5, 6]⟩,
 ⟨some 69, .idxS (.t 64) (.t 68), none, [0, 1, 2, 3, 4, 5, 6, 7]⟩,
 ⟨some 3, .mov (.t 69), none, [0, 1, 2, 3, 4, 5, 6, 7, 8]⟩] true 0)
 (.region [] [oq 70 (.mov (.t 0)),
 oq 71 (.nchk (.t 70)),
 oq 72 (.fad 1 1 135 3 (.t 71)),
 oq 73 (.ldC (.t 72)),
 oq 74 (.ibin .add (.t 73) (.c lI [.int 1])),
 oq 75 (.nchk (.t 70)),
 oq 76 (.fad 1 1 135 3 (.t 75)),
 ⟨none, .stC (.t 76) (.t 74), none, []⟩] false 0)))
 .skip))
 (.seq (.region [] [oq 77 (.mov (.t 3)),
 oq 2 (.mov (.t 77))] false 0)
 .ret))))))) }
/-- (*clapperbridge/pattern.reader).single, to which objects are handed -/
noncomputable def pattern_reader_single_i9 (E : Env) (p0 : List UInt8) (p1 : Int) (p2 : Bool) (p3 : Int) (p4 : Int) (p5 : Int) (p6 : Int) (p7 : Int) (p8 : Int) (p9 : Int) (p10 : Int) (p11 : Bool) (p12 : C) (p13 : C) : Option (List PV) :=
 if (decide (p1 ≥ (p0.length : Int))) = true then
 some [.r [.int 0], .r [.str p0], .r [.int p1], .r [.bool p2], .r [.int p3], .r [.int p4], .r [.int p5], .r [.int p6], .r [.int p7], .r [.int p8], .r [.int p9], .r [.int p10], .r [.bool true], .r [p12], .r [p13]]
 else
 if (0 : Int) ≤ p1 ∧ p1 < (p0.length : Int) then
 (let K1 : Bool → Option (Nat × List PV) := fun q2 =>
 let K3 : Bool → Option (Nat × List PV) := fun q4 =>
 some (0, [.r [.int ((p0.getD p1.toNat 0).toNat : Int)], .r [.bool q4], .r [.str p0], .r [.int (Go.IntKind.i64.wrap (p1 + 1))], .r [.bool p2], .r [.int p3], .r [.int p4], .r [.int p5], .r [.int p6], .r [.int p7], .r [.int p8], .r [.int p9], .r [.int p10], .r [.bool p11], .r [p12], .r [p13]])
 if q2 = true then
 K3 true
 else
 K3 (((p0.getD p1.toNat 0).toNat : Int) == 45)
 if (((p0.getD p1.toNat 0).toNat : Int) == 93) = true then
 K1 true
 else
 K1 (((p0.getD p1.toNat 0).toNat : Int) == 94)).bind fun x5 =>
 (if (gB 1 x5.2) = true then
 some (0, [.r [.int (gI 0 x5.2)], .r [.str (gS 2 x5.2)], .r [.int (gI 3 x5.2)], .r [.bool (gB 4 x5.2)], .r [.int (gI 5 x5.2)], .r [.int (gI 6 x5.2)], .r [.int (gI 7 x5.2)], .r [.int (gI 8 x5.2)], .r [.int (gI 9 x5.2)], .r [.int (gI 10 x5.2)], .r [.int (gI 11 x5.2)], .r [.int (gI 12 x5.2)], .r [.bool true], .r [gC 14 x5.2], .r [gC 15 x5.2]])
 else
 some (0, [.r [.int (gI 0 x5.2)], .r [.str (gS 2 x5.2)], .r [.int (gI 3 x5.2)], .r [.bool (gB 4 x5.2)], .r [.int (gI 5 x5.2)], .r [.int (gI 6 x5.2)], .r [.int (gI 7 x5.2)], .r [.int (gI 8 x5.2)], .r [.int (gI 9 x5.2)], .r [.int (gI 10 x5.2)], .r [.int (gI 11 x5.2)], .r [.int (gI 12 x5.2)], .r [.bool (gB 13 x5.2)], .r [gC 14 x5.2], .r [gC 15 x5.2]])).bind fun x6 =>
 if ((gI 0 x6.2) == 92) = true then
 if (decide ((gI 2 x6.2) ≥ ((gS 1 x6.2).length : Int))) = true then
 some [.r [.int 0], .r [.str (gS 1 x6.2)], .r [.int (gI 2 x6.2)], .r [.bool (gB 3 x6.2)], .r [.int (gI 4 x6.2)], .r [.int (gI 5 x6.2)], .r [.int (gI 6 x6.2)], .r [.int (gI 7 x6.2)], .r [.int (gI 8 x6.2)], .r [.int (gI 9 x6.2)], .r [.int (gI 10 x6.2)], .r [.int (gI 11 x6.2)], .r [.bool true], .r [gC 13 x6.2], .r [gC 14 x6.2]]
 else
 if (0 : Int) ≤ (gI 2 x6.2) ∧ (gI 2 x6.2) < ((gS 1 x6.2).length : Int) then
 some [.r [.int (((gS 1 x6.2).getD ((gI 2 x6.2).toNat) 0).toNat : Int)], .r [.str (gS 1 x6.2)], .r [.int (Go.IntKind.i64.wrap ((gI 2 x6.2) + 1))], .r [.bool (gB 3 x6.2)], .r [.int (gI 4 x6.2)], .r [.int (gI 5 x6.2)], .r [.int (gI 6 x6.2)], .r [.int (gI 7 x6.2)], .r [.int (gI 8 x6.2)], .r [.int (gI 9 x6.2)], .r [.int (gI 10 x6.2)], .r [.int (gI 11 x6.2)], .r [.bool (gB 12 x6.2)], .r [gC 13 x6.2], .r [gC 14 x6.2]]
 else none
 else
 some [.r [.int (gI 0 x6.2)], .r [.str (gS 1 x6.2)], .r [.int (gI 2 x6.2)], .r [.bool (gB 3 x6.2)], .r [.int (gI 4 x6.2)], .r [.int (gI 5 x6.2)], .r [.int (gI 6 x6.2)], .r [.int (gI 7 x6.2)], .r [.int (gI 8 x6.2)], .r [.int (gI 9 x6.2)], .r [.int (gI 10 x6.2)], .r [.int (gI 11 x6.2)], .r [.bool (gB 12 x6.2)], .r [gC 13 x6.2], .r [gC 14 x6.2]]
 else none
theorem pattern_reader_single_i9_eq (E : Env) (p0 : List UInt8) (p1 : Int) (p2 : Bool) (p3 : Int) (p4 : Int) (p5 : Int) (p6 : Int) (p7 : Int) (p8 : Int) (p9 : Int) (p10 : Int) (p11 : Bool) (p12 : C) (p13 : C) : runI E pattern_reader_single_i9_a [.r [.str p0], .r [.int p1], .r [.bool p2], .r [.int p3], .r [.int p4], .r [.int p5], .r [.int p6], .r [.int p7], .r [.int p8], .r [.int p9], .r [.int p10], .r [.bool p11], .r [p12], .r [p13]] = pattern_reader_single_i9 E p0 p1 p2 p3 p4 p5 p6 p7 p8 p9 p10 p11 p12 p13 := by kernel_rfl

def pattern_class_add_i10_a : AImp := { fn := 112, entry := pattern_class_add_i10_en, res := [], exit := pattern_class_add_i10_ex, body := (.region [] [oq 4 (.mov (.t 0)),
 oq 5 (.mov (.t 1)),
 ⟨some 6, .idiv .quo (.t 5) (.c lU [.int 64]), none, [1]⟩,
 ⟨some 7, .nchk (.t 4), none, [0]⟩,
 ⟨some 8, .iadA 4 133 102 lW (.t 7) (.t 6), none, [0, 1, 2, 3]⟩,
 ⟨some 9, .ld lW 102 (.t 8), none, [0, 1, 2, 3, 4]⟩,
 oq 10 (.mov (.t 1)),
 ⟨some 11, .idiv .rem (.t 10) (.c lU [.int 64]), none, [6]⟩,
 ⟨some 12, .shf .shl (.c lW [.int 1]) (.t 11), none, [6, 7]⟩,
 ⟨some 13, .ibin .or (.t 9) (.t 12), none, [0, 1, 2, 3, 4, 5, 6, 7, 8]⟩,
 ⟨some 14, .nchk (.t 4), none, [0]⟩,
 ⟨some 15, .iadA 4 133 102 lW (.t 14) (.t 6), none, [0, 1, 2, 3, 4, 5, 6, 7, 8, 9, 10]⟩,
 ⟨none, .st lW (.t 15) (.t 13), none, [0, 1, 2, 3, 4, 5, 6, 7, 8, 9, 10, 11]⟩] true 0) }
/-- (*clapperbridge/pattern.class).add, to which objects are handed -/
noncomputable def pattern_class_add_i10 (E : Env) (p0 : Int) (p1 : Row) : Option (List PV) :=
 if (0 : Int) ≤ (Go.IntKind.u8.wrap (p0.tdiv 64)) ∧ (Go.IntKind.u8.wrap (p0.tdiv 64)) < (4 : Int) then
 part lW lA5 (0 + (((Go.IntKind.u8.wrap (p0.tdiv 64)).toNat) * 1)) p1 fun y1 =>
 if p0.tmod 64 < 0 then none else  if (0 : Int) ≤ (Go.IntKind.u8.wrap (p0.tdiv 64)) ∧ (Go.IntKind.u8.wrap (p0.tdiv 64)) < (4 : Int) then
 turn lW lA5 (0 + (((Go.IntKind.u8.wrap (p0.tdiv 64)).toNat) * 1)) p1 [.int (bitsOf .or .u64 ((at_ y1 0).toI) (Go.IntKind.u64.wrap (1 * 2 ^ (min ((p0.tmod 64).toNat) (Go.IntKind.bits .u64)))))] fun r2 =>
 some [.r r2]
 else none
 else none
theorem pattern_class_add_i10_eq (E : Env) (p0 : Int) (p1 : Row) : runI E pattern_class_add_i10_a [.r [.int p0], .r p1] = pattern_class_add_i10 E p0 p1 := by kernel_rfl
end Go.Ev
