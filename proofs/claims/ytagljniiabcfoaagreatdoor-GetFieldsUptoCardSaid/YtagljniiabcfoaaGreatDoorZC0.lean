/-
  A part of the proof: what the functions of the program compute.
-/
import Derived.Test.YtagljniiabcfoaaGreatDoorZNum
set_option linter.all false
set_option maxRecDepth 100000
namespace Go.Ev
def claplaw3_num_a : AFun := { ps := [lI], rs := [lA0], res := [(true, 2, none)], body := (.seq (.region [] [oq 2 (.allocO 0 lA0 [.int 0, .int 0, .str [], .nils])] false 1)
 (.seq (.region [] [oq 3 (.mov (.t 0)),
 oq 4 (.bld lA0 [.int 0, .int 0, .str [], .nils] [(0, 1, (.c lI [.int 2])), (1, 1, (.t 3))]),
 ⟨none, .st lA0 (.t 2) (.t 4), none, []⟩] false 0)
 .ret)) }
/-- clapperbridge/claplaw3.num -/
noncomputable def claplaw3_num (E : Env) (p0 : Int) : Option (List Row) :=
 some [[.int 2, .int p0, .str [], .nils]]
def claplaw3_rec_a : AFun := { ps := [lI, lI], rs := [lA0], res := [(true, 4, none)], body := (.seq (.region [] [oq 4 (.allocO 0 lA0 [.int 0, .int 0, .str [], .nils])] false 1)
 (.seq (.region [] [oq 5 (.mov (.t 0)),
 oq 6 (.call 13 [lI] [lA0] [(.t 5)]),
 oq 7 (.bld lA1 [.str [], .int 0, .int 0, .str [], .nils] [(0, 1, (.c lS [.str ([97] : List UInt8)])), (1, 4, (.t 6))]),
 oq 8 (.mov (.t 1)),
 oq 9 (.call 13 [lI] [lA0] [(.t 8)]),
 oq 10 (.bld lA1 [.str [], .int 0, .int 0, .str [], .nils] [(0, 1, (.c lS [.str ([98] : List UInt8)])), (1, 4, (.t 9))]),
 oq 11 (.bsl 34 lA1 2 [.str [], .int 0, .int 0, .str [], .nils] [(0, (.t 7)), (1, (.t 10))]),
 oq 12 (.bld lA0 [.int 0, .int 0, .str [], .nils] [(0, 1, (.c lI [.int 6])), (3, 1, (.t 11))]),
 ⟨none, .st lA0 (.t 4) (.t 12), none, []⟩] false 0)
 .ret)) }
/-- clapperbridge/claplaw3.rec -/
noncomputable def claplaw3_rec (E : Env) (p0 : Int) (p1 : Int) : Option (List Row) :=
 (E.pc n_claplaw3_num [[.int p0]]).bind fun y1 =>
 (E.pc n_claplaw3_num [[.int p1]]).bind fun y2 =>
 some [[.int 6, .int 0, .str [], .sl ([[.str ([97] : List UInt8), at_ (rowsAt y1 0) 0, at_ (rowsAt y1 0) 1, at_ (rowsAt y1 0) 2, at_ (rowsAt y1 0) 3], [.str ([98] : List UInt8), at_ (rowsAt y2 0) 0, at_ (rowsAt y2 0) 1, at_ (rowsAt y2 0) 2, at_ (rowsAt y2 0) 3]] : List Row)]]
def value_order_a : AFun := { ps := [lI], rs := [lI], res := [(false, 2, none)], body := (.seq (.region [] [oq 2 (.mov (.c lI [.int 0]))] false 0)
 (.seq (.seq (.region [] [oq 3 (.mov (.t 0)),
 oq 4 (.icmp .lss (.t 3) (.c lI [.int 0]))] false 0)
 (.cond (.t 4) (.seq (.region [] [oq 5 (.mov (.t 0)),
 oq 6 (.ibin .and (.t 5) (.c lI [.int 9223372036854775807])),
 oq 7 (.ibin .sub (.c lI [.int (-1)]) (.t 6)),
 oq 2 (.mov (.t 7))] false 0)
 .ret)
 .skip))
 (.seq (.region [] [oq 8 (.mov (.t 0)),
 oq 2 (.mov (.t 8))] false 0)
 .ret))) }
/-- clapperbridge/value.order -/
noncomputable def value_order (E : Env) (p0 : Int) : Option (List Row) :=
 if (decide (p0 < 0)) = true then
 some [[.int (Go.IntKind.i64.wrap ((-1) - (bitsOf .and .i64 p0 9223372036854775807)))]]
 else
 some [[.int p0]]
theorem value_order_eq (E : Env) (p0 : Int) : runP E value_order_a [[.int p0]] = value_order E p0 := by kernel_rfl

def cmp_Or_int_h0 : Shape := { slots := [(3, .d lI), (6, .d (.one (.sl 3))), (7, .d lI), (8, .d lI)], objs := [] }
def cmp_Or_int_o0 : List (Exit' × Shape) := [(.exit 0, { slots := [(3, .d lI)], objs := [] }), (.ret, { slots := [(2, .d lI)], objs := [] })]
def cmp_Or_int_c0 : ACode := (.seq (.region [] [oq 9 (.icmp .lss (.t 8) (.t 7))] false 0)
 (.seq (.cond (.t 9) .skip
 (.exit 0))
 (.seq (.block 1 (.seq (.region [] [oq 10 (.iad 3 lI (.t 6) (.t 8)),
 oq 11 (.ld lI 3 (.t 10)),
 oq 5 (.mov (.t 11))] false 0)
 (.seq (.region [] [oq 12 (.mov (.t 5)),
 oq 13 (.mov (.t 3)),
 oq 14 (.icmp .neq (.t 12) (.t 13))] false 0)
 (.cond (.t 14) (.seq (.region [] [oq 15 (.mov (.t 5)),
 oq 2 (.mov (.t 15))] false 0)
 .ret)
 .skip))))
 (.region [] [oq 16 (.ibin .add (.t 8) (.c lI [.int 1])),
 oq 8 (.mov (.t 16))] false 0))))
noncomputable def cmp_Or_int_l0 (E : Env) (v0 : Int) (v1 : C) (v2 : Int) (v3 : Int) : Option (Nat × List PV) := E.fix (stepOf E cmp_Or_int_c0 cmp_Or_int_h0 cmp_Or_int_o0) [.r [.int v0], .r [v1], .r [.int v2], .r [.int v3]]
noncomputable def cmp_Or_int_b0 (E : Env) (X : Int → C → Int → Int → Option (Nat × List PV)) (v0 : Int) (v1 : C) (v2 : Int) (v3 : Int) : Option (Nat × List PV) :=
 if (decide (v3 < v2)) = true then
 if (0 : Int) ≤ v3 ∧ v3 < (v1.rows.length : Int) then
 if (((at_ (rowsAt v1.rows v3.toNat) 0).toI) != v0) = true then
 some (1, [.r [.int ((at_ (rowsAt v1.rows v3.toNat) 0).toI)]])
 else
 X v0 v1 v2 (Go.IntKind.i64.wrap (v3 + 1))
 else none
 else
 some (0, [.r [.int v0]])
theorem cmp_Or_int_s0 (E : Env) (X : List PV → Option (Nat × List PV)) (v0 : Int) (v1 : C) (v2 : Int) (v3 : Int) : stepOf E cmp_Or_int_c0 cmp_Or_int_h0 cmp_Or_int_o0 X [.r [.int v0], .r [v1], .r [.int v2], .r [.int v3]] = cmp_Or_int_b0 E (fun (v0 : Int) (v1 : C) (v2 : Int) (v3 : Int) => X [.r [.int v0], .r [v1], .r [.int v2], .r [.int v3]]) v0 v1 v2 v3 := by kernel_rfl
def cmp_Or_int_a : AFun := { ps := [(.one (.sl 3))], rs := [lI], res := [(false, 2, none)], body := (.seq (.region [] [oq 2 (.mov (.c lI [.int 0]))] false 0)
 (.seq (.region [] [oq 3 (.mov (.c lI [.int 0]))] false 0)
 (.seq (.seq (.region [] [oq 6 (.mov (.t 0)),
 oq 7 (.lenL (.t 6)),
 oq 8 (.mov (.c lI [.int 0]))] false 0)
 (.block 0 (.loop cmp_Or_int_h0 cmp_Or_int_o0 cmp_Or_int_c0)))
 (.seq (.region [] [oq 17 (.mov (.t 3)),
 oq 2 (.mov (.t 17))] false 0)
 .ret)))) }
/-- cmp.Or[int] -/
noncomputable def cmp_Or_int (E : Env) (p0 : C) : Option (List Row) :=
 (cmp_Or_int_l0 E 0 p0 (p0.rows.length : Int) 0).bind fun x1 =>
 match x1.1 with
 | 0 =>
 some [[.int (gI 0 x1.2)]]
 | i2 + 1 =>
 some [[.int (gI 0 x1.2)]]
theorem cmp_Or_int_eq (E : Env) (p0 : C) : runP E cmp_Or_int_a [[p0]] = cmp_Or_int E p0 := by kernel_rfl

def cmp_isNaN_int_a : AFun := { ps := [lI], rs := [lB], res := [(false, 2, none)], body := (.seq (.region [] [oq 2 (.mov (.c lB [.bool false]))] false 0)
 (.seq (.region [] [oq 3 (.mov (.t 0)),
 oq 4 (.mov (.t 0)),
 oq 5 (.icmp .neq (.t 3) (.t 4)),
 oq 2 (.mov (.t 5))] false 0)
 .ret)) }
/-- cmp.isNaN[int] -/
noncomputable def cmp_isNaN_int (E : Env) (p0 : Int) : Option (List Row) :=
 some [[.bool (p0 != p0)]]
theorem cmp_isNaN_int_eq (E : Env) (p0 : Int) : runP E cmp_isNaN_int_a [[.int p0]] = cmp_isNaN_int E p0 := by kernel_rfl

def cmp_Compare_int_a : AFun := { ps := [lI, lI], rs := [lI], res := [(false, 4, none)], body := (.seq (.region [] [oq 4 (.mov (.c lI [.int 0]))] false 0)
 (.seq (.region [] [oq 7 (.mov (.t 0)),
 oq 8 (.call 40 [lI] [lB] [(.t 7)]),
 oq 5 (.mov (.t 8))] false 0)
 (.seq (.region [] [oq 9 (.mov (.t 1)),
 oq 10 (.call 40 [lI] [lB] [(.t 9)]),
 oq 6 (.mov (.t 10))] false 0)
 (.seq (.seq (.region [] [oq 11 (.mov (.t 5))] false 0)
 (.cond (.t 11) (.seq (.seq (.region [] [oq 12 (.mov (.t 6))] false 0)
 (.cond (.t 12) (.seq (.region [] [oq 4 (.mov (.c lI [.int 0]))] false 0)
 .ret)
 .skip))
 (.seq (.region [] [oq 4 (.mov (.c lI [.int (-1)]))] false 0)
 .ret))
 .skip))
 (.seq (.seq (.region [] [oq 13 (.mov (.t 6))] false 0)
 (.cond (.t 13) (.seq (.region [] [oq 4 (.mov (.c lI [.int 1]))] false 0)
 .ret)
 .skip))
 (.seq (.seq (.region [] [oq 14 (.mov (.t 0)),
 oq 15 (.mov (.t 1)),
 oq 16 (.icmp .lss (.t 14) (.t 15))] false 0)
 (.cond (.t 16) (.seq (.region [] [oq 4 (.mov (.c lI [.int (-1)]))] false 0)
 .ret)
 .skip))
 (.seq (.seq (.region [] [oq 17 (.mov (.t 0)),
 oq 18 (.mov (.t 1)),
 oq 19 (.icmp .gtr (.t 17) (.t 18))] false 0)
 (.cond (.t 19) (.seq (.region [] [oq 4 (.mov (.c lI [.int 1]))] false 0)
 .ret)
 .skip))
 (.seq (.region [] [oq 4 (.mov (.c lI [.int 0]))] false 0)
 .ret)))))))) }
/-- cmp.Compare[int] -/
noncomputable def cmp_Compare_int (E : Env) (p0 : Int) (p1 : Int) : Option (List Row) :=
 (E.pc n_cmp_isNaN_int [[.int p0]]).bind fun y1 =>
 (E.pc n_cmp_isNaN_int [[.int p1]]).bind fun y2 =>
 if ((at_ (rowsAt y1 0) 0).toB) = true then
 if ((at_ (rowsAt y2 0) 0).toB) = true then
 some [[.int 0]]
 else
 some [[.int (-1)]]
 else
 if ((at_ (rowsAt y2 0) 0).toB) = true then
 some [[.int 1]]
 else
 if (decide (p0 < p1)) = true then
 some [[.int (-1)]]
 else
 if (decide (p0 > p1)) = true then
 some [[.int 1]]
 else
 some [[.int 0]]
theorem cmp_Compare_int_eq (E : Env) (p0 : Int) (p1 : Int) : runP E cmp_Compare_int_a [[.int p0], [.int p1]] = cmp_Compare_int E p0 p1 := by kernel_rfl

def internal_bytealg_CompareString_a : AFun := { ps := [lS, lS], rs := [lI], res := [(false, 4, none)], body := (.seq (.region [] [oq 4 (.mov (.c lI [.int 0]))] false 0)
 (.seq (.region [] [oq 5 (.mov (.t 0)),
 oq 6 (.mov (.t 1)),
 oq 7 (.cmpS 69 (.t 5) (.t 6)),
 oq 4 (.mov (.t 7))] false 0)
 .ret)) }
/-- internal/bytealg.CompareString -/
noncomputable def internal_bytealg_CompareString (E : Env) (p0 : List UInt8) (p1 : List UInt8) : Option (List Row) :=
 some [[.int (cmpBytes p0 p1)]]
theorem internal_bytealg_CompareString_eq (E : Env) (p0 : List UInt8) (p1 : List UInt8) : runP E internal_bytealg_CompareString_a [[.str p0], [.str p1]] = internal_bytealg_CompareString E p0 p1 := by kernel_rfl

def strings_Compare_a : AFun := { ps := [lS, lS], rs := [lI], res := [(false, 4, none)], body := (.seq (.region [] [oq 4 (.mov (.c lI [.int 0]))] false 0)
 (.seq (.region [] [oq 5 (.mov (.t 0)),
 oq 6 (.mov (.t 1)),
 oq 7 (.call 41 [lS, lS] [lI] [(.t 5), (.t 6)]),
 oq 4 (.mov (.t 7))] false 0)
 .ret)) }
/-- strings.Compare -/
noncomputable def strings_Compare (E : Env) (p0 : List UInt8) (p1 : List UInt8) : Option (List Row) :=
 (E.pc n_internal_bytealg_CompareString [[.str p0], [.str p1]]).bind fun y1 =>
 some [[.int ((at_ (rowsAt y1 0) 0).toI)]]
theorem strings_Compare_eq (E : Env) (p0 : List UInt8) (p1 : List UInt8) : runP E strings_Compare_a [[.str p0], [.str p1]] = strings_Compare E p0 p1 := by kernel_rfl

def slices_CompareFunc_api_Field_h0 : Shape := { slots := [(0, .d (.one (.sl 34))), (1, .d (.one (.sl 34))), (2, .d (.one (.fn 68))), (11, .d (.one (.sl 34))), (12, .d lI), (13, .d lI)], objs := [] }
def slices_CompareFunc_api_Field_o0 : List (Exit' × Shape) := [(.exit 0, { slots := [(0, .d (.one (.sl 34))), (1, .d (.one (.sl 34)))], objs := [] }), (.ret, { slots := [(6, .d lI)], objs := [] })]
def slices_CompareFunc_api_Field_c0 : ACode := (.seq (.region [] [oq 14 (.icmp .lss (.t 13) (.t 12))] false 0)
 (.seq (.cond (.t 14) .skip
 (.exit 0))
 (.seq (.block 1 (.seq (.region [] [oq 15 (.mov (.t 13)),
 oq 16 (.iad 34 lA1 (.t 11) (.t 13)),
 oq 17 (.ld lA1 34 (.t 16)),
 oq 8 (.allocO 0 lA1 [.str [], .int 0, .int 0, .str [], .nils]),
 oq 7 (.mov (.t 15)),
 ⟨none, .st lA1 (.t 8) (.t 17), none, []⟩] false 1)
 (.seq (.seq (.region [] [oq 18 (.mov (.t 7)),
 oq 19 (.mov (.t 1)),
 oq 20 (.lenL (.t 19)),
 oq 21 (.icmp .geq (.t 18) (.t 20))] false 0)
 (.cond (.t 21) (.seq (.region [] [oq 6 (.mov (.c lI [.int 1]))] false 0)
 .ret)
 .skip))
 (.seq (.region [] [oq 22 (.mov (.t 1)),
 oq 23 (.mov (.t 7)),
 oq 24 (.iad 34 lA1 (.t 22) (.t 23)),
 oq 25 (.ld lA1 34 (.t 24)),
 oq 9 (.allocO 0 lA1 [.str [], .int 0, .int 0, .str [], .nils]),
 ⟨none, .st lA1 (.t 9) (.t 25), none, []⟩] false 1)
 (.seq (.region [] [oq 26 (.mov (.t 2)),
 oq 27 (.ld lA1 34 (.t 8)),
 oq 28 (.ld lA1 34 (.t 9)),
 oq 29 (.callv 68 [lA1, lA1] [lI] (.t 26) [(.t 27), (.t 28)]),
 oq 10 (.mov (.t 29))] false 0)
 (.seq (.region [] [oq 30 (.mov (.t 10)),
 oq 31 (.icmp .neq (.t 30) (.c lI [.int 0]))] false 0)
 (.cond (.t 31) (.seq (.region [] [oq 32 (.mov (.t 10)),
 oq 6 (.mov (.t 32))] false 0)
 .ret)
 .skip)))))))
 (.region [] [oq 33 (.ibin .add (.t 13) (.c lI [.int 1])),
 oq 13 (.mov (.t 33))] false 0))))
noncomputable def slices_CompareFunc_api_Field_l0 (E : Env) (v0 : C) (v1 : C) (v2 : C) (v3 : C) (v4 : Int) (v5 : Int) : Option (Nat × List PV) := E.fix (stepOf E slices_CompareFunc_api_Field_c0 slices_CompareFunc_api_Field_h0 slices_CompareFunc_api_Field_o0) [.r [v0], .r [v1], .r [v2], .r [v3], .r [.int v4], .r [.int v5]]
noncomputable def slices_CompareFunc_api_Field_b0 (E : Env) (X : C → C → C → C → Int → Int → Option (Nat × List PV)) (v0 : C) (v1 : C) (v2 : C) (v3 : C) (v4 : Int) (v5 : Int) : Option (Nat × List PV) :=
 if (decide (v5 < v4)) = true then
 if (0 : Int) ≤ v5 ∧ v5 < (v3.rows.length : Int) then
 if (decide (v5 ≥ (v1.rows.length : Int))) = true then
 some (1, [.r [.int 1]])
 else
 if (0 : Int) ≤ v5 ∧ v5 < (v1.rows.length : Int) then
 (callC E v2 [rowsAt v3.rows v5.toNat, rowsAt v1.rows v5.toNat]).bind fun y1 =>
 if (((at_ (rowsAt y1 0) 0).toI) != 0) = true then
 some (1, [.r [.int ((at_ (rowsAt y1 0) 0).toI)]])
 else
 X v0 v1 v2 v3 v4 (Go.IntKind.i64.wrap (v5 + 1))
 else none
 else none
 else
 some (0, [.r [v0], .r [v1]])
theorem slices_CompareFunc_api_Field_s0 (E : Env) (X : List PV → Option (Nat × List PV)) (v0 : C) (v1 : C) (v2 : C) (v3 : C) (v4 : Int) (v5 : Int) : stepOf E slices_CompareFunc_api_Field_c0 slices_CompareFunc_api_Field_h0 slices_CompareFunc_api_Field_o0 X [.r [v0], .r [v1], .r [v2], .r [v3], .r [.int v4], .r [.int v5]] = slices_CompareFunc_api_Field_b0 E (fun (v0 : C) (v1 : C) (v2 : C) (v3 : C) (v4 : Int) (v5 : Int) => X [.r [v0], .r [v1], .r [v2], .r [v3], .r [.int v4], .r [.int v5]]) v0 v1 v2 v3 v4 v5 := by kernel_rfl
def slices_CompareFunc_api_Field_a : AFun := { ps := [(.one (.sl 34)), (.one (.sl 34)), (.one (.fn 68))], rs := [lI], res := [(false, 6, none)], body := (.seq (.region [] [oq 6 (.mov (.c lI [.int 0]))] false 0)
 (.seq (.seq (.region [] [oq 11 (.mov (.t 0)),
 oq 12 (.lenL (.t 11)),
 oq 13 (.mov (.c lI [.int 0]))] false 0)
 (.block 0 (.loop slices_CompareFunc_api_Field_h0 slices_CompareFunc_api_Field_o0 slices_CompareFunc_api_Field_c0)))
 (.seq (.seq (.region [] [oq 34 (.mov (.t 0)),
 oq 35 (.lenL (.t 34)),
 oq 36 (.mov (.t 1)),
 oq 37 (.lenL (.t 36)),
 oq 38 (.icmp .lss (.t 35) (.t 37))] false 0)
 (.cond (.t 38) (.seq (.region [] [oq 6 (.mov (.c lI [.int (-1)]))] false 0)
 .ret)
 .skip))
 (.seq (.region [] [oq 6 (.mov (.c lI [.int 0]))] false 0)
 .ret)))) }
/-- slices.CompareFunc[[]clapperbridge/api.Field,[]clapperbridge/api.Field,clapperbridge/api.Field,clapperbridge/api.Field] -/
noncomputable def slices_CompareFunc_api_Field (E : Env) (p0 : C) (p1 : C) (p2 : C) : Option (List Row) :=
 (slices_CompareFunc_api_Field_l0 E p0 p1 p2 p0 (p0.rows.length : Int) 0).bind fun x2 =>
 match x2.1 with
 | 0 =>
 if (decide ((((gC 0 x2.2).rows).length : Int) < (((gC 1 x2.2).rows).length : Int))) = true then
 some [[.int (-1)]]
 else
 some [[.int 0]]
 | i3 + 1 =>
 some [[.int (gI 0 x2.2)]]
theorem slices_CompareFunc_api_Field_eq (E : Env) (p0 : C) (p1 : C) (p2 : C) : runP E slices_CompareFunc_api_Field_a [[p0], [p1], [p2]] = slices_CompareFunc_api_Field E p0 p1 p2 := by kernel_rfl

def value_Cmp_1_a : AFun := { ps := [lA1, lA1], rs := [lI], res := [(false, 4, none)], body := (.seq (.region [] [oq 2 (.boxP lA1 34 (.t 0)),
 oq 3 (.boxP lA1 34 (.t 1)),
 oq 4 (.mov (.c lI [.int 0]))] false 0)
 (.seq (.region [] [oq 5 (.fad 0 1 34 9 (.t 2)),
 ⟨some 6, .ld lS 9 (.t 5), none, [0]⟩,
 oq 7 (.fad 0 1 34 9 (.t 3)),
 ⟨some 8, .ld lS 9 (.t 7), none, [2]⟩,
 ⟨some 9, .call 27 [lS, lS] [lI] [(.t 6), (.t 8)], none, [0, 1, 2, 3]⟩,
 oq 10 (.fad 1 4 34 25 (.t 2)),
 ⟨some 11, .ld lA0 25 (.t 10), none, [5]⟩,
 oq 12 (.fad 1 4 34 25 (.t 3)),
 ⟨some 13, .ld lA0 25 (.t 12), none, [7]⟩,
 ⟨some 14, .call 17 [lA0, lA0] [lI] [(.t 11), (.t 13)], none, [0, 1, 2, 3, 4, 5, 6, 7, 8]⟩,
 ⟨some 15, .bsl 3 lI 2 [.int 0] [(0, (.t 9)), (1, (.t 14))], none, [0, 1, 2, 3, 4, 5, 6, 7, 8, 9]⟩,
 ⟨some 16, .call 25 [(.one (.sl 3))] [lI] [(.t 15)], none, [0, 1, 2, 3, 4, 5, 6, 7, 8, 9, 10]⟩,
 ⟨some 4, .mov (.t 16), none, [0, 1, 2, 3, 4, 5, 6, 7, 8, 9, 10, 11]⟩] true 0)
 .ret)) }
/-- clapperbridge/value.Cmp$1 -/
noncomputable def value_Cmp_1 (E : Env) (p0 : Row) (p1 : Row) : Option (List Row) :=
 (E.pc n_strings_Compare [[.str ((at_ p0 0).toS)], [.str ((at_ p1 0).toS)]]).bind fun y1 =>
 (E.pc n_value_Cmp [[at_ p0 1, at_ p0 2, at_ p0 3, at_ p0 4], [at_ p1 1, at_ p1 2, at_ p1 3, at_ p1 4]]).bind fun y2 =>
 (E.pc n_cmp_Or_int [[.sl ([[.int ((at_ (rowsAt y1 0) 0).toI)], [.int ((at_ (rowsAt y2 0) 0).toI)]] : List Row)]]).bind fun y3 =>
 some [[.int ((at_ (rowsAt y3 0) 0).toI)]]
theorem value_Cmp_1_eq (E : Env) (p0 : Row) (p1 : Row) : runP E value_Cmp_1_a [p0, p1] = value_Cmp_1 E p0 p1 := by kernel_rfl

def value_Cmp_a : AFun := { ps := [lA0, lA0], rs := [lI], res := [(false, 4, none)], body := (.seq (.region [] [oq 2 (.boxP lA0 25 (.t 0)),
 oq 3 (.boxP lA0 25 (.t 1)),
 oq 4 (.mov (.c lI [.int 0]))] false 0)
 (.seq (.region [] [oq 8 (.fad 1 1 25 3 (.t 2)),
 ⟨some 9, .ld lI 3 (.t 8), none, [0]⟩,
 oq 10 (.fad 1 1 25 3 (.t 3)),
 ⟨some 11, .ld lI 3 (.t 10), none, [2]⟩,
 ⟨some 5, .mov (.t 9), none, [0, 1]⟩,
 ⟨some 6, .mov (.t 11), none, [0, 1, 2, 3, 4]⟩] true 0)
 (.seq (.seq (.region [] [oq 12 (.fad 0 1 25 3 (.t 2)),
 oq 13 (.ld lI 3 (.t 12)),
 oq 14 (.icmp .eql (.t 13) (.c lI [.int 3]))] false 0)
 (.join [(.normal, { slots := [(2, .d (.one (.ref 25))), (3, .d (.one (.ref 25))), (5, .d lI), (6, .d lI)], objs := [] })] (.cond (.t 14) (.region [] [oq 15 (.mov (.t 5)),
 oq 16 (.call 24 [lI] [lI] [(.t 15)]),
 oq 17 (.mov (.t 6)),
 oq 18 (.call 24 [lI] [lI] [(.t 17)]),
 oq 5 (.mov (.t 16)),
 oq 6 (.mov (.t 18))] false 0)
 .skip)))
 (.seq (.region [] [oq 19 (.fad 0 1 25 3 (.t 2)),
 ⟨some 20, .ld lI 3 (.t 19), none, [0]⟩,
 oq 21 (.fad 0 1 25 3 (.t 3)),
 ⟨some 22, .ld lI 3 (.t 21), none, [2]⟩,
 ⟨some 23, .call 26 [lI, lI] [lI] [(.t 20), (.t 22)], none, [0, 1, 2, 3]⟩,
 oq 24 (.mov (.t 5)),
 oq 25 (.mov (.t 6)),
 ⟨some 26, .call 26 [lI, lI] [lI] [(.t 24), (.t 25)], none, [0, 1, 2, 3, 4, 5, 6]⟩,
 oq 27 (.fad 2 1 25 9 (.t 2)),
 ⟨some 28, .ld lS 9 (.t 27), none, [8]⟩,
 oq 29 (.fad 2 1 25 9 (.t 3)),
 ⟨some 30, .ld lS 9 (.t 29), none, [10]⟩,
 ⟨some 31, .call 27 [lS, lS] [lI] [(.t 28), (.t 30)], none, [0, 1, 2, 3, 4, 5, 6, 7, 8, 9, 10, 11]⟩,
 ⟨some 32, .bsl 3 lI 3 [.int 0] [(0, (.t 23)), (1, (.t 26)), (2, (.t 31))], none, [0, 1, 2, 3, 4, 5, 6, 7, 8, 9, 10, 11, 12]⟩,
 ⟨some 33, .call 25 [(.one (.sl 3))] [lI] [(.t 32)], none, [0, 1, 2, 3, 4, 5, 6, 7, 8, 9, 10, 11, 12, 13]⟩,
 ⟨some 7, .mov (.t 33), none, [0, 1, 2, 3, 4, 5, 6, 7, 8, 9, 10, 11, 12, 13, 14]⟩] true 0)
 (.seq (.seq (.region [] [oq 34 (.mov (.t 7)),
 oq 35 (.icmp .neq (.t 34) (.c lI [.int 0]))] false 0)
 (.cond (.t 35) (.seq (.region [] [oq 36 (.mov (.t 7)),
 oq 4 (.mov (.t 36))] false 0)
 .ret)
 .skip))
 (.seq (.region [] [oq 37 (.fad 3 1 25 23 (.t 2)),
 oq 38 (.ld (.one (.sl 34)) 23 (.t 37)),
 oq 39 (.fad 3 1 25 23 (.t 3)),
 oq 40 (.ld (.one (.sl 34)) 23 (.t 39)),
 oq 41 (.call 28 [(.one (.sl 34)), (.one (.sl 34)), (.one (.fn 68))] [lI] [(.t 38), (.t 40), (.c (.one (.fn 68)) [.fn n_value_Cmp_1 []])]),
 oq 4 (.mov (.t 41))] false 0)
 .ret)))))) }
/-- clapperbridge/value.Cmp -/
noncomputable def value_Cmp (E : Env) (p0 : Row) (p1 : Row) : Option (List Row) :=
 (if (((at_ p0 0).toI) == 3) = true then
 (E.pc n_value_order [[.int ((at_ p0 1).toI)]]).bind fun y1 =>
 (E.pc n_value_order [[.int ((at_ p1 1).toI)]]).bind fun y2 =>
 some (0, [.r [.dp p0], .r [.dp p1], .r [.int ((at_ (rowsAt y1 0) 0).toI)], .r [.int ((at_ (rowsAt y2 0) 0).toI)]])
 else
 some (0, [.r [.dp p0], .r [.dp p1], .r [.int ((at_ p0 1).toI)], .r [.int ((at_ p1 1).toI)]])).bind fun x3 =>
 if (gC 0 x3.2).isDp = true then
 if (gC 1 x3.2).isDp = true then
 (E.pc n_cmp_Compare_int [[.int ((at_ ((gC 0 x3.2).dpRow) 0).toI)], [.int ((at_ ((gC 1 x3.2).dpRow) 0).toI)]]).bind fun y4 =>
 (E.pc n_cmp_Compare_int [[.int (gI 2 x3.2)], [.int (gI 3 x3.2)]]).bind fun y5 =>
 if (gC 0 x3.2).isDp = true then
 if (gC 1 x3.2).isDp = true then
 (E.pc n_strings_Compare [[.str ((at_ ((gC 0 x3.2).dpRow) 2).toS)], [.str ((at_ ((gC 1 x3.2).dpRow) 2).toS)]]).bind fun y6 =>
 (E.pc n_cmp_Or_int [[.sl ([[.int ((at_ (rowsAt y4 0) 0).toI)], [.int ((at_ (rowsAt y5 0) 0).toI)], [.int ((at_ (rowsAt y6 0) 0).toI)]] : List Row)]]).bind fun y7 =>
 if (((at_ (rowsAt y7 0) 0).toI) != 0) = true then
 some [[.int ((at_ (rowsAt y7 0) 0).toI)]]
 else
 if (gC 0 x3.2).isDp = true then
 if (gC 1 x3.2).isDp = true then
 (E.pc n_slices_CompareFunc_api_Field [[at_ ((gC 0 x3.2).dpRow) 3], [at_ ((gC 1 x3.2).dpRow) 3], [.fn n_value_Cmp_1 []]]).bind fun y8 =>
 some [[.int ((at_ (rowsAt y8 0) 0).toI)]]
 else none
 else none
 else none
 else none
 else none
 else none
theorem value_Cmp_eq (E : Env) (p0 : Row) (p1 : Row) : runP E value_Cmp_a [p0, p1] = value_Cmp E p0 p1 := by kernel_rfl

def value_Same_a : AFun := { ps := [lA0, lA0], rs := [lB], res := [(false, 4, none)], body := (.seq (.region [] [oq 2 (.boxP lA0 25 (.t 0)),
 oq 3 (.boxP lA0 25 (.t 1)),
 oq 4 (.mov (.c lB [.bool false]))] false 0)
 (.seq (.region [] [oq 5 (.ld lA0 25 (.t 2)),
 oq 6 (.ld lA0 25 (.t 3)),
 oq 7 (.call 17 [lA0, lA0] [lI] [(.t 5), (.t 6)]),
 oq 8 (.icmp .eql (.t 7) (.c lI [.int 0])),
 oq 4 (.mov (.t 8))] false 0)
 .ret)) }
/-- clapperbridge/value.Same -/
noncomputable def value_Same (E : Env) (p0 : Row) (p1 : Row) : Option (List Row) :=
 (E.pc n_value_Cmp [p0, p1]).bind fun y1 =>
 some [[.bool (((at_ (rowsAt y1 0) 0).toI) == 0)]]
theorem value_Same_eq (E : Env) (p0 : Row) (p1 : Row) : runP E value_Same_a [p0, p1] = value_Same E p0 p1 := by kernel_rfl

def value_Name_h0 : Shape := { slots := [(23, .d (.one (.sl 5))), (24, .d lI), (25, .d lI)], objs := [] }
def value_Name_o0 : List (Exit' × Shape) := [(.exit 0, { slots := [], objs := [] }), (.ret, { slots := [(2, .d lB)], objs := [] })]
def value_Name_c0 : ACode := (.seq (.region [] [oq 26 (.icmp .lss (.t 25) (.t 24))] false 0)
 (.seq (.cond (.t 26) .skip
 (.exit 0))
 (.seq (.join [(.normal, { slots := [(23, .d (.one (.sl 5))), (24, .d lI), (25, .d lI)], objs := [] }), (.ret, { slots := [(2, .d lB)], objs := [] })] (.block 1 (.seq (.region [] [oq 27 (.iad 5 lU (.t 23) (.t 25)),
 oq 28 (.ld lU 5 (.t 27)),
 oq 4 (.mov (.t 28))] false 0)
 (.seq (.region [] [oq 29 (.mov (.t 4)),
 oq 30 (.icmp .geq (.t 29) (.c lU [.int 97])),
 oq 31 (.mov (.t 30)),
 ⟨some 32, .mov (.t 4), some (31, true), []⟩,
 ⟨some 33, .icmp .leq (.t 32) (.c lU [.int 122]), some (31, true), []⟩,
 oq 34 (.pick (.t 31) (.t 33) (.c lB [.bool false])),
 oq 35 (.mov (.t 34)),
 ⟨some 36, .mov (.t 4), some (35, false), []⟩,
 ⟨some 37, .icmp .geq (.t 36) (.c lU [.int 48]), some (35, false), []⟩,
 ⟨some 38, .mov (.t 37), some (35, false), []⟩,
 ⟨some 39, .mov (.t 4), some (38, true), []⟩,
 ⟨some 40, .icmp .leq (.t 39) (.c lU [.int 57]), some (38, true), []⟩,
 ⟨some 41, .pick (.t 38) (.t 40) (.c lB [.bool false]), some (35, false), []⟩,
 oq 42 (.pick (.t 35) (.c lB [.bool true]) (.t 41)),
 oq 43 (.mov (.t 42)),
 ⟨some 44, .mov (.t 4), some (43, false), []⟩,
 ⟨some 45, .icmp .eql (.t 44) (.c lU [.int 45]), some (43, false), []⟩,
 oq 46 (.pick (.t 43) (.c lB [.bool true]) (.t 45)),
 oq 47 (.not (.t 46))] false 0)
 (.cond (.t 47) (.seq (.region [] [oq 2 (.mov (.c lB [.bool false]))] false 0)
 .ret)
 .skip)))))
 (.region [] [oq 48 (.ibin .add (.t 25) (.c lI [.int 1])),
 oq 25 (.mov (.t 48))] false 0))))
def value_Name_a : AFun := { ps := [lS], rs := [lB], res := [(false, 2, none)], body := (.seq (.region [] [oq 2 (.mov (.c lB [.bool false]))] false 0)
 (.seq (.seq (.join [(.normal, { slots := [(0, .d lS), (21, .d lB)], objs := [] })] (.region [] [oq 5 (.mov (.t 0)),
 oq 6 (.scmp .eql (.t 5) (.c lS [.str ([] : List UInt8)])),
 oq 7 (.mov (.t 6)),
 ⟨some 8, .mov (.t 0), some (7, false), []⟩,
 ⟨some 9, .lenS (.t 8), some (7, false), []⟩,
 ⟨some 10, .icmp .gtr (.t 9) (.c lI [.int 16]), some (7, false), []⟩,
 oq 11 (.pick (.t 7) (.c lB [.bool true]) (.t 10)),
 oq 12 (.mov (.t 11)),
 ⟨some 13, .mov (.t 0), some (12, false), []⟩,
 ⟨some 14, .idxS (.t 13) (.c lI [.int 0]), some (12, false), []⟩,
 ⟨some 15, .icmp .lss (.t 14) (.c lU [.int 97]), some (12, false), []⟩,
 oq 16 (.pick (.t 12) (.c lB [.bool true]) (.t 15)),
 oq 17 (.mov (.t 16)),
 ⟨some 18, .mov (.t 0), some (17, false), []⟩,
 ⟨some 19, .idxS (.t 18) (.c lI [.int 0]), some (17, false), []⟩,
 ⟨some 20, .icmp .gtr (.t 19) (.c lU [.int 122]), some (17, false), []⟩,
 oq 21 (.pick (.t 17) (.c lB [.bool true]) (.t 20))] false 0))
 (.cond (.t 21) (.seq (.region [] [oq 2 (.mov (.c lB [.bool false]))] false 0)
 .ret)
 .skip))
 (.seq (.seq (.region [] [oq 22 (.mov (.t 0)),
 oq 23 (.s2b 5 (.t 22)),
 oq 24 (.lenL (.t 23)),
 oq 25 (.mov (.c lI [.int 0]))] false 0)
 (.block 0 (.loop value_Name_h0 value_Name_o0 value_Name_c0)))
 (.seq (.region [] [oq 2 (.mov (.c lB [.bool true]))] false 0)
 .ret)))) }

def slices_IndexFunc_api_Def_h0 : Shape := { slots := [(0, .d (.one (.sl 83))), (1, .d (.one (.fn 102))), (7, .d lI), (8, .d lI)], objs := [] }
def slices_IndexFunc_api_Def_o0 : List (Exit' × Shape) := [(.exit 0, { slots := [], objs := [] }), (.ret, { slots := [(4, .d lI)], objs := [] })]
def slices_IndexFunc_api_Def_c0 : ACode := (.seq (.region [] [oq 9 (.icmp .lss (.t 8) (.t 7))] false 0)
 (.seq (.cond (.t 9) .skip
 (.exit 0))
 (.seq (.block 1 (.seq (.region [] [oq 10 (.mov (.t 8)),
 oq 5 (.mov (.t 10))] false 0)
 (.seq (.region [] [oq 11 (.mov (.t 1)),
 oq 12 (.mov (.t 0)),
 oq 13 (.mov (.t 5)),
 oq 14 (.iad 83 lA2 (.t 12) (.t 13)),
 oq 15 (.ld lA2 83 (.t 14)),
 oq 16 (.callv 102 [lA2] [lB] (.t 11) [(.t 15)])] false 0)
 (.cond (.t 16) (.seq (.region [] [oq 17 (.mov (.t 5)),
 oq 4 (.mov (.t 17))] false 0)
 .ret)
 .skip))))
 (.region [] [oq 18 (.ibin .add (.t 8) (.c lI [.int 1])),
 oq 8 (.mov (.t 18))] false 0))))
def slices_IndexFunc_api_Def_a : AFun := { ps := [(.one (.sl 83)), (.one (.fn 102))], rs := [lI], res := [(false, 4, none)], body := (.seq (.region [] [oq 4 (.mov (.c lI [.int 0]))] false 0)
 (.seq (.seq (.region [] [oq 6 (.mov (.t 0)),
 oq 7 (.lenL (.t 6)),
 oq 8 (.mov (.c lI [.int 0]))] false 0)
 (.block 0 (.loop slices_IndexFunc_api_Def_h0 slices_IndexFunc_api_Def_o0 slices_IndexFunc_api_Def_c0)))
 (.seq (.region [] [oq 4 (.mov (.c lI [.int (-1)]))] false 0)
 .ret))) }

def types_find_1_a : AFun := { ps := [lA2, (.one (.ref 9))], rs := [lB], res := [(false, 3, none)], body := (.seq (.region [] [oq 2 (.boxP lA2 83 (.t 0)),
 oq 3 (.mov (.c lB [.bool false]))] false 0)
 (.seq (.region [] [oq 4 (.fad 0 1 83 9 (.t 2)),
 oq 5 (.ld lS 9 (.t 4)),
 oq 6 (.ld lS 9 (.t 1)),
 oq 7 (.scmp .eql (.t 5) (.t 6)),
 oq 3 (.mov (.t 7))] false 0)
 .ret)) }

def types_find_a : AFun := { ps := [(.one (.sl 83)), lS], rs := [lI], res := [(false, 4, none)], body := (.seq (.region [] [oq 3 (.boxP lS 9 (.t 1)),
 oq 4 (.mov (.c lI [.int 0]))] false 0)
 (.seq (.region [] [oq 5 (.mov (.t 0)),
 oq 6 (.mkf 71 102 [.ref 9] [(.t 3)]),
 oq 7 (.call 70 [(.one (.sl 83)), (.one (.fn 102))] [lI] [(.t 5), (.t 6)]),
 oq 4 (.mov (.t 7))] false 0)
 .ret)) }

def types_Size_h0 : Shape := { slots := [(3, .d lI), (7, .d (.one (.sl 61))), (8, .d lI), (9, .d lI)], objs := [] }
def types_Size_o0 : List (Exit' × Shape) := [(.exit 0, { slots := [(3, .d lI)], objs := [] })]
def types_Size_c0 : ACode := (.seq (.region [] [oq 10 (.icmp .lss (.t 9) (.t 8))] false 0)
 (.seq (.cond (.t 10) .skip
 (.exit 0))
 (.seq (.block 1 (.seq (.region [] [oq 11 (.iad 61 lA2 (.t 7) (.t 9)),
 oq 12 (.ld lA2 61 (.t 11)),
 oq 5 (.allocO 0 lA2 [.str [], .int 0, .str [], .int 0, .int 0, .str [], .nils]),
 ⟨none, .st lA2 (.t 5) (.t 12), none, []⟩] false 1)
 (.region [] [oq 13 (.mov (.t 3)),
 oq 14 (.fad 1 6 61 46 (.t 5)),
 oq 15 (.ld lA3 46 (.t 14)),
 oq 16 (.call 72 [lA3] [lI] [(.t 15)]),
 oq 17 (.ibin .add (.t 13) (.t 16)),
 oq 3 (.mov (.t 17))] false 0)))
 (.region [] [oq 18 (.ibin .add (.t 9) (.c lI [.int 1])),
 oq 9 (.mov (.t 18))] false 0))))
def types_Size_a : AFun := { ps := [lA3], rs := [lI], res := [(false, 2, none)], body := (.seq (.region [] [oq 1 (.boxP lA3 46 (.t 0)),
 oq 2 (.mov (.c lI [.int 0]))] false 0)
 (.seq (.region [] [oq 3 (.mov (.c lI [.int 1]))] false 0)
 (.seq (.seq (.region [] [oq 6 (.fad 5 1 46 44 (.t 1)),
 oq 7 (.ld (.one (.sl 61)) 44 (.t 6)),
 oq 8 (.lenL (.t 7)),
 oq 9 (.mov (.c lI [.int 0]))] false 0)
 (.block 0 (.loop types_Size_h0 types_Size_o0 types_Size_c0)))
 (.seq (.region [] [oq 19 (.mov (.t 3)),
 oq 2 (.mov (.t 19))] false 0)
 .ret)))) }

def types_Deep_h0 : Shape := { slots := [(3, .d lI), (7, .d (.one (.sl 61))), (8, .d lI), (9, .d lI)], objs := [] }
def types_Deep_o0 : List (Exit' × Shape) := [(.exit 0, { slots := [(3, .d lI)], objs := [] })]
def types_Deep_c0 : ACode := (.seq (.region [] [oq 10 (.icmp .lss (.t 9) (.t 8))] false 0)
 (.seq (.cond (.t 10) .skip
 (.exit 0))
 (.seq (.block 1 (.seq (.region [] [oq 11 (.iad 61 lA2 (.t 7) (.t 9)),
 oq 12 (.ld lA2 61 (.t 11)),
 oq 5 (.allocO 0 lA2 [.str [], .int 0, .str [], .int 0, .int 0, .str [], .nils]),
 ⟨none, .st lA2 (.t 5) (.t 12), none, []⟩] false 1)
 (.region [] [oq 13 (.mov (.t 3)),
 oq 14 (.fad 1 6 61 46 (.t 5)),
 oq 15 (.ld lA3 46 (.t 14)),
 oq 16 (.call 73 [lA3] [lI] [(.t 15)]),
 oq 17 (.imin true [(.t 13), (.t 16)]),
 oq 3 (.mov (.t 17))] false 0)))
 (.region [] [oq 18 (.ibin .add (.t 9) (.c lI [.int 1])),
 oq 9 (.mov (.t 18))] false 0))))
def types_Deep_a : AFun := { ps := [lA3], rs := [lI], res := [(false, 2, none)], body := (.seq (.region [] [oq 1 (.boxP lA3 46 (.t 0)),
 oq 2 (.mov (.c lI [.int 0]))] false 0)
 (.seq (.region [] [oq 3 (.mov (.c lI [.int 0]))] false 0)
 (.seq (.seq (.region [] [oq 6 (.fad 5 1 46 44 (.t 1)),
 oq 7 (.ld (.one (.sl 61)) 44 (.t 6)),
 oq 8 (.lenL (.t 7)),
 oq 9 (.mov (.c lI [.int 0]))] false 0)
 (.block 0 (.loop types_Deep_h0 types_Deep_o0 types_Deep_c0)))
 (.seq (.region [] [oq 19 (.mov (.t 3)),
 oq 20 (.ibin .add (.t 19) (.c lI [.int 1])),
 oq 2 (.mov (.t 20))] false 0)
 .ret)))) }

def types_bounds_a : AFun := { ps := [lI], rs := [lI, lI], res := [(false, 2, none), (false, 3, none)], body := (.seq (.region [] [oq 2 (.mov (.c lI [.int 0])),
 oq 3 (.mov (.c lI [.int 0]))] false 0)
 (.seq (.seq (.region [] [oq 4 (.mov (.t 0))] false 0)
 (.block 0 (.seq (.region [] [oq 6 (.icmp .eql (.t 4) (.c lI [.int 1])),
 oq 5 (.mov (.t 6))] false 0)
 (.cond (.t 5) (.seq (.region [] [oq 2 (.mov (.c lI [.int 0])),
 oq 3 (.mov (.c lI [.int 1]))] false 0)
 .ret)
 (.seq (.region [] [oq 8 (.icmp .eql (.t 4) (.c lI [.int 2])),
 oq 7 (.mov (.t 8))] false 0)
 (.cond (.t 7) (.seq (.region [] [oq 2 (.mov (.c lI [.int (-9007199254740992)])),
 oq 3 (.mov (.c lI [.int 9007199254740992]))] false 0)
 .ret)
 (.seq (.region [] [oq 10 (.icmp .eql (.t 4) (.c lI [.int 4])),
 oq 9 (.mov (.t 10))] false 0)
 (.cond (.t 9) (.seq (.region [] [oq 2 (.mov (.c lI [.int 0])),
 oq 3 (.mov (.c lI [.int 4194304]))] false 0)
 .ret)
 (.seq (.seq (.region [] [oq 12 (.icmp .eql (.t 4) (.c lI [.int 8])),
 oq 11 (.mov (.t 12))] false 0)
 (.cond (.t 11) .skip
 (.region [] [oq 13 (.icmp .eql (.t 4) (.c lI [.int 9])),
 oq 11 (.mov (.t 13))] false 0)))
 (.cond (.t 11) (.seq (.region [] [oq 2 (.mov (.c lI [.int 0])),
 oq 3 (.mov (.c lI [.int 200]))] false 0)
 .ret)
 .skip))))))))))
 (.seq (.region [] [oq 2 (.mov (.c lI [.int 0])),
 oq 3 (.mov (.c lI [.int 0]))] false 0)
 .ret))) }

def types_unused_a : AFun := { ps := [lA3], rs := [lB], res := [(false, 2, none)], body := (.seq (.region [] [oq 1 (.boxP lA3 46 (.t 0)),
 oq 2 (.mov (.c lB [.bool false]))] false 0)
 (.seq (.join [(.normal, { slots := [(1, .d (.one (.ref 46))), (3, .d lB)], objs := [] })] (.region [] [oq 5 (.fad 0 1 46 3 (.t 1)),
 oq 6 (.ld lI 3 (.t 5)),
 oq 7 (.icmp .eql (.t 6) (.c lI [.int 1])),
 oq 8 (.mov (.t 7)),
 ⟨some 9, .fad 0 1 46 3 (.t 1), some (8, false), []⟩,
 ⟨some 10, .ld lI 3 (.t 9), some (8, false), []⟩,
 ⟨some 11, .icmp .eql (.t 10) (.c lI [.int 2]), some (8, false), []⟩,
 oq 12 (.pick (.t 8) (.c lB [.bool true]) (.t 11)),
 oq 13 (.mov (.t 12)),
 ⟨some 14, .fad 0 1 46 3 (.t 1), some (13, false), []⟩,
 ⟨some 15, .ld lI 3 (.t 14), some (13, false), []⟩,
 ⟨some 16, .icmp .eql (.t 15) (.c lI [.int 4]), some (13, false), []⟩,
 oq 17 (.pick (.t 13) (.c lB [.bool true]) (.t 16)),
 oq 18 (.mov (.t 17)),
 ⟨some 19, .fad 0 1 46 3 (.t 1), some (18, false), []⟩,
 ⟨some 20, .ld lI 3 (.t 19), some (18, false), []⟩,
 ⟨some 21, .icmp .eql (.t 20) (.c lI [.int 8]), some (18, false), []⟩,
 oq 22 (.pick (.t 18) (.c lB [.bool true]) (.t 21)),
 oq 23 (.mov (.t 22)),
 ⟨some 24, .fad 0 1 46 3 (.t 1), some (23, false), []⟩,
 ⟨some 25, .ld lI 3 (.t 24), some (23, false), []⟩,
 ⟨some 26, .icmp .eql (.t 25) (.c lI [.int 9]), some (23, false), []⟩,
 oq 27 (.pick (.t 23) (.c lB [.bool true]) (.t 26)),
 oq 3 (.mov (.t 27))] false 0))
 (.seq (.join [(.normal, { slots := [(1, .d (.one (.ref 46))), (3, .d lB), (4, .d lB)], objs := [] })] (.region [] [oq 28 (.fad 0 1 46 3 (.t 1)),
 oq 29 (.ld lI 3 (.t 28)),
 oq 30 (.icmp .geq (.t 29) (.c lI [.int 6])),
 oq 31 (.mov (.t 30)),
 ⟨some 32, .fad 0 1 46 3 (.t 1), some (31, true), []⟩,
 ⟨some 33, .ld lI 3 (.t 32), some (31, true), []⟩,
 ⟨some 34, .icmp .leq (.t 33) (.c lI [.int 9]), some (31, true), []⟩,
 oq 35 (.pick (.t 31) (.t 34) (.c lB [.bool false])),
 oq 4 (.mov (.t 35))] false 0))
 (.seq (.region [] [oq 36 (.mov (.t 3)),
 oq 37 (.not (.t 36)),
 oq 38 (.mov (.t 37)),
 ⟨some 39, .fad 2 1 46 3 (.t 1), some (38, true), []⟩,
 ⟨some 40, .ld lI 3 (.t 39), some (38, true), []⟩,
 ⟨some 41, .icmp .neq (.t 40) (.c lI [.int 0]), some (38, true), []⟩,
 ⟨some 42, .mov (.t 41), some (38, true), []⟩,
 ⟨some 43, .fad 3 1 46 3 (.t 1), some (42, false), []⟩,
 ⟨some 44, .ld lI 3 (.t 43), some (42, false), []⟩,
 ⟨some 45, .icmp .neq (.t 44) (.c lI [.int 0]), some (42, false), []⟩,
 ⟨some 46, .pick (.t 42) (.c lB [.bool true]) (.t 45), some (38, true), []⟩,
 oq 47 (.pick (.t 38) (.t 46) (.c lB [.bool false])),
 oq 48 (.mov (.t 47)),
 ⟨some 49, .fad 0 1 46 3 (.t 1), some (48, false), []⟩,
 ⟨some 50, .ld lI 3 (.t 49), some (48, false), []⟩,
 ⟨some 51, .icmp .neq (.t 50) (.c lI [.int 5]), some (48, false), []⟩,
 ⟨some 52, .mov (.t 51), some (48, false), []⟩,
 ⟨some 53, .fad 0 1 46 3 (.t 1), some (52, true), []⟩,
 ⟨some 54, .ld lI 3 (.t 53), some (52, true), []⟩,
 ⟨some 55, .icmp .neq (.t 54) (.c lI [.int 9]), some (52, true), []⟩,
 ⟨some 56, .pick (.t 52) (.t 55) (.c lB [.bool false]), some (48, false), []⟩,
 ⟨some 57, .mov (.t 56), some (48, false), []⟩,
 ⟨some 58, .fad 4 1 46 9 (.t 1), some (57, true), []⟩,
 ⟨some 59, .ld lS 9 (.t 58), some (57, true), []⟩,
 ⟨some 60, .scmp .neq (.t 59) (.c lS [.str ([] : List UInt8)]), some (57, true), []⟩,
 ⟨some 61, .pick (.t 57) (.t 60) (.c lB [.bool false]), some (48, false), []⟩,
 oq 62 (.pick (.t 48) (.c lB [.bool true]) (.t 61)),
 oq 63 (.mov (.t 62)),
 ⟨some 64, .mov (.t 4), some (63, false), []⟩,
 ⟨some 65, .not (.t 64), some (63, false), []⟩,
 ⟨some 66, .mov (.t 65), some (63, false), []⟩,
 ⟨some 67, .fad 5 1 46 44 (.t 1), some (66, true), []⟩,
 ⟨some 68, .ld (.one (.sl 61)) 44 (.t 67), some (66, true), []⟩,
 ⟨some 69, .lenL (.t 68), some (66, true), []⟩,
 ⟨some 70, .icmp .gtr (.t 69) (.c lI [.int 0]), some (66, true), []⟩,
 ⟨some 71, .pick (.t 66) (.t 70) (.c lB [.bool false]), some (63, false), []⟩,
 oq 72 (.pick (.t 63) (.c lB [.bool true]) (.t 71)),
 oq 73 (.mov (.t 72)),
 ⟨some 74, .fad 0 1 46 3 (.t 1), some (73, false), []⟩,
 ⟨some 75, .ld lI 3 (.t 74), some (73, false), []⟩,
 ⟨some 76, .icmp .neq (.t 75) (.c lI [.int 10]), some (73, false), []⟩,
 ⟨some 77, .mov (.t 76), some (73, false), []⟩,
 ⟨some 78, .fad 1 1 46 9 (.t 1), some (77, true), []⟩,
 ⟨some 79, .ld lS 9 (.t 78), some (77, true), []⟩,
 ⟨some 80, .scmp .neq (.t 79) (.c lS [.str ([] : List UInt8)]), some (77, true), []⟩,
 ⟨some 81, .pick (.t 77) (.t 80) (.c lB [.bool false]), some (73, false), []⟩,
 oq 82 (.pick (.t 73) (.c lB [.bool true]) (.t 81)),
 oq 2 (.mov (.t 82))] false 0)
 .ret)))) }

def slices_IndexFunc_api_Part_h0 : Shape := { slots := [(0, .d (.one (.sl 61))), (1, .d (.one (.fn 137))), (7, .d lI), (8, .d lI)], objs := [] }
def slices_IndexFunc_api_Part_o0 : List (Exit' × Shape) := [(.exit 0, { slots := [], objs := [] }), (.ret, { slots := [(4, .d lI)], objs := [] })]
def slices_IndexFunc_api_Part_c0 : ACode := (.seq (.region [] [oq 9 (.icmp .lss (.t 8) (.t 7))] false 0)
 (.seq (.cond (.t 9) .skip
 (.exit 0))
 (.seq (.block 1 (.seq (.region [] [oq 10 (.mov (.t 8)),
 oq 5 (.mov (.t 10))] false 0)
 (.seq (.region [] [oq 11 (.mov (.t 1)),
 oq 12 (.mov (.t 0)),
 oq 13 (.mov (.t 5)),
 oq 14 (.iad 61 lA2 (.t 12) (.t 13)),
 oq 15 (.ld lA2 61 (.t 14)),
 oq 16 (.callv 137 [lA2] [lB] (.t 11) [(.t 15)])] false 0)
 (.cond (.t 16) (.seq (.region [] [oq 17 (.mov (.t 5)),
 oq 4 (.mov (.t 17))] false 0)
 .ret)
 .skip))))
 (.region [] [oq 18 (.ibin .add (.t 8) (.c lI [.int 1])),
 oq 8 (.mov (.t 18))] false 0))))
def slices_IndexFunc_api_Part_a : AFun := { ps := [(.one (.sl 61)), (.one (.fn 137))], rs := [lI], res := [(false, 4, none)], body := (.seq (.region [] [oq 4 (.mov (.c lI [.int 0]))] false 0)
 (.seq (.seq (.region [] [oq 6 (.mov (.t 0)),
 oq 7 (.lenL (.t 6)),
 oq 8 (.mov (.c lI [.int 0]))] false 0)
 (.block 0 (.loop slices_IndexFunc_api_Part_h0 slices_IndexFunc_api_Part_o0 slices_IndexFunc_api_Part_c0)))
 (.seq (.region [] [oq 4 (.mov (.c lI [.int (-1)]))] false 0)
 .ret))) }

def slices_ContainsFunc_api_Part_a : AFun := { ps := [(.one (.sl 61)), (.one (.fn 137))], rs := [lB], res := [(false, 4, none)], body := (.seq (.region [] [oq 4 (.mov (.c lB [.bool false]))] false 0)
 (.seq (.region [] [oq 5 (.mov (.t 0)),
 oq 6 (.mov (.t 1)),
 oq 7 (.call 110 [(.one (.sl 61)), (.one (.fn 137))] [lI] [(.t 5), (.t 6)]),
 oq 8 (.icmp .geq (.t 7) (.c lI [.int 0])),
 oq 4 (.mov (.t 8))] false 0)
 .ret)) }

def types_parts_1_a : AFun := { ps := [lA2, (.one (.ref 61))], rs := [lB], res := [(false, 3, none)], body := (.seq (.region [] [oq 2 (.boxP lA2 61 (.t 0)),
 oq 3 (.mov (.c lB [.bool false]))] false 0)
 (.seq (.region [] [oq 4 (.fad 0 1 61 9 (.t 2)),
 oq 5 (.ld lS 9 (.t 4)),
 oq 6 (.fad 0 1 61 9 (.t 1)),
 oq 7 (.ld lS 9 (.t 6)),
 oq 8 (.scmp .eql (.t 5) (.t 7)),
 oq 3 (.mov (.t 8))] false 0)
 .ret)) }

def types_parts_h0 : Shape := { slots := [(1, .d (.one (.ref 46))), (37, .d (.one (.sl 61))), (38, .d lI), (39, .d lI)], objs := [] }
def types_parts_o0 : List (Exit' × Shape) := [(.exit 1, { slots := [], objs := [] }), (.ret, { slots := [(2, .d lI)], objs := [] })]
def types_parts_c0 : ACode := (.seq (.region [] [oq 40 (.icmp .lss (.t 39) (.t 38))] false 0)
 (.seq (.cond (.t 40) .skip
 (.exit 1))
 (.seq (.block 2 (.seq (.region [] [oq 41 (.mov (.t 39)),
 oq 42 (.iad 61 lA2 (.t 37) (.t 39)),
 oq 43 (.ld lA2 61 (.t 42)),
 oq 5 (.allocO 0 lA2 [.str [], .int 0, .str [], .int 0, .int 0, .str [], .nils]),
 oq 4 (.mov (.t 41)),
 ⟨none, .st lA2 (.t 5) (.t 43), none, []⟩] false 1)
 (.seq (.seq (.region [] [oq 44 (.fad 0 1 61 9 (.t 5)),
 oq 45 (.ld lS 9 (.t 44)),
 oq 46 (.call 42 [lS] [lB] [(.t 45)]),
 oq 47 (.not (.t 46))] false 0)
 (.cond (.t 47) (.seq (.region [] [oq 2 (.mov (.c lI [.int 15]))] false 0)
 .ret)
 .skip))
 (.seq (.region [(5, 61, some lA2)] [oq 48 (.fad 5 1 46 44 (.t 1)),
 oq 49 (.ld (.one (.sl 61)) 44 (.t 48)),
 oq 50 (.mov (.t 4)),
 oq 51 (.slc 61 lA2 (.t 49) none (some (.t 50))),
 oq 52 (.mkf 169 137 [.ref 61] [(.t 5)]),
 oq 53 (.call 130 [(.one (.sl 61)), (.one (.fn 137))] [lB] [(.t 51), (.t 52)])] false 0)
 (.cond (.t 53) (.seq (.region [] [oq 2 (.mov (.c lI [.int 5]))] false 0)
 .ret)
 .skip)))))
 (.region [] [oq 54 (.ibin .add (.t 39) (.c lI [.int 1])),
 oq 39 (.mov (.t 54))] false 0))))
def types_parts_a : AFun := { ps := [lA3], rs := [lI], res := [(false, 2, none)], body := (.seq (.region [] [oq 1 (.boxP lA3 46 (.t 0)),
 oq 2 (.mov (.c lI [.int 0]))] false 0)
 (.seq (.region [] [oq 6 (.fad 5 1 46 44 (.t 1)),
 oq 7 (.ld (.one (.sl 61)) 44 (.t 6)),
 oq 8 (.lenL (.t 7)),
 oq 3 (.mov (.t 8))] false 0)
 (.seq (.seq (.region [] [oq 9 (.fad 0 1 46 3 (.t 1)),
 oq 10 (.ld lI 3 (.t 9))] false 0)
 (.join [(.normal, { slots := [], objs := [] }), (.ret, { slots := [(2, .d lI)], objs := [] })] (.block 0 (.seq (.seq (.region [] [oq 12 (.icmp .eql (.t 10) (.c lI [.int 8])),
 oq 11 (.mov (.t 12))] false 0)
 (.join [(.normal, { slots := [(1, .d (.one (.ref 46))), (3, .d lI), (10, .d lI), (11, .d lB)], objs := [] })] (.cond (.t 11) .skip
 (.region [] [oq 13 (.icmp .eql (.t 10) (.c lI [.int 9])),
 oq 11 (.mov (.t 13))] false 0))))
 (.cond (.t 11) (.seq (.region [] [oq 14 (.mov (.t 3)),
 oq 15 (.icmp .neq (.t 14) (.c lI [.int 1])),
 oq 16 (.mov (.t 15)),
 ⟨some 17, .fad 5 1 46 44 (.t 1), some (16, false), []⟩,
 ⟨some 18, .ld (.one (.sl 61)) 44 (.t 17), some (16, false), []⟩,
 ⟨some 19, .iad 61 lA2 (.t 18) (.c lI [.int 0]), some (16, false), []⟩,
 ⟨some 20, .fad 0 1 61 9 (.t 19), some (16, false), []⟩,
 ⟨some 21, .ld lS 9 (.t 20), some (16, false), []⟩,
 ⟨some 22, .scmp .neq (.t 21) (.c lS [.str ([] : List UInt8)]), some (16, false), []⟩,
 oq 23 (.pick (.t 16) (.c lB [.bool true]) (.t 22))] false 0)
 (.cond (.t 23) (.seq (.region [] [oq 2 (.mov (.c lI [.int 3]))] false 0)
 .ret)
 .skip))
 (.seq (.seq (.region [] [oq 25 (.icmp .eql (.t 10) (.c lI [.int 6])),
 oq 24 (.mov (.t 25))] false 0)
 (.join [(.normal, { slots := [(1, .d (.one (.ref 46))), (3, .d lI), (24, .d lB)], objs := [] })] (.cond (.t 24) .skip
 (.region [] [oq 26 (.icmp .eql (.t 10) (.c lI [.int 7])),
 oq 24 (.mov (.t 26))] false 0))))
 (.cond (.t 24) (.seq (.seq (.region [] [oq 27 (.mov (.t 3)),
 oq 28 (.icmp .gtr (.t 27) (.c lI [.int 24]))] false 0)
 (.cond (.t 28) (.seq (.region [] [oq 2 (.mov (.c lI [.int 2]))] false 0)
 .ret)
 .skip))
 (.seq (.seq (.join [(.normal, { slots := [(1, .d (.one (.ref 46))), (35, .d lB)], objs := [] })] (.region [] [oq 29 (.fad 0 1 46 3 (.t 1)),
 oq 30 (.ld lI 3 (.t 29)),
 oq 31 (.icmp .eql (.t 30) (.c lI [.int 7])),
 oq 32 (.mov (.t 31)),
 ⟨some 33, .mov (.t 3), some (32, true), []⟩,
 ⟨some 34, .icmp .eql (.t 33) (.c lI [.int 0]), some (32, true), []⟩,
 oq 35 (.pick (.t 32) (.t 34) (.c lB [.bool false]))] false 0))
 (.cond (.t 35) (.seq (.region [] [oq 2 (.mov (.c lI [.int 3]))] false 0)
 .ret)
 .skip))
 (.seq (.region [] [oq 36 (.fad 5 1 46 44 (.t 1)),
 oq 37 (.ld (.one (.sl 61)) 44 (.t 36)),
 oq 38 (.lenL (.t 37)),
 oq 39 (.mov (.c lI [.int 0]))] false 0)
 (.block 1 (.loop types_parts_h0 types_parts_o0 types_parts_c0)))))
 .skip)))))))
 (.seq (.region [] [oq 2 (.mov (.c lI [.int 0]))] false 0)
 .ret)))) }

def types_own_a : AFun := { ps := [(.one (.sl 83)), lA3], rs := [lI], res := [(false, 4, none)], body := (.seq (.region [] [oq 3 (.boxP lA3 46 (.t 1)),
 oq 4 (.mov (.c lI [.int 0]))] false 0)
 (.seq (.region [] [oq 9 (.fad 0 1 46 3 (.t 3)),
 oq 10 (.ld lI 3 (.t 9)),
 oq 11 (.call 142 [lI] [lI, lI] [(.t 10)]),
 oq 8 (.mov (.t 11)),
 oq 12 (.ext 0 (.t 8)),
 oq 13 (.ext 1 (.t 8)),
 oq 5 (.mov (.t 12)),
 oq 6 (.mov (.t 13))] false 0)
 (.seq (.join [(.normal, { slots := [(3, .d (.one (.ref 46)))], objs := [] }), (.ret, { slots := [(4, .d lI)], objs := [] })] (.block 0 (.seq (.join [(.normal, { slots := [(0, .d (.one (.sl 83))), (3, .d (.one (.ref 46))), (5, .d lI), (6, .d lI), (14, .d lB)], objs := [] })] (.region [] [oq 15 (.fad 0 1 46 3 (.t 3)),
 oq 16 (.ld lI 3 (.t 15)),
 oq 17 (.icmp .lss (.t 16) (.c lI [.int 0])),
 oq 18 (.mov (.t 17)),
 ⟨some 19, .fad 0 1 46 3 (.t 3), some (18, false), []⟩,
 ⟨some 20, .ld lI 3 (.t 19), some (18, false), []⟩,
 ⟨some 21, .icmp .gtr (.t 20) (.c lI [.int 10]), some (18, false), []⟩,
 oq 22 (.pick (.t 18) (.c lB [.bool true]) (.t 21)),
 oq 23 (.mov (.t 22)),
 ⟨some 24, .ld lA3 46 (.t 3), some (23, false), []⟩,
 ⟨some 25, .call 143 [lA3] [lB] [(.t 24)], some (23, false), []⟩,
 oq 26 (.pick (.t 23) (.c lB [.bool true]) (.t 25)),
 oq 14 (.mov (.t 26))] false 0))
 (.cond (.t 14) (.seq (.region [] [oq 4 (.mov (.c lI [.int 3]))] false 0)
 .ret)
 (.seq (.join [(.normal, { slots := [(0, .d (.one (.sl 83))), (3, .d (.one (.ref 46))), (27, .d lB)], objs := [] })] (.region [] [oq 28 (.fad 2 1 46 3 (.t 3)),
 oq 29 (.ld lI 3 (.t 28)),
 oq 30 (.mov (.t 5)),
 oq 31 (.icmp .lss (.t 29) (.t 30)),
 oq 32 (.mov (.t 31)),
 ⟨some 33, .fad 2 1 46 3 (.t 3), some (32, false), []⟩,
 ⟨some 34, .ld lI 3 (.t 33), some (32, false), []⟩,
 ⟨some 35, .fad 3 1 46 3 (.t 3), some (32, false), []⟩,
 ⟨some 36, .ld lI 3 (.t 35), some (32, false), []⟩,
 ⟨some 37, .icmp .gtr (.t 34) (.t 36), some (32, false), []⟩,
 oq 38 (.pick (.t 32) (.c lB [.bool true]) (.t 37)),
 oq 39 (.mov (.t 38)),
 ⟨some 40, .fad 3 1 46 3 (.t 3), some (39, false), []⟩,
 ⟨some 41, .ld lI 3 (.t 40), some (39, false), []⟩,
 ⟨some 42, .mov (.t 6), some (39, false), []⟩,
 ⟨some 43, .icmp .gtr (.t 41) (.t 42), some (39, false), []⟩,
 oq 44 (.pick (.t 39) (.c lB [.bool true]) (.t 43)),
 oq 27 (.mov (.t 44))] false 0))
 (.cond (.t 27) (.seq (.region [] [oq 4 (.mov (.c lI [.int 11]))] false 0)
 .ret)
 (.seq (.join [(.normal, { slots := [(0, .d (.one (.sl 83))), (3, .d (.one (.ref 46))), (45, .d lB)], objs := [] })] (.region [] [oq 46 (.fad 0 1 46 3 (.t 3)),
 oq 47 (.ld lI 3 (.t 46)),
 oq 48 (.icmp .eql (.t 47) (.c lI [.int 5])),
 oq 49 (.mov (.t 48)),
 ⟨some 50, .fad 0 1 46 3 (.t 3), some (49, false), []⟩,
 ⟨some 51, .ld lI 3 (.t 50), some (49, false), []⟩,
 ⟨some 52, .icmp .eql (.t 51) (.c lI [.int 9]), some (49, false), []⟩,
 oq 53 (.pick (.t 49) (.c lB [.bool true]) (.t 52)),
 oq 45 (.mov (.t 53))] false 0))
 (.cond (.t 45) (.seq (.region [] [oq 54 (.fad 4 1 46 9 (.t 3)),
 oq 55 (.ld lS 9 (.t 54)),
 oq 56 (.bad),
 oq 7 (.bad)] false 0)
 (.seq .bad
 .bad))
 (.seq (.region [] [oq 61 (.fad 0 1 46 3 (.t 3)),
 oq 62 (.ld lI 3 (.t 61)),
 oq 63 (.icmp .eql (.t 62) (.c lI [.int 10])),
 oq 64 (.mov (.t 63)),
 ⟨some 65, .mov (.t 0), some (64, true), []⟩,
 ⟨some 66, .fad 1 1 46 9 (.t 3), some (64, true), []⟩,
 ⟨some 67, .ld lS 9 (.t 66), some (64, true), []⟩,
 ⟨some 68, .call 43 [(.one (.sl 83)), lS] [lI] [(.t 65), (.t 67)], some (64, true), []⟩,
 ⟨some 69, .icmp .lss (.t 68) (.c lI [.int 0]), some (64, true), []⟩,
 oq 70 (.pick (.t 64) (.t 69) (.c lB [.bool false])),
 oq 60 (.mov (.t 70))] false 0)
 (.cond (.t 60) (.seq (.region [] [oq 4 (.mov (.c lI [.int 15]))] false 0)
 .ret)
 .skip))))))))))
 (.seq (.region [] [oq 71 (.ld lA3 46 (.t 3)),
 oq 72 (.call 144 [lA3] [lI] [(.t 71)]),
 oq 4 (.mov (.t 72))] false 0)
 .ret)))) }

def types_node_h0 : Shape := { slots := [(0, .d (.one (.sl 83))), (16, .d (.one (.sl 61))), (17, .d lI), (18, .d lI)], objs := [] }
def types_node_o0 : List (Exit' × Shape) := [(.exit 0, { slots := [], objs := [] }), (.ret, { slots := [(4, .d lI)], objs := [] })]
def types_node_c0 : ACode := (.seq (.region [] [oq 19 (.icmp .lss (.t 18) (.t 17))] false 0)
 (.seq (.cond (.t 19) .skip
 (.exit 0))
 (.seq (.block 1 (.seq (.region [] [oq 20 (.iad 61 lA2 (.t 16) (.t 18)),
 oq 21 (.ld lA2 61 (.t 20)),
 oq 7 (.allocO 0 lA2 [.str [], .int 0, .str [], .int 0, .int 0, .str [], .nils]),
 ⟨none, .st lA2 (.t 7) (.t 21), none, []⟩] false 1)
 (.seq (.region [] [oq 22 (.mov (.t 0)),
 oq 23 (.fad 1 6 61 46 (.t 7)),
 oq 24 (.ld lA3 46 (.t 23)),
 oq 25 (.call 74 [(.one (.sl 83)), lA3] [lI] [(.t 22), (.t 24)]),
 oq 8 (.mov (.t 25))] false 0)
 (.seq (.region [] [oq 26 (.mov (.t 8)),
 oq 27 (.icmp .neq (.t 26) (.c lI [.int 0]))] false 0)
 (.cond (.t 27) (.seq (.region [] [oq 28 (.mov (.t 8)),
 oq 4 (.mov (.t 28))] false 0)
 .ret)
 .skip)))))
 (.region [] [oq 29 (.ibin .add (.t 18) (.c lI [.int 1])),
 oq 18 (.mov (.t 29))] false 0))))
def types_node_a : AFun := { ps := [(.one (.sl 83)), lA3], rs := [lI], res := [(false, 4, none)], body := (.seq (.region [] [oq 3 (.boxP lA3 46 (.t 1)),
 oq 4 (.mov (.c lI [.int 0]))] false 0)
 (.seq (.seq (.region [] [oq 9 (.mov (.t 0)),
 oq 10 (.ld lA3 46 (.t 3)),
 oq 11 (.call 106 [(.one (.sl 83)), lA3] [lI] [(.t 9), (.t 10)]),
 oq 5 (.mov (.t 11))] false 0)
 (.seq (.region [] [oq 12 (.mov (.t 5)),
 oq 13 (.icmp .neq (.t 12) (.c lI [.int 0]))] false 0)
 (.cond (.t 13) (.seq (.region [] [oq 14 (.mov (.t 5)),
 oq 4 (.mov (.t 14))] false 0)
 .ret)
 .skip)))
 (.seq (.seq (.region [] [oq 15 (.fad 5 1 46 44 (.t 3)),
 oq 16 (.ld (.one (.sl 61)) 44 (.t 15)),
 oq 17 (.lenL (.t 16)),
 oq 18 (.mov (.c lI [.int 0]))] false 0)
 (.block 0 (.loop types_node_h0 types_node_o0 types_node_c0)))
 (.seq (.region [] [oq 4 (.mov (.c lI [.int 0]))] false 0)
 .ret)))) }

def types_right_a : AFun := { ps := [(.one (.sl 83)), lA3], rs := [lI], res := [(false, 4, none)], body := (.seq (.region [] [oq 3 (.boxP lA3 46 (.t 1)),
 oq 4 (.mov (.c lI [.int 0]))] false 0)
 (.seq (.seq (.region [] [oq 5 (.ld lA3 46 (.t 3)),
 oq 6 (.call 72 [lA3] [lI] [(.t 5)]),
 oq 7 (.icmp .gtr (.t 6) (.c lI [.int 200])),
 oq 8 (.mov (.t 7)),
 ⟨some 9, .ld lA3 46 (.t 3), some (8, false), []⟩,
 ⟨some 10, .call 73 [lA3] [lI] [(.t 9)], some (8, false), []⟩,
 ⟨some 11, .icmp .gtr (.t 10) (.c lI [.int 40]), some (8, false), []⟩,
 oq 12 (.pick (.t 8) (.c lB [.bool true]) (.t 11))] false 0)
 (.cond (.t 12) (.seq (.region [] [oq 4 (.mov (.c lI [.int 2]))] false 0)
 .ret)
 .skip))
 (.seq (.region [] [oq 13 (.mov (.t 0)),
 oq 14 (.ld lA3 46 (.t 3)),
 oq 15 (.call 74 [(.one (.sl 83)), lA3] [lI] [(.t 13), (.t 14)]),
 oq 4 (.mov (.t 15))] false 0)
 .ret))) }

def types_resolve_h0 : Shape := { slots := [(0, .d (.one (.sl 83))), (3, .ptr 0 0), (4, .ptr 1 0), (9, .d lI), (10, .d lI)], objs := [.var lA3, .var lA3] }
def types_resolve_o0 : List (Exit' × Shape) := [(.exit 0, { slots := [(4, .ptr 0 0)], objs := [.var lA3] }), (.ret, { slots := [(4, .ptr 0 0), (5, .d lI)], objs := [.var lA3] })]
def types_resolve_c0 : ACode := (.seq (.region [] [oq 11 (.icmp .lss (.t 10) (.t 9))] false 0)
 (.seq (.cond (.t 11) .skip
 (.exit 0))
 (.seq (.block 1 (.seq (.seq (.region [] [oq 12 (.fad 0 1 46 3 (.t 3)),
 oq 13 (.ld lI 3 (.t 12)),
 oq 14 (.icmp .neq (.t 13) (.c lI [.int 10]))] false 0)
 (.cond (.t 14) (.seq (.region [] [oq 15 (.ld lA3 46 (.t 3)),
 ⟨none, .st lA3 (.t 4) (.t 15), none, []⟩,
 oq 5 (.mov (.c lI [.int 0]))] false 0)
 .ret)
 .skip))
 (.seq (.region [] [oq 16 (.mov (.t 0)),
 oq 17 (.fad 1 1 46 9 (.t 3)),
 oq 18 (.ld lS 9 (.t 17)),
 oq 19 (.call 43 [(.one (.sl 83)), lS] [lI] [(.t 16), (.t 18)]),
 oq 6 (.mov (.t 19))] false 0)
 (.seq (.seq (.region [] [oq 20 (.mov (.t 6)),
 oq 21 (.icmp .lss (.t 20) (.c lI [.int 0]))] false 0)
 (.cond (.t 21) (.seq (.region [] [oq 22 (.bld lA3 [.int 0, .str [], .int 0, .int 0, .str [], .nils] []),
 ⟨none, .st lA3 (.t 4) (.t 22), none, []⟩,
 oq 5 (.mov (.c lI [.int 15]))] false 0)
 .ret)
 .skip))
 (.region [] [oq 23 (.mov (.t 0)),
 oq 24 (.mov (.t 6)),
 oq 25 (.iad 83 lA2 (.t 23) (.t 24)),
 oq 26 (.fad 1 6 83 46 (.t 25)),
 oq 27 (.ld lA3 46 (.t 26)),
 ⟨none, .st lA3 (.t 3) (.t 27), none, []⟩] false 0)))))
 (.region [] [oq 28 (.ibin .add (.t 10) (.c lI [.int 1])),
 oq 10 (.mov (.t 28))] false 0))))
def types_resolve_a : AFun := { ps := [(.one (.sl 83)), lA3], rs := [lA3, lI], res := [(true, 4, none), (false, 5, none)], body := (.seq (.region [] [oq 3 (.boxO 0 lA3 (.t 1)),
 oq 4 (.allocO 1 lA3 [.int 0, .str [], .int 0, .int 0, .str [], .nils]),
 oq 5 (.mov (.c lI [.int 0]))] false 2)
 (.seq (.seq (.region [] [oq 7 (.mov (.t 0)),
 oq 8 (.lenL (.t 7)),
 oq 9 (.ibin .add (.t 8) (.c lI [.int 1])),
 oq 10 (.mov (.c lI [.int 0]))] false 0)
 (.block 0 (.loop types_resolve_h0 types_resolve_o0 types_resolve_c0)))
 (.seq (.region [] [oq 29 (.bld lA3 [.int 0, .str [], .int 0, .int 0, .str [], .nils] []),
 ⟨none, .st lA3 (.t 4) (.t 29), none, []⟩,
 oq 5 (.mov (.c lI [.int 10]))] false 0)
 .ret))) }

def types_Check_h0 : Shape := { slots := [(0, .d (.one (.sl 83))), (15, .d (.one (.sl 83))), (16, .d lI), (17, .d lI)], objs := [] }
def types_Check_o0 : List (Exit' × Shape) := [(.exit 0, { slots := [(0, .d (.one (.sl 83)))], objs := [] }), (.ret, { slots := [(2, .d lI)], objs := [] })]
def types_Check_c0 : ACode := (.seq (.region [] [oq 18 (.icmp .lss (.t 17) (.t 16))] false 0)
 (.seq (.cond (.t 18) .skip
 (.exit 0))
 (.seq (.block 1 (.seq (.region [] [oq 19 (.mov (.t 17)),
 oq 20 (.iad 83 lA2 (.t 15) (.t 17)),
 oq 21 (.ld lA2 83 (.t 20)),
 oq 4 (.allocO 0 lA2 [.str [], .int 0, .str [], .int 0, .int 0, .str [], .nils]),
 oq 3 (.mov (.t 19)),
 ⟨none, .st lA2 (.t 4) (.t 21), none, []⟩] false 1)
 (.seq (.seq (.region [] [oq 22 (.fad 0 1 83 9 (.t 4)),
 oq 23 (.ld lS 9 (.t 22)),
 oq 24 (.call 42 [lS] [lB] [(.t 23)]),
 oq 25 (.not (.t 24))] false 0)
 (.cond (.t 25) (.seq (.region [] [oq 2 (.mov (.c lI [.int 15]))] false 0)
 .ret)
 .skip))
 (.seq (.region [] [oq 26 (.mov (.t 0)),
 oq 27 (.fad 0 1 83 9 (.t 4)),
 oq 28 (.ld lS 9 (.t 27)),
 oq 29 (.call 43 [(.one (.sl 83)), lS] [lI] [(.t 26), (.t 28)]),
 oq 30 (.mov (.t 3)),
 oq 31 (.icmp .lss (.t 29) (.t 30))] false 0)
 (.cond (.t 31) (.seq (.region [] [oq 2 (.mov (.c lI [.int 5]))] false 0)
 .ret)
 .skip)))))
 (.region [] [oq 32 (.ibin .add (.t 17) (.c lI [.int 1])),
 oq 17 (.mov (.t 32))] false 0))))
def types_Check_h1 : Shape := { slots := [(0, .d (.one (.sl 83))), (33, .d (.one (.sl 83))), (34, .d lI), (35, .d lI)], objs := [] }
def types_Check_o1 : List (Exit' × Shape) := [(.exit 2, { slots := [(0, .d (.one (.sl 83)))], objs := [] }), (.ret, { slots := [(2, .d lI)], objs := [] })]
def types_Check_c1 : ACode := (.seq (.region [] [oq 36 (.icmp .lss (.t 35) (.t 34))] false 0)
 (.seq (.cond (.t 36) .skip
 (.exit 2))
 (.seq (.block 3 (.seq (.region [] [oq 37 (.iad 83 lA2 (.t 33) (.t 35)),
 oq 38 (.ld lA2 83 (.t 37)),
 oq 6 (.allocO 0 lA2 [.str [], .int 0, .str [], .int 0, .int 0, .str [], .nils]),
 ⟨none, .st lA2 (.t 6) (.t 38), none, []⟩] false 1)
 (.seq (.region [] [oq 39 (.mov (.t 0)),
 oq 40 (.fad 1 6 83 46 (.t 6)),
 oq 41 (.ld lA3 46 (.t 40)),
 oq 42 (.call 44 [(.one (.sl 83)), lA3] [lI] [(.t 39), (.t 41)]),
 oq 7 (.mov (.t 42))] false 0)
 (.seq (.region [] [oq 43 (.mov (.t 7)),
 oq 44 (.icmp .neq (.t 43) (.c lI [.int 0]))] false 0)
 (.cond (.t 44) (.seq (.region [] [oq 45 (.mov (.t 7)),
 oq 2 (.mov (.t 45))] false 0)
 .ret)
 .skip)))))
 (.region [] [oq 46 (.ibin .add (.t 35) (.c lI [.int 1])),
 oq 35 (.mov (.t 46))] false 0))))
def types_Check_h2 : Shape := { slots := [(0, .d (.one (.sl 83))), (47, .d (.one (.sl 83))), (48, .d lI), (49, .d lI)], objs := [] }
def types_Check_o2 : List (Exit' × Shape) := [(.exit 4, { slots := [], objs := [] }), (.ret, { slots := [(2, .d lI)], objs := [] })]
def types_Check_c2 : ACode := (.seq (.region [] [oq 50 (.icmp .lss (.t 49) (.t 48))] false 0)
 (.seq (.cond (.t 50) .skip
 (.exit 4))
 (.seq (.block 5 (.seq (.region [] [oq 51 (.iad 83 lA2 (.t 47) (.t 49)),
 oq 52 (.ld lA2 83 (.t 51)),
 oq 9 (.allocO 0 lA2 [.str [], .int 0, .str [], .int 0, .int 0, .str [], .nils]),
 ⟨none, .st lA2 (.t 9) (.t 52), none, []⟩] false 1)
 (.seq (.region [] [oq 54 (.mov (.t 0)),
 oq 55 (.fad 1 6 83 46 (.t 9)),
 oq 56 (.ld lA3 46 (.t 55)),
 oq 57 (.call 45 [(.one (.sl 83)), lA3] [lA3, lI] [(.t 54), (.t 56)]),
 oq 53 (.mov (.t 57)),
 oq 58 (.ext 0 (.t 53)),
 oq 59 (.ext 1 (.t 53)),
 oq 10 (.allocO 0 lA3 [.int 0, .str [], .int 0, .int 0, .str [], .nils]),
 ⟨none, .st lA3 (.t 10) (.t 58), none, []⟩,
 oq 11 (.mov (.t 59))] false 1)
 (.seq (.region [] [oq 60 (.mov (.t 11)),
 oq 61 (.icmp .neq (.t 60) (.c lI [.int 0]))] false 0)
 (.cond (.t 61) (.seq (.region [] [oq 62 (.mov (.t 11)),
 oq 2 (.mov (.t 62))] false 0)
 .ret)
 .skip)))))
 (.region [] [oq 63 (.ibin .add (.t 49) (.c lI [.int 1])),
 oq 49 (.mov (.t 63))] false 0))))
def types_Check_a : AFun := { ps := [(.one (.sl 83))], rs := [lI], res := [(false, 2, none)], body := (.seq (.region [] [oq 2 (.mov (.c lI [.int 0]))] false 0)
 (.seq (.seq (.region [] [oq 12 (.mov (.t 0)),
 oq 13 (.lenL (.t 12)),
 oq 14 (.icmp .gtr (.t 13) (.c lI [.int 24]))] false 0)
 (.cond (.t 14) (.seq (.region [] [oq 2 (.mov (.c lI [.int 2]))] false 0)
 .ret)
 .skip))
 (.seq (.seq (.region [] [oq 15 (.mov (.t 0)),
 oq 16 (.lenL (.t 15)),
 oq 17 (.mov (.c lI [.int 0]))] false 0)
 (.block 0 (.loop types_Check_h0 types_Check_o0 types_Check_c0)))
 (.seq (.seq (.region [] [oq 33 (.mov (.t 0)),
 oq 34 (.lenL (.t 33)),
 oq 35 (.mov (.c lI [.int 0]))] false 0)
 (.block 2 (.loop types_Check_h1 types_Check_o1 types_Check_c1)))
 (.seq (.seq (.region [] [oq 47 (.mov (.t 0)),
 oq 48 (.lenL (.t 47)),
 oq 49 (.mov (.c lI [.int 0]))] false 0)
 (.block 4 (.loop types_Check_h2 types_Check_o2 types_Check_c2)))
 (.seq (.region [] [oq 2 (.mov (.c lI [.int 0]))] false 0)
 .ret)))))) }

def types_Right_a : AFun := { ps := [(.one (.sl 83)), lA3], rs := [lI], res := [(false, 4, none)], body := (.seq (.region [] [oq 3 (.boxP lA3 46 (.t 1)),
 oq 4 (.mov (.c lI [.int 0]))] false 0)
 (.seq (.seq (.region [] [oq 6 (.mov (.t 0)),
 oq 7 (.call 30 [(.one (.sl 83))] [lI] [(.t 6)]),
 oq 5 (.mov (.t 7))] false 0)
 (.seq (.region [] [oq 8 (.mov (.t 5)),
 oq 9 (.icmp .neq (.t 8) (.c lI [.int 0]))] false 0)
 (.cond (.t 9) (.seq (.region [] [oq 10 (.mov (.t 5)),
 oq 4 (.mov (.t 10))] false 0)
 .ret)
 .skip)))
 (.seq (.region [] [oq 11 (.mov (.t 0)),
 oq 12 (.ld lA3 46 (.t 3)),
 oq 13 (.call 44 [(.one (.sl 83)), lA3] [lI] [(.t 11), (.t 12)]),
 oq 4 (.mov (.t 13))] false 0)
 .ret))) }

def lens_Size_h0 : Shape := { slots := [(3, .d lI), (7, .d (.one (.sl 29))), (8, .d lI), (9, .d lI)], objs := [] }
def lens_Size_o0 : List (Exit' × Shape) := [(.exit 0, { slots := [(3, .d lI)], objs := [] })]
def lens_Size_c0 : ACode := (.seq (.region [] [oq 10 (.icmp .lss (.t 9) (.t 8))] false 0)
 (.seq (.cond (.t 10) .skip
 (.exit 0))
 (.seq (.block 1 (.seq (.region [] [oq 11 (.iad 29 lA4 (.t 7) (.t 9)),
 oq 12 (.ld lA4 29 (.t 11)),
 oq 5 (.allocO 0 lA4 [.int 0, .str [], .str [], .nils, .int 0, .int 0, .int 0, .int 0, .int 0, .int 0, .str [], .nils, .nils, .nils]),
 ⟨none, .st lA4 (.t 5) (.t 12), none, []⟩] false 1)
 (.region [] [oq 13 (.mov (.t 3)),
 oq 14 (.ld lA4 29 (.t 5)),
 oq 15 (.call 46 [lA4] [lI] [(.t 14)]),
 oq 16 (.ibin .add (.t 13) (.t 15)),
 oq 3 (.mov (.t 16))] false 0)))
 (.region [] [oq 17 (.ibin .add (.t 9) (.c lI [.int 1])),
 oq 9 (.mov (.t 17))] false 0))))
def lens_Size_a : AFun := { ps := [lA4], rs := [lI], res := [(false, 2, none)], body := (.seq (.region [] [oq 1 (.boxP lA4 29 (.t 0)),
 oq 2 (.mov (.c lI [.int 0]))] false 0)
 (.seq (.region [] [oq 3 (.mov (.c lI [.int 1]))] false 0)
 (.seq (.seq (.region [] [oq 6 (.fad 13 1 29 27 (.t 1)),
 oq 7 (.ld (.one (.sl 29)) 27 (.t 6)),
 oq 8 (.lenL (.t 7)),
 oq 9 (.mov (.c lI [.int 0]))] false 0)
 (.block 0 (.loop lens_Size_h0 lens_Size_o0 lens_Size_c0)))
 (.seq (.region [] [oq 18 (.mov (.t 3)),
 oq 2 (.mov (.t 18))] false 0)
 .ret)))) }
end Go.Ev
