/-
  A part of the proof: what the functions of the program compute.
-/
import Derived.Test.YtoopeecnlhgfbaaZNum
set_option linter.all false
set_option maxRecDepth 100000
namespace Go.Ev
def value_order_a : AFun := { ps := [lI], rs := [lI], res := [(false, 2, none)], body := (.seq (.region [] [oq 2 (.mov (.c lI [.int 0]))] false 0)
 (.seq (.seq (.region [] [oq 3 (.mov (.t 0)),
 oq 4 (.icmp .lss (.t 3) (.c lI [.int 0]))] false 0)
 (.cond (.t 4) (.seq (.region [] [oq 5 (.mov (.t 0)),
 oq 6 (.ibin .and (.t 5) (.c lI [.int 9223372036854775807])),
 oq 7 (.ibin .sub (.c lI [.int (-1)]) (.t 6)),
 oq 2 (.mov (.t 7))] false 0)
 .ret)
 .skip))
 (.seq (.region [] [oq 8 (.mov (.t 0)),
 oq 2 (.mov (.t 8))] false 0)
 .ret))) }
noncomputable def value_order (E : Env) (p0 : Int) : Option (List Row) :=
 if (decide (p0 < 0)) = true then
 some [[.int (Go.IntKind.i64.wrap ((-1) - (bitsOf .and .i64 p0 9223372036854775807)))]]
 else
 some [[.int p0]]
theorem value_order_eq (E : Env) (p0 : Int) : runP E value_order_a [[.int p0]] = value_order E p0 := by kernel_rfl

def cmp_Or_int_h0 : Shape := { slots := [(3, .d lI), (6, .d (.one (.sl 3))), (7, .d lI), (8, .d lI)], objs := [] }
def cmp_Or_int_o0 : List (Exit' × Shape) := [(.exit 0, { slots := [(3, .d lI)], objs := [] }), (.ret, { slots := [(2, .d lI)], objs := [] })]
def cmp_Or_int_c0 : ACode := (.seq (.region [] [oq 9 (.icmp .lss (.t 8) (.t 7))] false 0)
 (.seq (.cond (.t 9) .skip
 (.exit 0))
 (.seq (.block 1 (.seq (.region [] [oq 10 (.iad 3 lI (.t 6) (.t 8)),
 oq 11 (.ld lI 3 (.t 10)),
 oq 5 (.mov (.t 11))] false 0)
 (.seq (.region [] [oq 12 (.mov (.t 5)),
 oq 13 (.mov (.t 3)),
 oq 14 (.icmp .neq (.t 12) (.t 13))] false 0)
 (.cond (.t 14) (.seq (.region [] [oq 15 (.mov (.t 5)),
 oq 2 (.mov (.t 15))] false 0)
 .ret)
 .skip))))
 (.region [] [oq 16 (.ibin .add (.t 8) (.c lI [.int 1])),
 oq 8 (.mov (.t 16))] false 0))))
noncomputable def cmp_Or_int_l0 (E : Env) (v0 : Int) (v1 : C) (v2 : Int) (v3 : Int) : Option (Nat × List PV) := E.fix (stepOf E cmp_Or_int_c0 cmp_Or_int_h0 cmp_Or_int_o0) [.r [.int v0], .r [v1], .r [.int v2], .r [.int v3]]
noncomputable def cmp_Or_int_b0 (E : Env) (X : Int → C → Int → Int → Option (Nat × List PV)) (v0 : Int) (v1 : C) (v2 : Int) (v3 : Int) : Option (Nat × List PV) :=
 if (decide (v3 < v2)) = true then
 if (0 : Int) ≤ v3 ∧ v3 < (v1.rows.length : Int) then
 if (((at_ (rowsAt v1.rows v3.toNat) 0).toI) != v0) = true then
 some (1, [.r [.int ((at_ (rowsAt v1.rows v3.toNat) 0).toI)]])
 else
 X v0 v1 v2 (Go.IntKind.i64.wrap (v3 + 1))
 else none
 else
 some (0, [.r [.int v0]])
theorem cmp_Or_int_s0 (E : Env) (X : List PV → Option (Nat × List PV)) (v0 : Int) (v1 : C) (v2 : Int) (v3 : Int) : stepOf E cmp_Or_int_c0 cmp_Or_int_h0 cmp_Or_int_o0 X [.r [.int v0], .r [v1], .r [.int v2], .r [.int v3]] = cmp_Or_int_b0 E (fun (v0 : Int) (v1 : C) (v2 : Int) (v3 : Int) => X [.r [.int v0], .r [v1], .r [.int v2], .r [.int v3]]) v0 v1 v2 v3 := by kernel_rfl
def cmp_Or_int_a : AFun := { ps := [(.one (.sl 3))], rs := [lI], res := [(false, 2, none)], body := (.seq (.region [] [oq 2 (.mov (.c lI [.int 0]))] false 0)
 (.seq (.region [] [oq 3 (.mov (.c lI [.int 0]))] false 0)
 (.seq (.seq (.region [] [oq 6 (.mov (.t 0)),
 oq 7 (.lenL (.t 6)),
 oq 8 (.mov (.c lI [.int 0]))] false 0)
 (.block 0 (.loop cmp_Or_int_h0 cmp_Or_int_o0 cmp_Or_int_c0)))
 (.seq (.region [] [oq 17 (.mov (.t 3)),
 oq 2 (.mov (.t 17))] false 0)
 .ret)))) }
noncomputable def cmp_Or_int (E : Env) (p0 : C) : Option (List Row) :=
 (cmp_Or_int_l0 E 0 p0 (p0.rows.length : Int) 0).bind fun x1 =>
 match x1.1 with
 | 0 =>
 some [[.int (gI 0 x1.2)]]
 | i2 + 1 =>
 some [[.int (gI 0 x1.2)]]
theorem cmp_Or_int_eq (E : Env) (p0 : C) : runP E cmp_Or_int_a [[p0]] = cmp_Or_int E p0 := by kernel_rfl

def cmp_isNaN_int_a : AFun := { ps := [lI], rs := [lB], res := [(false, 2, none)], body := (.seq (.region [] [oq 2 (.mov (.c lB [.bool false]))] false 0)
 (.seq (.region [] [oq 3 (.mov (.t 0)),
 oq 4 (.mov (.t 0)),
 oq 5 (.icmp .neq (.t 3) (.t 4)),
 oq 2 (.mov (.t 5))] false 0)
 .ret)) }
noncomputable def cmp_isNaN_int (E : Env) (p0 : Int) : Option (List Row) :=
 some [[.bool (p0 != p0)]]
theorem cmp_isNaN_int_eq (E : Env) (p0 : Int) : runP E cmp_isNaN_int_a [[.int p0]] = cmp_isNaN_int E p0 := by kernel_rfl

def cmp_Compare_int_a : AFun := { ps := [lI, lI], rs := [lI], res := [(false, 4, none)], body := (.seq (.region [] [oq 4 (.mov (.c lI [.int 0]))] false 0)
 (.seq (.region [] [oq 7 (.mov (.t 0)),
 oq 8 (.call 33 [lI] [lB] [(.t 7)]),
 oq 5 (.mov (.t 8))] false 0)
 (.seq (.region [] [oq 9 (.mov (.t 1)),
 oq 10 (.call 33 [lI] [lB] [(.t 9)]),
 oq 6 (.mov (.t 10))] false 0)
 (.seq (.seq (.region [] [oq 11 (.mov (.t 5))] false 0)
 (.cond (.t 11) (.seq (.seq (.region [] [oq 12 (.mov (.t 6))] false 0)
 (.cond (.t 12) (.seq (.region [] [oq 4 (.mov (.c lI [.int 0]))] false 0)
 .ret)
 .skip))
 (.seq (.region [] [oq 4 (.mov (.c lI [.int (-1)]))] false 0)
 .ret))
 .skip))
 (.seq (.seq (.region [] [oq 13 (.mov (.t 6))] false 0)
 (.cond (.t 13) (.seq (.region [] [oq 4 (.mov (.c lI [.int 1]))] false 0)
 .ret)
 .skip))
 (.seq (.seq (.region [] [oq 14 (.mov (.t 0)),
 oq 15 (.mov (.t 1)),
 oq 16 (.icmp .lss (.t 14) (.t 15))] false 0)
 (.cond (.t 16) (.seq (.region [] [oq 4 (.mov (.c lI [.int (-1)]))] false 0)
 .ret)
 .skip))
 (.seq (.seq (.region [] [oq 17 (.mov (.t 0)),
 oq 18 (.mov (.t 1)),
 oq 19 (.icmp .gtr (.t 17) (.t 18))] false 0)
 (.cond (.t 19) (.seq (.region [] [oq 4 (.mov (.c lI [.int 1]))] false 0)
 .ret)
 .skip))
 (.seq (.region [] [oq 4 (.mov (.c lI [.int 0]))] false 0)
 .ret)))))))) }
noncomputable def cmp_Compare_int (E : Env) (p0 : Int) (p1 : Int) : Option (List Row) :=
 (E.pc n_cmp_isNaN_int [[.int p0]]).bind fun y1 =>
 (E.pc n_cmp_isNaN_int [[.int p1]]).bind fun y2 =>
 if ((at_ (rowsAt y1 0) 0).toB) = true then
 if ((at_ (rowsAt y2 0) 0).toB) = true then
 some [[.int 0]]
 else
 some [[.int (-1)]]
 else
 if ((at_ (rowsAt y2 0) 0).toB) = true then
 some [[.int 1]]
 else
 if (decide (p0 < p1)) = true then
 some [[.int (-1)]]
 else
 if (decide (p0 > p1)) = true then
 some [[.int 1]]
 else
 some [[.int 0]]
theorem cmp_Compare_int_eq (E : Env) (p0 : Int) (p1 : Int) : runP E cmp_Compare_int_a [[.int p0], [.int p1]] = cmp_Compare_int E p0 p1 := by kernel_rfl

def internal_bytealg_CompareString_a : AFun := { ps := [lS, lS], rs := [lI], res := [(false, 4, none)], body := (.seq (.region [] [oq 4 (.mov (.c lI [.int 0]))] false 0)
 (.seq (.region [] [oq 5 (.mov (.t 0)),
 oq 6 (.mov (.t 1)),
 oq 7 (.cmpS 38 (.t 5) (.t 6)),
 oq 4 (.mov (.t 7))] false 0)
 .ret)) }
noncomputable def internal_bytealg_CompareString (E : Env) (p0 : List UInt8) (p1 : List UInt8) : Option (List Row) :=
 some [[.int (cmpBytes p0 p1)]]
theorem internal_bytealg_CompareString_eq (E : Env) (p0 : List UInt8) (p1 : List UInt8) : runP E internal_bytealg_CompareString_a [[.str p0], [.str p1]] = internal_bytealg_CompareString E p0 p1 := by kernel_rfl

def strings_Compare_a : AFun := { ps := [lS, lS], rs := [lI], res := [(false, 4, none)], body := (.seq (.region [] [oq 4 (.mov (.c lI [.int 0]))] false 0)
 (.seq (.region [] [oq 5 (.mov (.t 0)),
 oq 6 (.mov (.t 1)),
 oq 7 (.call 34 [lS, lS] [lI] [(.t 5), (.t 6)]),
 oq 4 (.mov (.t 7))] false 0)
 .ret)) }
noncomputable def strings_Compare (E : Env) (p0 : List UInt8) (p1 : List UInt8) : Option (List Row) :=
 (E.pc n_internal_bytealg_CompareString [[.str p0], [.str p1]]).bind fun y1 =>
 some [[.int ((at_ (rowsAt y1 0) 0).toI)]]
theorem strings_Compare_eq (E : Env) (p0 : List UInt8) (p1 : List UInt8) : runP E strings_Compare_a [[.str p0], [.str p1]] = strings_Compare E p0 p1 := by kernel_rfl

def slices_CompareFunc_api_Field_h0 : Shape := { slots := [(0, .d (.one (.sl 46))), (1, .d (.one (.sl 46))), (2, .d (.one (.fn 59))), (11, .d (.one (.sl 46))), (12, .d lI), (13, .d lI)], objs := [] }
def slices_CompareFunc_api_Field_o0 : List (Exit' × Shape) := [(.exit 0, { slots := [(0, .d (.one (.sl 46))), (1, .d (.one (.sl 46)))], objs := [] }), (.ret, { slots := [(6, .d lI)], objs := [] })]
def slices_CompareFunc_api_Field_c0 : ACode := (.seq (.region [] [oq 14 (.icmp .lss (.t 13) (.t 12))] false 0)
 (.seq (.cond (.t 14) .skip
 (.exit 0))
 (.seq (.block 1 (.seq (.region [] [oq 15 (.mov (.t 13)),
 oq 16 (.iad 46 lA0 (.t 11) (.t 13)),
 oq 17 (.ld lA0 46 (.t 16)),
 oq 8 (.allocO 0 lA0 [.str [], .int 0, .int 0, .str [], .nils]),
 oq 7 (.mov (.t 15)),
 ⟨none, .st lA0 (.t 8) (.t 17), none, []⟩] false 1)
 (.seq (.seq (.region [] [oq 18 (.mov (.t 7)),
 oq 19 (.mov (.t 1)),
 oq 20 (.lenL (.t 19)),
 oq 21 (.icmp .geq (.t 18) (.t 20))] false 0)
 (.cond (.t 21) (.seq (.region [] [oq 6 (.mov (.c lI [.int 1]))] false 0)
 .ret)
 .skip))
 (.seq (.region [] [oq 22 (.mov (.t 1)),
 oq 23 (.mov (.t 7)),
 oq 24 (.iad 46 lA0 (.t 22) (.t 23)),
 oq 25 (.ld lA0 46 (.t 24)),
 oq 9 (.allocO 0 lA0 [.str [], .int 0, .int 0, .str [], .nils]),
 ⟨none, .st lA0 (.t 9) (.t 25), none, []⟩] false 1)
 (.seq (.region [] [oq 26 (.mov (.t 2)),
 oq 27 (.ld lA0 46 (.t 8)),
 oq 28 (.ld lA0 46 (.t 9)),
 oq 29 (.callv 59 [lA0, lA0] [lI] (.t 26) [(.t 27), (.t 28)]),
 oq 10 (.mov (.t 29))] false 0)
 (.seq (.region [] [oq 30 (.mov (.t 10)),
 oq 31 (.icmp .neq (.t 30) (.c lI [.int 0]))] false 0)
 (.cond (.t 31) (.seq (.region [] [oq 32 (.mov (.t 10)),
 oq 6 (.mov (.t 32))] false 0)
 .ret)
 .skip)))))))
 (.region [] [oq 33 (.ibin .add (.t 13) (.c lI [.int 1])),
 oq 13 (.mov (.t 33))] false 0))))
noncomputable def slices_CompareFunc_api_Field_l0 (E : Env) (v0 : C) (v1 : C) (v2 : C) (v3 : C) (v4 : Int) (v5 : Int) : Option (Nat × List PV) := E.fix (stepOf E slices_CompareFunc_api_Field_c0 slices_CompareFunc_api_Field_h0 slices_CompareFunc_api_Field_o0) [.r [v0], .r [v1], .r [v2], .r [v3], .r [.int v4], .r [.int v5]]
noncomputable def slices_CompareFunc_api_Field_b0 (E : Env) (X : C → C → C → C → Int → Int → Option (Nat × List PV)) (v0 : C) (v1 : C) (v2 : C) (v3 : C) (v4 : Int) (v5 : Int) : Option (Nat × List PV) :=
 if (decide (v5 < v4)) = true then
 if (0 : Int) ≤ v5 ∧ v5 < (v3.rows.length : Int) then
 if (decide (v5 ≥ (v1.rows.length : Int))) = true then
 some (1, [.r [.int 1]])
 else
 if (0 : Int) ≤ v5 ∧ v5 < (v1.rows.length : Int) then
 (callC E v2 [rowsAt v3.rows v5.toNat, rowsAt v1.rows v5.toNat]).bind fun y1 =>
 if (((at_ (rowsAt y1 0) 0).toI) != 0) = true then
 some (1, [.r [.int ((at_ (rowsAt y1 0) 0).toI)]])
 else
 X v0 v1 v2 v3 v4 (Go.IntKind.i64.wrap (v5 + 1))
 else none
 else none
 else
 some (0, [.r [v0], .r [v1]])
theorem slices_CompareFunc_api_Field_s0 (E : Env) (X : List PV → Option (Nat × List PV)) (v0 : C) (v1 : C) (v2 : C) (v3 : C) (v4 : Int) (v5 : Int) : stepOf E slices_CompareFunc_api_Field_c0 slices_CompareFunc_api_Field_h0 slices_CompareFunc_api_Field_o0 X [.r [v0], .r [v1], .r [v2], .r [v3], .r [.int v4], .r [.int v5]] = slices_CompareFunc_api_Field_b0 E (fun (v0 : C) (v1 : C) (v2 : C) (v3 : C) (v4 : Int) (v5 : Int) => X [.r [v0], .r [v1], .r [v2], .r [v3], .r [.int v4], .r [.int v5]]) v0 v1 v2 v3 v4 v5 := by kernel_rfl
def slices_CompareFunc_api_Field_a : AFun := { ps := [(.one (.sl 46)), (.one (.sl 46)), (.one (.fn 59))], rs := [lI], res := [(false, 6, none)], body := (.seq (.region [] [oq 6 (.mov (.c lI [.int 0]))] false 0)
 (.seq (.seq (.region [] [oq 11 (.mov (.t 0)),
 oq 12 (.lenL (.t 11)),
 oq 13 (.mov (.c lI [.int 0]))] false 0)
 (.block 0 (.loop slices_CompareFunc_api_Field_h0 slices_CompareFunc_api_Field_o0 slices_CompareFunc_api_Field_c0)))
 (.seq (.seq (.region [] [oq 34 (.mov (.t 0)),
 oq 35 (.lenL (.t 34)),
 oq 36 (.mov (.t 1)),
 oq 37 (.lenL (.t 36)),
 oq 38 (.icmp .lss (.t 35) (.t 37))] false 0)
 (.cond (.t 38) (.seq (.region [] [oq 6 (.mov (.c lI [.int (-1)]))] false 0)
 .ret)
 .skip))
 (.seq (.region [] [oq 6 (.mov (.c lI [.int 0]))] false 0)
 .ret)))) }
noncomputable def slices_CompareFunc_api_Field (E : Env) (p0 : C) (p1 : C) (p2 : C) : Option (List Row) :=
 (slices_CompareFunc_api_Field_l0 E p0 p1 p2 p0 (p0.rows.length : Int) 0).bind fun x2 =>
 match x2.1 with
 | 0 =>
 if (decide ((((gC 0 x2.2).rows).length : Int) < (((gC 1 x2.2).rows).length : Int))) = true then
 some [[.int (-1)]]
 else
 some [[.int 0]]
 | i3 + 1 =>
 some [[.int (gI 0 x2.2)]]
theorem slices_CompareFunc_api_Field_eq (E : Env) (p0 : C) (p1 : C) (p2 : C) : runP E slices_CompareFunc_api_Field_a [[p0], [p1], [p2]] = slices_CompareFunc_api_Field E p0 p1 p2 := by kernel_rfl

def value_Cmp_1_a : AFun := { ps := [lA0, lA0], rs := [lI], res := [(false, 4, none)], body := (.seq (.region [] [oq 2 (.boxP lA0 46 (.t 0)),
 oq 3 (.boxP lA0 46 (.t 1)),
 oq 4 (.mov (.c lI [.int 0]))] false 0)
 (.seq (.region [] [oq 5 (.fad 0 1 46 9 (.t 2)),
 ⟨some 6, .ld lS 9 (.t 5), none, [0]⟩,
 oq 7 (.fad 0 1 46 9 (.t 3)),
 ⟨some 8, .ld lS 9 (.t 7), none, [2]⟩,
 ⟨some 9, .call 27 [lS, lS] [lI] [(.t 6), (.t 8)], none, [0, 1, 2, 3]⟩,
 oq 10 (.fad 1 4 46 24 (.t 2)),
 ⟨some 11, .ld lA1 24 (.t 10), none, [5]⟩,
 oq 12 (.fad 1 4 46 24 (.t 3)),
 ⟨some 13, .ld lA1 24 (.t 12), none, [7]⟩,
 ⟨some 14, .call 20 [lA1, lA1] [lI] [(.t 11), (.t 13)], none, [0, 1, 2, 3, 4, 5, 6, 7, 8]⟩,
 ⟨some 15, .bsl 3 lI 2 [.int 0] [(0, (.t 9)), (1, (.t 14))], none, [0, 1, 2, 3, 4, 5, 6, 7, 8, 9]⟩,
 ⟨some 16, .call 25 [(.one (.sl 3))] [lI] [(.t 15)], none, [0, 1, 2, 3, 4, 5, 6, 7, 8, 9, 10]⟩,
 ⟨some 4, .mov (.t 16), none, [0, 1, 2, 3, 4, 5, 6, 7, 8, 9, 10, 11]⟩] true 0)
 .ret)) }
noncomputable def value_Cmp_1 (E : Env) (p0 : Row) (p1 : Row) : Option (List Row) :=
 (E.pc n_strings_Compare [[.str ((at_ p0 0).toS)], [.str ((at_ p1 0).toS)]]).bind fun y1 =>
 (E.pc n_value_Cmp [[at_ p0 1, at_ p0 2, at_ p0 3, at_ p0 4], [at_ p1 1, at_ p1 2, at_ p1 3, at_ p1 4]]).bind fun y2 =>
 (E.pc n_cmp_Or_int [[.sl ([[.int ((at_ (rowsAt y1 0) 0).toI)], [.int ((at_ (rowsAt y2 0) 0).toI)]] : List Row)]]).bind fun y3 =>
 some [[.int ((at_ (rowsAt y3 0) 0).toI)]]
theorem value_Cmp_1_eq (E : Env) (p0 : Row) (p1 : Row) : runP E value_Cmp_1_a [p0, p1] = value_Cmp_1 E p0 p1 := by kernel_rfl

def value_Cmp_a : AFun := { ps := [lA1, lA1], rs := [lI], res := [(false, 4, none)], body := (.seq (.region [] [oq 2 (.boxP lA1 24 (.t 0)),
 oq 3 (.boxP lA1 24 (.t 1)),
 oq 4 (.mov (.c lI [.int 0]))] false 0)
 (.seq (.region [] [oq 8 (.fad 1 1 24 3 (.t 2)),
 ⟨some 9, .ld lI 3 (.t 8), none, [0]⟩,
 oq 10 (.fad 1 1 24 3 (.t 3)),
 ⟨some 11, .ld lI 3 (.t 10), none, [2]⟩,
 ⟨some 5, .mov (.t 9), none, [0, 1]⟩,
 ⟨some 6, .mov (.t 11), none, [0, 1, 2, 3, 4]⟩] true 0)
 (.seq (.seq (.region [] [oq 12 (.fad 0 1 24 3 (.t 2)),
 oq 13 (.ld lI 3 (.t 12)),
 oq 14 (.icmp .eql (.t 13) (.c lI [.int 3]))] false 0)
 (.join [(.normal, { slots := [(2, .d (.one (.ref 24))), (3, .d (.one (.ref 24))), (5, .d lI), (6, .d lI)], objs := [] })] (.cond (.t 14) (.region [] [oq 15 (.mov (.t 5)),
 oq 16 (.call 24 [lI] [lI] [(.t 15)]),
 oq 17 (.mov (.t 6)),
 oq 18 (.call 24 [lI] [lI] [(.t 17)]),
 oq 5 (.mov (.t 16)),
 oq 6 (.mov (.t 18))] false 0)
 .skip)))
 (.seq (.region [] [oq 19 (.fad 0 1 24 3 (.t 2)),
 ⟨some 20, .ld lI 3 (.t 19), none, [0]⟩,
 oq 21 (.fad 0 1 24 3 (.t 3)),
 ⟨some 22, .ld lI 3 (.t 21), none, [2]⟩,
 ⟨some 23, .call 26 [lI, lI] [lI] [(.t 20), (.t 22)], none, [0, 1, 2, 3]⟩,
 oq 24 (.mov (.t 5)),
 oq 25 (.mov (.t 6)),
 ⟨some 26, .call 26 [lI, lI] [lI] [(.t 24), (.t 25)], none, [0, 1, 2, 3, 4, 5, 6]⟩,
 oq 27 (.fad 2 1 24 9 (.t 2)),
 ⟨some 28, .ld lS 9 (.t 27), none, [8]⟩,
 oq 29 (.fad 2 1 24 9 (.t 3)),
 ⟨some 30, .ld lS 9 (.t 29), none, [10]⟩,
 ⟨some 31, .call 27 [lS, lS] [lI] [(.t 28), (.t 30)], none, [0, 1, 2, 3, 4, 5, 6, 7, 8, 9, 10, 11]⟩,
 ⟨some 32, .bsl 3 lI 3 [.int 0] [(0, (.t 23)), (1, (.t 26)), (2, (.t 31))], none, [0, 1, 2, 3, 4, 5, 6, 7, 8, 9, 10, 11, 12]⟩,
 ⟨some 33, .call 25 [(.one (.sl 3))] [lI] [(.t 32)], none, [0, 1, 2, 3, 4, 5, 6, 7, 8, 9, 10, 11, 12, 13]⟩,
 ⟨some 7, .mov (.t 33), none, [0, 1, 2, 3, 4, 5, 6, 7, 8, 9, 10, 11, 12, 13, 14]⟩] true 0)
 (.seq (.seq (.region [] [oq 34 (.mov (.t 7)),
 oq 35 (.icmp .neq (.t 34) (.c lI [.int 0]))] false 0)
 (.cond (.t 35) (.seq (.region [] [oq 36 (.mov (.t 7)),
 oq 4 (.mov (.t 36))] false 0)
 .ret)
 .skip))
 (.seq (.region [] [oq 37 (.fad 3 1 24 22 (.t 2)),
 oq 38 (.ld (.one (.sl 46)) 22 (.t 37)),
 oq 39 (.fad 3 1 24 22 (.t 3)),
 oq 40 (.ld (.one (.sl 46)) 22 (.t 39)),
 oq 41 (.call 28 [(.one (.sl 46)), (.one (.sl 46)), (.one (.fn 59))] [lI] [(.t 38), (.t 40), (.c (.one (.fn 59)) [.fn n_value_Cmp_1 []])]),
 oq 4 (.mov (.t 41))] false 0)
 .ret)))))) }
noncomputable def value_Cmp (E : Env) (p0 : Row) (p1 : Row) : Option (List Row) :=
 (if (((at_ p0 0).toI) == 3) = true then
 (E.pc n_value_order [[.int ((at_ p0 1).toI)]]).bind fun y1 =>
 (E.pc n_value_order [[.int ((at_ p1 1).toI)]]).bind fun y2 =>
 some (0, [.r [.dp p0], .r [.dp p1], .r [.int ((at_ (rowsAt y1 0) 0).toI)], .r [.int ((at_ (rowsAt y2 0) 0).toI)]])
 else
 some (0, [.r [.dp p0], .r [.dp p1], .r [.int ((at_ p0 1).toI)], .r [.int ((at_ p1 1).toI)]])).bind fun x3 =>
 if (gC 0 x3.2).isDp = true then
 if (gC 1 x3.2).isDp = true then
 (E.pc n_cmp_Compare_int [[.int ((at_ ((gC 0 x3.2).dpRow) 0).toI)], [.int ((at_ ((gC 1 x3.2).dpRow) 0).toI)]]).bind fun y4 =>
 (E.pc n_cmp_Compare_int [[.int (gI 2 x3.2)], [.int (gI 3 x3.2)]]).bind fun y5 =>
 if (gC 0 x3.2).isDp = true then
 if (gC 1 x3.2).isDp = true then
 (E.pc n_strings_Compare [[.str ((at_ ((gC 0 x3.2).dpRow) 2).toS)], [.str ((at_ ((gC 1 x3.2).dpRow) 2).toS)]]).bind fun y6 =>
 (E.pc n_cmp_Or_int [[.sl ([[.int ((at_ (rowsAt y4 0) 0).toI)], [.int ((at_ (rowsAt y5 0) 0).toI)], [.int ((at_ (rowsAt y6 0) 0).toI)]] : List Row)]]).bind fun y7 =>
 if (((at_ (rowsAt y7 0) 0).toI) != 0) = true then
 some [[.int ((at_ (rowsAt y7 0) 0).toI)]]
 else
 if (gC 0 x3.2).isDp = true then
 if (gC 1 x3.2).isDp = true then
 (E.pc n_slices_CompareFunc_api_Field [[at_ ((gC 0 x3.2).dpRow) 3], [at_ ((gC 1 x3.2).dpRow) 3], [.fn n_value_Cmp_1 []]]).bind fun y8 =>
 some [[.int ((at_ (rowsAt y8 0) 0).toI)]]
 else none
 else none
 else none
 else none
 else none
 else none
theorem value_Cmp_eq (E : Env) (p0 : Row) (p1 : Row) : runP E value_Cmp_a [p0, p1] = value_Cmp E p0 p1 := by kernel_rfl

def value_Same_a : AFun := { ps := [lA1, lA1], rs := [lB], res := [(false, 4, none)], body := (.seq (.region [] [oq 2 (.boxP lA1 24 (.t 0)),
 oq 3 (.boxP lA1 24 (.t 1)),
 oq 4 (.mov (.c lB [.bool false]))] false 0)
 (.seq (.region [] [oq 5 (.ld lA1 24 (.t 2)),
 oq 6 (.ld lA1 24 (.t 3)),
 oq 7 (.call 20 [lA1, lA1] [lI] [(.t 5), (.t 6)]),
 oq 8 (.icmp .eql (.t 7) (.c lI [.int 0])),
 oq 4 (.mov (.t 8))] false 0)
 .ret)) }
noncomputable def value_Same (E : Env) (p0 : Row) (p1 : Row) : Option (List Row) :=
 (E.pc n_value_Cmp [p0, p1]).bind fun y1 =>
 some [[.bool (((at_ (rowsAt y1 0) 0).toI) == 0)]]
theorem value_Same_eq (E : Env) (p0 : Row) (p1 : Row) : runP E value_Same_a [p0, p1] = value_Same E p0 p1 := by kernel_rfl

def align_Cost_h0 : Shape := { slots := [(3, .d (.one (.ref 24))), (5, .d lI), (29, .d (.one (.sl 46))), (30, .d lI), (31, .d lI)], objs := [] }
def align_Cost_o0 : List (Exit' × Shape) := [(.exit 0, { slots := [(5, .d lI)], objs := [] }), (.ret, { slots := [(4, .d lI)], objs := [] })]
def align_Cost_c0 : ACode := (.seq (.region [] [oq 32 (.icmp .lss (.t 31) (.t 30))] false 0)
 (.seq (.cond (.t 32) .skip
 (.exit 0))
 (.seq (.block 1 (.seq (.region [] [oq 33 (.mov (.t 31)),
 oq 34 (.iad 46 lA0 (.t 29) (.t 31)),
 oq 35 (.ld lA0 46 (.t 34)),
 oq 7 (.allocO 0 lA0 [.str [], .int 0, .int 0, .str [], .nils]),
 oq 6 (.mov (.t 33)),
 ⟨none, .st lA0 (.t 7) (.t 35), none, []⟩] false 1)
 (.seq (.seq (.region [] [oq 36 (.fad 0 1 46 9 (.t 7)),
 ⟨some 37, .ld lS 9 (.t 36), none, [0]⟩,
 oq 38 (.fad 3 1 24 22 (.t 3)),
 ⟨some 39, .ld (.one (.sl 46)) 22 (.t 38), none, [2]⟩,
 oq 40 (.mov (.t 6)),
 ⟨some 41, .iad 46 lA0 (.t 39) (.t 40), none, [2, 3, 4]⟩,
 ⟨some 42, .fad 0 1 46 9 (.t 41), none, [2, 3, 4, 5]⟩,
 ⟨some 43, .ld lS 9 (.t 42), none, [2, 3, 4, 5, 6]⟩,
 ⟨some 44, .scmp .neq (.t 37) (.t 43), none, [0, 1, 2, 3, 4, 5, 6, 7]⟩] true 0)
 (.cond (.t 44) (.seq (.region [] [oq 4 (.mov (.c lI [.int 3]))] false 0)
 .ret)
 .skip))
 (.seq (.region [] [oq 45 (.fad 1 4 46 24 (.t 7)),
 ⟨some 46, .ld lA1 24 (.t 45), none, [0]⟩,
 oq 47 (.fad 3 1 24 22 (.t 3)),
 ⟨some 48, .ld (.one (.sl 46)) 22 (.t 47), none, [2]⟩,
 oq 49 (.mov (.t 6)),
 ⟨some 50, .iad 46 lA0 (.t 48) (.t 49), none, [2, 3, 4]⟩,
 ⟨some 51, .fad 1 4 46 24 (.t 50), none, [2, 3, 4, 5]⟩,
 ⟨some 52, .ld lA1 24 (.t 51), none, [2, 3, 4, 5, 6]⟩,
 ⟨some 53, .call 16 [lA1, lA1] [lB] [(.t 46), (.t 52)], none, [0, 1, 2, 3, 4, 5, 6, 7]⟩,
 ⟨some 54, .not (.t 53), none, [0, 1, 2, 3, 4, 5, 6, 7, 8]⟩] true 0)
 (.cond (.t 54) (.region [] [oq 55 (.mov (.t 5)),
 oq 56 (.ibin .add (.t 55) (.c lI [.int 1])),
 oq 5 (.mov (.t 56))] false 0)
 .skip)))))
 (.region [] [oq 57 (.ibin .add (.t 31) (.c lI [.int 1])),
 oq 31 (.mov (.t 57))] false 0))))
noncomputable def align_Cost_l0 (E : Env) (v0 : C) (v1 : Int) (v2 : C) (v3 : Int) (v4 : Int) : Option (Nat × List PV) := E.fix (stepOf E align_Cost_c0 align_Cost_h0 align_Cost_o0) [.r [v0], .r [.int v1], .r [v2], .r [.int v3], .r [.int v4]]
noncomputable def align_Cost_b0 (E : Env) (X : C → Int → C → Int → Int → Option (Nat × List PV)) (v0 : C) (v1 : Int) (v2 : C) (v3 : Int) (v4 : Int) : Option (Nat × List PV) :=
 if (decide (v4 < v3)) = true then
 if (0 : Int) ≤ v4 ∧ v4 < (v2.rows.length : Int) then
 if v0.isDp = true then
 if (0 : Int) ≤ v4 ∧ v4 < (((at_ v0.dpRow 3).rows).length : Int) then
 if (!(((at_ (rowsAt v2.rows v4.toNat) 0).toS) == ((at_ (rowsAt ((at_ v0.dpRow 3).rows) v4.toNat) 0).toS))) = true then
 some (1, [.r [.int 3]])
 else
 if v0.isDp = true then
 if (0 : Int) ≤ v4 ∧ v4 < (((at_ v0.dpRow 3).rows).length : Int) then
 (E.pc n_value_Same [[at_ (rowsAt v2.rows v4.toNat) 1, at_ (rowsAt v2.rows v4.toNat) 2, at_ (rowsAt v2.rows v4.toNat) 3, at_ (rowsAt v2.rows v4.toNat) 4], [at_ (rowsAt ((at_ v0.dpRow 3).rows) v4.toNat) 1, at_ (rowsAt ((at_ v0.dpRow 3).rows) v4.toNat) 2, at_ (rowsAt ((at_ v0.dpRow 3).rows) v4.toNat) 3, at_ (rowsAt ((at_ v0.dpRow 3).rows) v4.toNat) 4]]).bind fun y7 =>
 if (!((at_ (rowsAt y7 0) 0).toB)) = true then
 X v0 (Go.IntKind.i64.wrap (v1 + 1)) v2 v3 (Go.IntKind.i64.wrap (v4 + 1))
 else
 X v0 v1 v2 v3 (Go.IntKind.i64.wrap (v4 + 1))
 else none
 else none
 else none
 else none
 else none
 else
 some (0, [.r [.int v1]])
theorem align_Cost_s0 (E : Env) (X : List PV → Option (Nat × List PV)) (v0 : C) (v1 : Int) (v2 : C) (v3 : Int) (v4 : Int) : stepOf E align_Cost_c0 align_Cost_h0 align_Cost_o0 X [.r [v0], .r [.int v1], .r [v2], .r [.int v3], .r [.int v4]] = align_Cost_b0 E (fun (v0 : C) (v1 : Int) (v2 : C) (v3 : Int) (v4 : Int) => X [.r [v0], .r [.int v1], .r [v2], .r [.int v3], .r [.int v4]]) v0 v1 v2 v3 v4 := by kernel_rfl
def align_Cost_a : AFun := { ps := [lA1, lA1], rs := [lI], res := [(false, 4, none)], body := (.seq (.region [] [oq 2 (.boxP lA1 24 (.t 0)),
 oq 3 (.boxP lA1 24 (.t 1)),
 oq 4 (.mov (.c lI [.int 0]))] false 0)
 (.seq (.seq (.region [] [oq 8 (.ld lA1 24 (.t 2)),
 oq 9 (.ld lA1 24 (.t 3)),
 oq 10 (.call 16 [lA1, lA1] [lB] [(.t 8), (.t 9)])] false 0)
 (.cond (.t 10) (.seq (.region [] [oq 4 (.mov (.c lI [.int 0]))] false 0)
 .ret)
 .skip))
 (.seq (.seq (.join [(.normal, { slots := [(2, .d (.one (.ref 24))), (3, .d (.one (.ref 24))), (27, .d lB)], objs := [] })] (.region [] [oq 11 (.fad 0 1 24 3 (.t 2)),
 oq 12 (.ld lI 3 (.t 11)),
 oq 13 (.icmp .neq (.t 12) (.c lI [.int 6])),
 oq 14 (.mov (.t 13)),
 ⟨some 15, .fad 0 1 24 3 (.t 3), some (14, false), []⟩,
 ⟨some 16, .ld lI 3 (.t 15), some (14, false), []⟩,
 ⟨some 17, .icmp .neq (.t 16) (.c lI [.int 6]), some (14, false), []⟩,
 oq 18 (.pick (.t 14) (.c lB [.bool true]) (.t 17)),
 oq 19 (.mov (.t 18)),
 ⟨some 20, .fad 3 1 24 22 (.t 2), some (19, false), []⟩,
 ⟨some 21, .ld (.one (.sl 46)) 22 (.t 20), some (19, false), []⟩,
 ⟨some 22, .lenL (.t 21), some (19, false), []⟩,
 ⟨some 23, .fad 3 1 24 22 (.t 3), some (19, false), []⟩,
 ⟨some 24, .ld (.one (.sl 46)) 22 (.t 23), some (19, false), []⟩,
 ⟨some 25, .lenL (.t 24), some (19, false), []⟩,
 ⟨some 26, .icmp .neq (.t 22) (.t 25), some (19, false), []⟩,
 oq 27 (.pick (.t 19) (.c lB [.bool true]) (.t 26))] false 0))
 (.cond (.t 27) (.seq (.region [] [oq 4 (.mov (.c lI [.int 3]))] false 0)
 .ret)
 .skip))
 (.seq (.region [] [oq 5 (.mov (.c lI [.int 0]))] false 0)
 (.seq (.seq (.region [] [oq 28 (.fad 3 1 24 22 (.t 2)),
 oq 29 (.ld (.one (.sl 46)) 22 (.t 28)),
 oq 30 (.lenL (.t 29)),
 oq 31 (.mov (.c lI [.int 0]))] false 0)
 (.block 0 (.loop align_Cost_h0 align_Cost_o0 align_Cost_c0)))
 (.seq (.region [] [oq 58 (.mov (.t 5)),
 oq 59 (.imin false [(.t 58), (.c lI [.int 3])]),
 oq 4 (.mov (.t 59))] false 0)
 .ret)))))) }
noncomputable def align_Cost (E : Env) (p0 : Row) (p1 : Row) : Option (List Row) :=
 (E.pc n_value_Same [p0, p1]).bind fun y1 =>
 if ((at_ (rowsAt y1 0) 0).toB) = true then
 some [[.int 0]]
 else
 (let K2 : Bool → Option (Nat × List PV) := fun q3 =>
 let K4 : Bool → Option (Nat × List PV) := fun q5 =>
 some (0, [.r [.dp p0], .r [.dp p1], .r [.bool q5]])
 if q3 = true then
 K4 true
 else
 K4 ((((at_ p0 3).rows).length : Int) != (((at_ p1 3).rows).length : Int))
 if (((at_ p0 0).toI) != 6) = true then
 K2 true
 else
 K2 (((at_ p1 0).toI) != 6)).bind fun x6 =>
 if (gB 2 x6.2) = true then
 some [[.int 3]]
 else
 if (gC 0 x6.2).isDp = true then
 (align_Cost_l0 E (gC 1 x6.2) 0 (at_ ((gC 0 x6.2).dpRow) 3) (((at_ ((gC 0 x6.2).dpRow) 3).rows).length : Int) 0).bind fun x8 =>
 match x8.1 with
 | 0 =>
 some [[.int (if 3 < (gI 0 x8.2) then 3 else (gI 0 x8.2))]]
 | i9 + 1 =>
 some [[.int (gI 0 x8.2)]]
 else none
theorem align_Cost_eq (E : Env) (p0 : Row) (p1 : Row) : runP E align_Cost_a [p0, p1] = align_Cost E p0 p1 := by kernel_rfl

def value_Size_h0 : Shape := { slots := [(3, .d lI), (7, .d (.one (.sl 46))), (8, .d lI), (9, .d lI)], objs := [] }
def value_Size_o0 : List (Exit' × Shape) := [(.exit 0, { slots := [(3, .d lI)], objs := [] })]
def value_Size_c0 : ACode := (.seq (.region [] [oq 10 (.icmp .lss (.t 9) (.t 8))] false 0)
 (.seq (.cond (.t 10) .skip
 (.exit 0))
 (.seq (.block 1 (.seq (.region [] [oq 11 (.iad 46 lA0 (.t 7) (.t 9)),
 oq 12 (.ld lA0 46 (.t 11)),
 oq 5 (.allocO 0 lA0 [.str [], .int 0, .int 0, .str [], .nils]),
 ⟨none, .st lA0 (.t 5) (.t 12), none, []⟩] false 1)
 (.region [] [oq 13 (.mov (.t 3)),
 oq 14 (.fad 1 4 46 24 (.t 5)),
 oq 15 (.ld lA1 24 (.t 14)),
 oq 16 (.call 21 [lA1] [lI] [(.t 15)]),
 oq 17 (.ibin .add (.t 13) (.t 16)),
 oq 3 (.mov (.t 17))] false 0)))
 (.region [] [oq 18 (.ibin .add (.t 9) (.c lI [.int 1])),
 oq 9 (.mov (.t 18))] false 0))))
noncomputable def value_Size_l0 (E : Env) (v0 : Int) (v1 : C) (v2 : Int) (v3 : Int) : Option (Nat × List PV) := E.fix (stepOf E value_Size_c0 value_Size_h0 value_Size_o0) [.r [.int v0], .r [v1], .r [.int v2], .r [.int v3]]
noncomputable def value_Size_b0 (E : Env) (X : Int → C → Int → Int → Option (Nat × List PV)) (v0 : Int) (v1 : C) (v2 : Int) (v3 : Int) : Option (Nat × List PV) :=
 if (decide (v3 < v2)) = true then
 if (0 : Int) ≤ v3 ∧ v3 < (v1.rows.length : Int) then
 (E.pc n_value_Size [[at_ (rowsAt v1.rows v3.toNat) 1, at_ (rowsAt v1.rows v3.toNat) 2, at_ (rowsAt v1.rows v3.toNat) 3, at_ (rowsAt v1.rows v3.toNat) 4]]).bind fun y1 =>
 X (Go.IntKind.i64.wrap (v0 + ((at_ (rowsAt y1 0) 0).toI))) v1 v2 (Go.IntKind.i64.wrap (v3 + 1))
 else none
 else
 some (0, [.r [.int v0]])
theorem value_Size_s0 (E : Env) (X : List PV → Option (Nat × List PV)) (v0 : Int) (v1 : C) (v2 : Int) (v3 : Int) : stepOf E value_Size_c0 value_Size_h0 value_Size_o0 X [.r [.int v0], .r [v1], .r [.int v2], .r [.int v3]] = value_Size_b0 E (fun (v0 : Int) (v1 : C) (v2 : Int) (v3 : Int) => X [.r [.int v0], .r [v1], .r [.int v2], .r [.int v3]]) v0 v1 v2 v3 := by kernel_rfl
def value_Size_a : AFun := { ps := [lA1], rs := [lI], res := [(false, 2, none)], body := (.seq (.region [] [oq 1 (.boxP lA1 24 (.t 0)),
 oq 2 (.mov (.c lI [.int 0]))] false 0)
 (.seq (.region [] [oq 3 (.mov (.c lI [.int 1]))] false 0)
 (.seq (.seq (.region [] [oq 6 (.fad 3 1 24 22 (.t 1)),
 oq 7 (.ld (.one (.sl 46)) 22 (.t 6)),
 oq 8 (.lenL (.t 7)),
 oq 9 (.mov (.c lI [.int 0]))] false 0)
 (.block 0 (.loop value_Size_h0 value_Size_o0 value_Size_c0)))
 (.seq (.region [] [oq 19 (.mov (.t 3)),
 oq 2 (.mov (.t 19))] false 0)
 .ret)))) }
noncomputable def value_Size (E : Env) (p0 : Row) : Option (List Row) :=
 (value_Size_l0 E 1 (at_ p0 3) (((at_ p0 3).rows).length : Int) 0).bind fun x2 =>
 some [[.int (gI 0 x2.2)]]
theorem value_Size_eq (E : Env) (p0 : Row) : runP E value_Size_a [p0] = value_Size E p0 := by kernel_rfl

def value_Deep_h0 : Shape := { slots := [(3, .d lI), (7, .d (.one (.sl 46))), (8, .d lI), (9, .d lI)], objs := [] }
def value_Deep_o0 : List (Exit' × Shape) := [(.exit 0, { slots := [(3, .d lI)], objs := [] })]
def value_Deep_c0 : ACode := (.seq (.region [] [oq 10 (.icmp .lss (.t 9) (.t 8))] false 0)
 (.seq (.cond (.t 10) .skip
 (.exit 0))
 (.seq (.block 1 (.seq (.region [] [oq 11 (.iad 46 lA0 (.t 7) (.t 9)),
 oq 12 (.ld lA0 46 (.t 11)),
 oq 5 (.allocO 0 lA0 [.str [], .int 0, .int 0, .str [], .nils]),
 ⟨none, .st lA0 (.t 5) (.t 12), none, []⟩] false 1)
 (.region [] [oq 13 (.mov (.t 3)),
 oq 14 (.fad 1 4 46 24 (.t 5)),
 oq 15 (.ld lA1 24 (.t 14)),
 oq 16 (.call 22 [lA1] [lI] [(.t 15)]),
 oq 17 (.imin true [(.t 13), (.t 16)]),
 oq 3 (.mov (.t 17))] false 0)))
 (.region [] [oq 18 (.ibin .add (.t 9) (.c lI [.int 1])),
 oq 9 (.mov (.t 18))] false 0))))
noncomputable def value_Deep_l0 (E : Env) (v0 : Int) (v1 : C) (v2 : Int) (v3 : Int) : Option (Nat × List PV) := E.fix (stepOf E value_Deep_c0 value_Deep_h0 value_Deep_o0) [.r [.int v0], .r [v1], .r [.int v2], .r [.int v3]]
noncomputable def value_Deep_b0 (E : Env) (X : Int → C → Int → Int → Option (Nat × List PV)) (v0 : Int) (v1 : C) (v2 : Int) (v3 : Int) : Option (Nat × List PV) :=
 if (decide (v3 < v2)) = true then
 if (0 : Int) ≤ v3 ∧ v3 < (v1.rows.length : Int) then
 (E.pc n_value_Deep [[at_ (rowsAt v1.rows v3.toNat) 1, at_ (rowsAt v1.rows v3.toNat) 2, at_ (rowsAt v1.rows v3.toNat) 3, at_ (rowsAt v1.rows v3.toNat) 4]]).bind fun y1 =>
 X (if ((at_ (rowsAt y1 0) 0).toI) > v0 then (at_ (rowsAt y1 0) 0).toI else v0) v1 v2 (Go.IntKind.i64.wrap (v3 + 1))
 else none
 else
 some (0, [.r [.int v0]])
theorem value_Deep_s0 (E : Env) (X : List PV → Option (Nat × List PV)) (v0 : Int) (v1 : C) (v2 : Int) (v3 : Int) : stepOf E value_Deep_c0 value_Deep_h0 value_Deep_o0 X [.r [.int v0], .r [v1], .r [.int v2], .r [.int v3]] = value_Deep_b0 E (fun (v0 : Int) (v1 : C) (v2 : Int) (v3 : Int) => X [.r [.int v0], .r [v1], .r [.int v2], .r [.int v3]]) v0 v1 v2 v3 := by kernel_rfl
def value_Deep_a : AFun := { ps := [lA1], rs := [lI], res := [(false, 2, none)], body := (.seq (.region [] [oq 1 (.boxP lA1 24 (.t 0)),
 oq 2 (.mov (.c lI [.int 0]))] false 0)
 (.seq (.region [] [oq 3 (.mov (.c lI [.int 0]))] false 0)
 (.seq (.seq (.region [] [oq 6 (.fad 3 1 24 22 (.t 1)),
 oq 7 (.ld (.one (.sl 46)) 22 (.t 6)),
 oq 8 (.lenL (.t 7)),
 oq 9 (.mov (.c lI [.int 0]))] false 0)
 (.block 0 (.loop value_Deep_h0 value_Deep_o0 value_Deep_c0)))
 (.seq (.region [] [oq 19 (.mov (.t 3)),
 oq 20 (.ibin .add (.t 19) (.c lI [.int 1])),
 oq 2 (.mov (.t 20))] false 0)
 .ret)))) }
noncomputable def value_Deep (E : Env) (p0 : Row) : Option (List Row) :=
 (value_Deep_l0 E 0 (at_ p0 3) (((at_ p0 3).rows).length : Int) 0).bind fun x2 =>
 some [[.int (Go.IntKind.i64.wrap ((gI 0 x2.2) + 1))]]
theorem value_Deep_eq (E : Env) (p0 : Row) : runP E value_Deep_a [p0] = value_Deep E p0 := by kernel_rfl

def value_Scalar_a : AFun := { ps := [lI], rs := [lB], res := [(false, 2, none)], body := (.seq (.region [] [oq 2 (.mov (.c lB [.bool false]))] false 0)
 (.seq (.region [] [oq 3 (.mov (.t 0)),
 oq 4 (.icmp .geq (.t 3) (.c lI [.int 0])),
 oq 5 (.mov (.t 4)),
 ⟨some 6, .mov (.t 0), some (5, true), []⟩,
 ⟨some 7, .icmp .leq (.t 6) (.c lI [.int 5]), some (5, true), []⟩,
 oq 8 (.pick (.t 5) (.t 7) (.c lB [.bool false])),
 oq 9 (.mov (.t 8)),
 ⟨some 10, .mov (.t 0), some (9, false), []⟩,
 ⟨some 11, .icmp .eql (.t 10) (.c lI [.int 11]), some (9, false), []⟩,
 oq 12 (.pick (.t 9) (.c lB [.bool true]) (.t 11)),
 oq 2 (.mov (.t 12))] false 0)
 .ret)) }
noncomputable def value_Scalar (E : Env) (p0 : Int) : Option (List Row) :=
 let K1 : Bool → Option (List Row) := fun q2 =>
 let K3 : Bool → Option (List Row) := fun q4 =>
 some [[.bool q4]]
 if q2 = true then
 K3 true
 else
 K3 (p0 == 11)
 if (decide (p0 ≥ 0)) = true then
 K1 (decide (p0 ≤ 5))
 else
 K1 false
theorem value_Scalar_eq (E : Env) (p0 : Int) : runP E value_Scalar_a [[.int p0]] = value_Scalar E p0 := by kernel_rfl

def value_unused_a : AFun := { ps := [lA1], rs := [lB], res := [(false, 2, none)], body := (.seq (.region [] [oq 1 (.boxP lA1 24 (.t 0)),
 oq 2 (.mov (.c lB [.bool false]))] false 0)
 (.seq (.join [(.normal, { slots := [(1, .d (.one (.ref 24))), (3, .d lB)], objs := [] })] (.region [] [oq 4 (.fad 0 1 24 3 (.t 1)),
 oq 5 (.ld lI 3 (.t 4)),
 oq 6 (.icmp .geq (.t 5) (.c lI [.int 1])),
 oq 7 (.mov (.t 6)),
 ⟨some 8, .fad 0 1 24 3 (.t 1), some (7, true), []⟩,
 ⟨some 9, .ld lI 3 (.t 8), some (7, true), []⟩,
 ⟨some 10, .icmp .leq (.t 9) (.c lI [.int 4]), some (7, true), []⟩,
 oq 11 (.pick (.t 7) (.t 10) (.c lB [.bool false])),
 oq 12 (.mov (.t 11)),
 ⟨some 13, .fad 0 1 24 3 (.t 1), some (12, false), []⟩,
 ⟨some 14, .ld lI 3 (.t 13), some (12, false), []⟩,
 ⟨some 15, .icmp .eql (.t 14) (.c lI [.int 11]), some (12, false), []⟩,
 oq 16 (.pick (.t 12) (.c lB [.bool true]) (.t 15)),
 oq 3 (.mov (.t 16))] false 0))
 (.seq (.region [] [oq 17 (.mov (.t 3)),
 oq 18 (.not (.t 17)),
 oq 19 (.mov (.t 18)),
 ⟨some 20, .fad 1 1 24 3 (.t 1), some (19, true), []⟩,
 ⟨some 21, .ld lI 3 (.t 20), some (19, true), []⟩,
 ⟨some 22, .icmp .neq (.t 21) (.c lI [.int 0]), some (19, true), []⟩,
 oq 23 (.pick (.t 19) (.t 22) (.c lB [.bool false])),
 oq 24 (.mov (.t 23)),
 ⟨some 25, .fad 0 1 24 3 (.t 1), some (24, false), []⟩,
 ⟨some 26, .ld lI 3 (.t 25), some (24, false), []⟩,
 ⟨some 27, .icmp .neq (.t 26) (.c lI [.int 5]), some (24, false), []⟩,
 ⟨some 28, .mov (.t 27), some (24, false), []⟩,
 ⟨some 29, .fad 2 1 24 9 (.t 1), some (28, true), []⟩,
 ⟨some 30, .ld lS 9 (.t 29), some (28, true), []⟩,
 ⟨some 31, .scmp .neq (.t 30) (.c lS [.str ([] : List UInt8)]), some (28, true), []⟩,
 ⟨some 32, .pick (.t 28) (.t 31) (.c lB [.bool false]), some (24, false), []⟩,
 oq 33 (.pick (.t 24) (.c lB [.bool true]) (.t 32)),
 oq 34 (.mov (.t 33)),
 ⟨some 35, .fad 0 1 24 3 (.t 1), some (34, false), []⟩,
 ⟨some 36, .ld lI 3 (.t 35), some (34, false), []⟩,
 ⟨some 37, .call 35 [lI] [lB] [(.t 36)], some (34, false), []⟩,
 ⟨some 38, .mov (.t 37), some (34, false), []⟩,
 ⟨some 39, .fad 3 1 24 22 (.t 1), some (38, true), []⟩,
 ⟨some 40, .ld (.one (.sl 46)) 22 (.t 39), some (38, true), []⟩,
 ⟨some 41, .lenL (.t 40), some (38, true), []⟩,
 ⟨some 42, .icmp .gtr (.t 41) (.c lI [.int 0]), some (38, true), []⟩,
 ⟨some 43, .pick (.t 38) (.t 42) (.c lB [.bool false]), some (34, false), []⟩,
 oq 44 (.pick (.t 34) (.c lB [.bool true]) (.t 43)),
 oq 2 (.mov (.t 44))] false 0)
 .ret))) }
noncomputable def value_unused (E : Env) (p0 : Row) : Option (List Row) :=
 (let K1 : Bool → Option (Nat × List PV) := fun q2 =>
 let K3 : Bool → Option (Nat × List PV) := fun q4 =>
 some (0, [.r [.dp p0], .r [.bool q4]])
 if q2 = true then
 K3 true
 else
 K3 (((at_ p0 0).toI) == 11)
 if (decide (((at_ p0 0).toI) ≥ 1)) = true then
 K1 (decide (((at_ p0 0).toI) ≤ 4))
 else
 K1 false).bind fun x5 =>
 let K6 : Bool → Option (List Row) := fun q7 =>
 let K8 : Bool → Option (List Row) := fun q9 =>
 let K10 : Bool → Option (List Row) := fun q11 =>
 some [[.bool q11]]
 if q9 = true then
 K10 true
 else
 if (gC 0 x5.2).isDp = true then
 (E.pc n_value_Scalar [[.int ((at_ ((gC 0 x5.2).dpRow) 0).toI)]]).bind fun y12 =>
 let K13 : Bool → Option (List Row) := fun q14 =>
 K10 q14
 if ((at_ (rowsAt y12 0) 0).toB) = true then
 if (gC 0 x5.2).isDp = true then
 K13 (decide ((((at_ ((gC 0 x5.2).dpRow) 3).rows).length : Int) > 0))
 else none
 else
 K13 false
 else none
 if q7 = true then
 K8 true
 else
 if (gC 0 x5.2).isDp = true then
 let K15 : Bool → Option (List Row) := fun q16 =>
 K8 q16
 if (((at_ ((gC 0 x5.2).dpRow) 0).toI) != 5) = true then
 if (gC 0 x5.2).isDp = true then
 K15 (!(((at_ ((gC 0 x5.2).dpRow) 2).toS) == ([] : List UInt8)))
 else none
 else
 K15 false
 else none
 if (!(gB 1 x5.2)) = true then
 if (gC 0 x5.2).isDp = true then
 K6 (((at_ ((gC 0 x5.2).dpRow) 1).toI) != 0)
 else none
 else
 K6 false
theorem value_unused_eq (E : Env) (p0 : Row) : runP E value_unused_a [p0] = value_unused E p0 := by kernel_rfl

def value_number_a : AFun := { ps := [lA1], rs := [lB], res := [(false, 2, none)], body := (.seq (.region [] [oq 1 (.boxP lA1 24 (.t 0)),
 oq 2 (.mov (.c lB [.bool false]))] false 0)
 (.seq (.seq (.region [] [oq 3 (.fad 0 1 24 3 (.t 1)),
 oq 4 (.ld lI 3 (.t 3))] false 0)
 (.block 0 (.seq (.region [] [oq 6 (.icmp .eql (.t 4) (.c lI [.int 1])),
 oq 5 (.mov (.t 6))] false 0)
 (.cond (.t 5) (.seq (.region [] [oq 7 (.fad 1 1 24 3 (.t 1)),
 oq 8 (.ld lI 3 (.t 7)),
 oq 9 (.icmp .eql (.t 8) (.c lI [.int 0])),
 oq 10 (.mov (.t 9)),
 ⟨some 11, .fad 1 1 24 3 (.t 1), some (10, false), []⟩,
 ⟨some 12, .ld lI 3 (.t 11), some (10, false), []⟩,
 ⟨some 13, .icmp .eql (.t 12) (.c lI [.int 1]), some (10, false), []⟩,
 oq 14 (.pick (.t 10) (.c lB [.bool true]) (.t 13)),
 oq 2 (.mov (.t 14))] false 0)
 .ret)
 (.seq (.region [] [oq 16 (.icmp .eql (.t 4) (.c lI [.int 2])),
 oq 15 (.mov (.t 16))] false 0)
 (.cond (.t 15) (.seq (.region [] [oq 17 (.fad 1 1 24 3 (.t 1)),
 oq 18 (.ld lI 3 (.t 17)),
 oq 19 (.icmp .geq (.t 18) (.c lI [.int (-9007199254740992)])),
 oq 20 (.mov (.t 19)),
 ⟨some 21, .fad 1 1 24 3 (.t 1), some (20, true), []⟩,
 ⟨some 22, .ld lI 3 (.t 21), some (20, true), []⟩,
 ⟨some 23, .icmp .leq (.t 22) (.c lI [.int 9007199254740992]), some (20, true), []⟩,
 oq 24 (.pick (.t 20) (.t 23) (.c lB [.bool false])),
 oq 2 (.mov (.t 24))] false 0)
 .ret)
 (.seq (.region [] [oq 26 (.icmp .eql (.t 4) (.c lI [.int 4])),
 oq 25 (.mov (.t 26))] false 0)
 (.cond (.t 25) (.seq (.region [] [oq 27 (.fad 1 1 24 3 (.t 1)),
 oq 28 (.ld lI 3 (.t 27)),
 oq 29 (.icmp .geq (.t 28) (.c lI [.int 0])),
 oq 30 (.mov (.t 29)),
 ⟨some 31, .fad 1 1 24 3 (.t 1), some (30, true), []⟩,
 ⟨some 32, .ld lI 3 (.t 31), some (30, true), []⟩,
 ⟨some 33, .icmp .leq (.t 32) (.c lI [.int 4194304]), some (30, true), []⟩,
 oq 34 (.pick (.t 30) (.t 33) (.c lB [.bool false])),
 oq 2 (.mov (.t 34))] false 0)
 .ret)
 (.seq (.region [] [oq 36 (.icmp .eql (.t 4) (.c lI [.int 11])),
 oq 35 (.mov (.t 36))] false 0)
 (.cond (.t 35) (.seq (.region [] [oq 37 (.fad 1 1 24 3 (.t 1)),
 oq 38 (.ld lI 3 (.t 37)),
 oq 39 (.icmp .geq (.t 38) (.c lI [.int 0])),
 oq 40 (.mov (.t 39)),
 ⟨some 41, .fad 1 1 24 3 (.t 1), some (40, true), []⟩,
 ⟨some 42, .ld lI 3 (.t 41), some (40, true), []⟩,
 ⟨some 43, .icmp .leq (.t 42) (.c lI [.int 9007199254740992]), some (40, true), []⟩,
 oq 44 (.pick (.t 40) (.t 43) (.c lB [.bool false])),
 oq 2 (.mov (.t 44))] false 0)
 .ret)
 .skip))))))))))
 (.seq (.region [] [oq 2 (.mov (.c lB [.bool true]))] false 0)
 .ret))) }
noncomputable def value_number (E : Env) (p0 : Row) : Option (List Row) :=
 if (((at_ p0 0).toI) == 1) = true then
 let K1 : Bool → Option (List Row) := fun q2 =>
 some [[.bool q2]]
 if (((at_ p0 1).toI) == 0) = true then
 K1 true
 else
 K1 (((at_ p0 1).toI) == 1)
 else
 if (((at_ p0 0).toI) == 2) = true then
 let K3 : Bool → Option (List Row) := fun q4 =>
 some [[.bool q4]]
 if (decide (((at_ p0 1).toI) ≥ (-9007199254740992))) = true then
 K3 (decide (((at_ p0 1).toI) ≤ 9007199254740992))
 else
 K3 false
 else
 if (((at_ p0 0).toI) == 4) = true then
 let K5 : Bool → Option (List Row) := fun q6 =>
 some [[.bool q6]]
 if (decide (((at_ p0 1).toI) ≥ 0)) = true then
 K5 (decide (((at_ p0 1).toI) ≤ 4194304))
 else
 K5 false
 else
 if (((at_ p0 0).toI) == 11) = true then
 let K7 : Bool → Option (List Row) := fun q8 =>
 some [[.bool q8]]
 if (decide (((at_ p0 1).toI) ≥ 0)) = true then
 K7 (decide (((at_ p0 1).toI) ≤ 9007199254740992))
 else
 K7 false
 else
 some [[.bool true]]
theorem value_number_eq (E : Env) (p0 : Row) : runP E value_number_a [p0] = value_number E p0 := by kernel_rfl

def value_Name_h0 : Shape := { slots := [(23, .d (.one (.sl 5))), (24, .d lI), (25, .d lI)], objs := [] }
def value_Name_o0 : List (Exit' × Shape) := [(.exit 0, { slots := [], objs := [] }), (.ret, { slots := [(2, .d lB)], objs := [] })]
def value_Name_c0 : ACode := (.seq (.region [] [oq 26 (.icmp .lss (.t 25) (.t 24))] false 0)
 (.seq (.cond (.t 26) .skip
 (.exit 0))
 (.seq (.join [(.normal, { slots := [(23, .d (.one (.sl 5))), (24, .d lI), (25, .d lI)], objs := [] }), (.ret, { slots := [(2, .d lB)], objs := [] })] (.block 1 (.seq (.region [] [oq 27 (.iad 5 lU (.t 23) (.t 25)),
 oq 28 (.ld lU 5 (.t 27)),
 oq 4 (.mov (.t 28))] false 0)
 (.seq (.region [] [oq 29 (.mov (.t 4)),
 oq 30 (.icmp .geq (.t 29) (.c lU [.int 97])),
 oq 31 (.mov (.t 30)),
 ⟨some 32, .mov (.t 4), some (31, true), []⟩,
 ⟨some 33, .icmp .leq (.t 32) (.c lU [.int 122]), some (31, true), []⟩,
 oq 34 (.pick (.t 31) (.t 33) (.c lB [.bool false])),
 oq 35 (.mov (.t 34)),
 ⟨some 36, .mov (.t 4), some (35, false), []⟩,
 ⟨some 37, .icmp .geq (.t 36) (.c lU [.int 48]), some (35, false), []⟩,
 ⟨some 38, .mov (.t 37), some (35, false), []⟩,
 ⟨some 39, .mov (.t 4), some (38, true), []⟩,
 ⟨some 40, .icmp .leq (.t 39) (.c lU [.int 57]), some (38, true), []⟩,
 ⟨some 41, .pick (.t 38) (.t 40) (.c lB [.bool false]), some (35, false), []⟩,
 oq 42 (.pick (.t 35) (.c lB [.bool true]) (.t 41)),
 oq 43 (.mov (.t 42)),
 ⟨some 44, .mov (.t 4), some (43, false), []⟩,
 ⟨some 45, .icmp .eql (.t 44) (.c lU [.int 45]), some (43, false), []⟩,
 oq 46 (.pick (.t 43) (.c lB [.bool true]) (.t 45)),
 oq 47 (.not (.t 46))] false 0)
 (.cond (.t 47) (.seq (.region [] [oq 2 (.mov (.c lB [.bool false]))] false 0)
 .ret)
 .skip)))))
 (.region [] [oq 48 (.ibin .add (.t 25) (.c lI [.int 1])),
 oq 25 (.mov (.t 48))] false 0))))
noncomputable def value_Name_l0 (E : Env) (v0 : C) (v1 : Int) (v2 : Int) : Option (Nat × List PV) := E.fix (stepOf E value_Name_c0 value_Name_h0 value_Name_o0) [.r [v0], .r [.int v1], .r [.int v2]]
noncomputable def value_Name_b0 (E : Env) (X : C → Int → Int → Option (Nat × List PV)) (v0 : C) (v1 : Int) (v2 : Int) : Option (Nat × List PV) :=
 if (decide (v2 < v1)) = true then
 (if (0 : Int) ≤ v2 ∧ v2 < (v0.rows.length : Int) then
 let K8 : Bool → Option (Nat × List PV) := fun q9 =>
 let K10 : Bool → Option (Nat × List PV) := fun q11 =>
 let K12 : Bool → Option (Nat × List PV) := fun q13 =>
 if (!q13) = true then
 some (1, [.r [.bool false]])
 else
 some (0, [.r [v0], .r [.int v1], .r [.int v2]])
 if q11 = true then
 K12 true
 else
 K12 (((at_ (rowsAt v0.rows v2.toNat) 0).toI) == 45)
 if q9 = true then
 K10 true
 else
 let K14 : Bool → Option (Nat × List PV) := fun q15 =>
 K10 q15
 if (decide (((at_ (rowsAt v0.rows v2.toNat) 0).toI) ≥ 48)) = true then
 K14 (decide (((at_ (rowsAt v0.rows v2.toNat) 0).toI) ≤ 57))
 else
 K14 false
 if (decide (((at_ (rowsAt v0.rows v2.toNat) 0).toI) ≥ 97)) = true then
 K8 (decide (((at_ (rowsAt v0.rows v2.toNat) 0).toI) ≤ 122))
 else
 K8 false
 else none).bind fun x16 =>
 match x16.1 with
 | 0 =>
 X (gC 0 x16.2) (gI 1 x16.2) (Go.IntKind.i64.wrap ((gI 2 x16.2) + 1))
 | i17 + 1 =>
 some (1, [.r [.bool (gB 0 x16.2)]])
 else
 some (0, [])
theorem value_Name_s0 (E : Env) (X : List PV → Option (Nat × List PV)) (v0 : C) (v1 : Int) (v2 : Int) : stepOf E value_Name_c0 value_Name_h0 value_Name_o0 X [.r [v0], .r [.int v1], .r [.int v2]] = value_Name_b0 E (fun (v0 : C) (v1 : Int) (v2 : Int) => X [.r [v0], .r [.int v1], .r [.int v2]]) v0 v1 v2 := by kernel_rfl
def value_Name_a : AFun := { ps := [lS], rs := [lB], res := [(false, 2, none)], body := (.seq (.region [] [oq 2 (.mov (.c lB [.bool false]))] false 0)
 (.seq (.seq (.join [(.normal, { slots := [(0, .d lS), (21, .d lB)], objs := [] })] (.region [] [oq 5 (.mov (.t 0)),
 oq 6 (.scmp .eql (.t 5) (.c lS [.str ([] : List UInt8)])),
 oq 7 (.mov (.t 6)),
 ⟨some 8, .mov (.t 0), some (7, false), []⟩,
 ⟨some 9, .lenS (.t 8), some (7, false), []⟩,
 ⟨some 10, .icmp .gtr (.t 9) (.c lI [.int 16]), some (7, false), []⟩,
 oq 11 (.pick (.t 7) (.c lB [.bool true]) (.t 10)),
 oq 12 (.mov (.t 11)),
 ⟨some 13, .mov (.t 0), some (12, false), []⟩,
 ⟨some 14, .idxS (.t 13) (.c lI [.int 0]), some (12, false), []⟩,
 ⟨some 15, .icmp .lss (.t 14) (.c lU [.int 97]), some (12, false), []⟩,
 oq 16 (.pick (.t 12) (.c lB [.bool true]) (.t 15)),
 oq 17 (.mov (.t 16)),
 ⟨some 18, .mov (.t 0), some (17, false), []⟩,
 ⟨some 19, .idxS (.t 18) (.c lI [.int 0]), some (17, false), []⟩,
 ⟨some 20, .icmp .gtr (.t 19) (.c lU [.int 122]), some (17, false), []⟩,
 oq 21 (.pick (.t 17) (.c lB [.bool true]) (.t 20))] false 0))
 (.cond (.t 21) (.seq (.region [] [oq 2 (.mov (.c lB [.bool false]))] false 0)
 .ret)
 .skip))
 (.seq (.seq (.region [] [oq 22 (.mov (.t 0)),
 oq 23 (.s2b 5 (.t 22)),
 oq 24 (.lenL (.t 23)),
 oq 25 (.mov (.c lI [.int 0]))] false 0)
 (.block 0 (.loop value_Name_h0 value_Name_o0 value_Name_c0)))
 (.seq (.region [] [oq 2 (.mov (.c lB [.bool true]))] false 0)
 .ret)))) }
noncomputable def value_Name (E : Env) (p0 : List UInt8) : Option (List Row) :=
 (let K1 : Bool → Option (Nat × List PV) := fun q2 =>
 let K3 : Bool → Option (Nat × List PV) := fun q4 =>
 let K5 : Bool → Option (Nat × List PV) := fun q6 =>
 some (0, [.r [.str p0], .r [.bool q6]])
 if q4 = true then
 K5 true
 else
 if (0 : Int) ≤ 0 ∧ 0 < (p0.length : Int) then
 K5 (decide (((p0.getD 0 0).toNat : Int) > 122))
 else none
 if q2 = true then
 K3 true
 else
 if (0 : Int) ≤ 0 ∧ 0 < (p0.length : Int) then
 K3 (decide (((p0.getD 0 0).toNat : Int) < 97))
 else none
 if (p0 == ([] : List UInt8)) = true then
 K1 true
 else
 K1 (decide ((p0.length : Int) > 16))).bind fun x7 =>
 if (gB 1 x7.2) = true then
 some [[.bool false]]
 else
 (value_Name_l0 E (.sl ((gS 0 x7.2).map byteRow)) (((gS 0 x7.2).map byteRow).length : Int) 0).bind fun x18 =>
 match x18.1 with
 | 0 =>
 some [[.bool true]]
 | i19 + 1 =>
 some [[.bool (gB 0 x18.2)]]
theorem value_Name_eq (E : Env) (p0 : List UInt8) : runP E value_Name_a [[.str p0]] = value_Name E p0 := by kernel_rfl

def slices_IndexFunc_api_Field_h0 : Shape := { slots := [(0, .d (.one (.sl 46))), (1, .d (.one (.fn 65))), (7, .d lI), (8, .d lI)], objs := [] }
def slices_IndexFunc_api_Field_o0 : List (Exit' × Shape) := [(.exit 0, { slots := [], objs := [] }), (.ret, { slots := [(4, .d lI)], objs := [] })]
def slices_IndexFunc_api_Field_c0 : ACode := (.seq (.region [] [oq 9 (.icmp .lss (.t 8) (.t 7))] false 0)
 (.seq (.cond (.t 9) .skip
 (.exit 0))
 (.seq (.block 1 (.seq (.region [] [oq 10 (.mov (.t 8)),
 oq 5 (.mov (.t 10))] false 0)
 (.seq (.region [] [oq 11 (.mov (.t 1)),
 oq 12 (.mov (.t 0)),
 oq 13 (.mov (.t 5)),
 oq 14 (.iad 46 lA0 (.t 12) (.t 13)),
 oq 15 (.ld lA0 46 (.t 14)),
 oq 16 (.callv 65 [lA0] [lB] (.t 11) [(.t 15)])] false 0)
 (.cond (.t 16) (.seq (.region [] [oq 17 (.mov (.t 5)),
 oq 4 (.mov (.t 17))] false 0)
 .ret)
 .skip))))
 (.region [] [oq 18 (.ibin .add (.t 8) (.c lI [.int 1])),
 oq 8 (.mov (.t 18))] false 0))))
noncomputable def slices_IndexFunc_api_Field_l0 (E : Env) (v0 : C) (v1 : C) (v2 : Int) (v3 : Int) : Option (Nat × List PV) := E.fix (stepOf E slices_IndexFunc_api_Field_c0 slices_IndexFunc_api_Field_h0 slices_IndexFunc_api_Field_o0) [.r [v0], .r [v1], .r [.int v2], .r [.int v3]]
noncomputable def slices_IndexFunc_api_Field_b0 (E : Env) (X : C → C → Int → Int → Option (Nat × List PV)) (v0 : C) (v1 : C) (v2 : Int) (v3 : Int) : Option (Nat × List PV) :=
 if (decide (v3 < v2)) = true then
 if (0 : Int) ≤ v3 ∧ v3 < (v0.rows.length : Int) then
 (callC E v1 [rowsAt v0.rows v3.toNat]).bind fun y1 =>
 if ((at_ (rowsAt y1 0) 0).toB) = true then
 some (1, [.r [.int v3]])
 else
 X v0 v1 v2 (Go.IntKind.i64.wrap (v3 + 1))
 else none
 else
 some (0, [])
theorem slices_IndexFunc_api_Field_s0 (E : Env) (X : List PV → Option (Nat × List PV)) (v0 : C) (v1 : C) (v2 : Int) (v3 : Int) : stepOf E slices_IndexFunc_api_Field_c0 slices_IndexFunc_api_Field_h0 slices_IndexFunc_api_Field_o0 X [.r [v0], .r [v1], .r [.int v2], .r [.int v3]] = slices_IndexFunc_api_Field_b0 E (fun (v0 : C) (v1 : C) (v2 : Int) (v3 : Int) => X [.r [v0], .r [v1], .r [.int v2], .r [.int v3]]) v0 v1 v2 v3 := by kernel_rfl
def slices_IndexFunc_api_Field_a : AFun := { ps := [(.one (.sl 46)), (.one (.fn 65))], rs := [lI], res := [(false, 4, none)], body := (.seq (.region [] [oq 4 (.mov (.c lI [.int 0]))] false 0)
 (.seq (.seq (.region [] [oq 6 (.mov (.t 0)),
 oq 7 (.lenL (.t 6)),
 oq 8 (.mov (.c lI [.int 0]))] false 0)
 (.block 0 (.loop slices_IndexFunc_api_Field_h0 slices_IndexFunc_api_Field_o0 slices_IndexFunc_api_Field_c0)))
 (.seq (.region [] [oq 4 (.mov (.c lI [.int (-1)]))] false 0)
 .ret))) }
noncomputable def slices_IndexFunc_api_Field (E : Env) (p0 : C) (p1 : C) : Option (List Row) :=
 (slices_IndexFunc_api_Field_l0 E p0 p1 (p0.rows.length : Int) 0).bind fun x2 =>
 match x2.1 with
 | 0 =>
 some [[.int (-1)]]
 | i3 + 1 =>
 some [[.int (gI 0 x2.2)]]
theorem slices_IndexFunc_api_Field_eq (E : Env) (p0 : C) (p1 : C) : runP E slices_IndexFunc_api_Field_a [[p0], [p1]] = slices_IndexFunc_api_Field E p0 p1 := by kernel_rfl

def slices_ContainsFunc_api_Field_a : AFun := { ps := [(.one (.sl 46)), (.one (.fn 65))], rs := [lB], res := [(false, 4, none)], body := (.seq (.region [] [oq 4 (.mov (.c lB [.bool false]))] false 0)
 (.seq (.region [] [oq 5 (.mov (.t 0)),
 oq 6 (.mov (.t 1)),
 oq 7 (.call 42 [(.one (.sl 46)), (.one (.fn 65))] [lI] [(.t 5), (.t 6)]),
 oq 8 (.icmp .geq (.t 7) (.c lI [.int 0])),
 oq 4 (.mov (.t 8))] false 0)
 .ret)) }
noncomputable def slices_ContainsFunc_api_Field (E : Env) (p0 : C) (p1 : C) : Option (List Row) :=
 (E.pc n_slices_IndexFunc_api_Field [[p0], [p1]]).bind fun y1 =>
 some [[.bool (decide (((at_ (rowsAt y1 0) 0).toI) ≥ 0))]]
theorem slices_ContainsFunc_api_Field_eq (E : Env) (p0 : C) (p1 : C) : runP E slices_ContainsFunc_api_Field_a [[p0], [p1]] = slices_ContainsFunc_api_Field E p0 p1 := by kernel_rfl

def value_names_1_a : AFun := { ps := [lA0, (.one (.ref 46))], rs := [lB], res := [(false, 3, none)], body := (.seq (.region [] [oq 2 (.boxP lA0 46 (.t 0)),
 oq 3 (.mov (.c lB [.bool false]))] false 0)
 (.seq (.region [] [oq 4 (.fad 0 1 46 9 (.t 2)),
 oq 5 (.ld lS 9 (.t 4)),
 oq 6 (.fad 0 1 46 9 (.t 1)),
 oq 7 (.ld lS 9 (.t 6)),
 oq 8 (.scmp .eql (.t 5) (.t 7)),
 oq 3 (.mov (.t 8))] false 0)
 .ret)) }
noncomputable def value_names_1 (E : Env) (p0 : Row) (p1 : C) : Option (List Row) :=
 if p1.isDp = true then
 some [[.bool (((at_ p0 0).toS) == ((at_ p1.dpRow 0).toS))]]
 else none
theorem value_names_1_eq (E : Env) (p0 : Row) (p1 : C) : runP E value_names_1_a [p0, [p1]] = value_names_1 E p0 p1 := by kernel_rfl

def value_names_h0 : Shape := { slots := [(0, .d (.one (.sl 46))), (5, .d (.one (.sl 46))), (6, .d lI), (7, .d lI)], objs := [] }
def value_names_o0 : List (Exit' × Shape) := [(.exit 0, { slots := [], objs := [] }), (.ret, { slots := [(2, .d lI)], objs := [] })]
def value_names_c0 : ACode := (.seq (.region [] [oq 8 (.icmp .lss (.t 7) (.t 6))] false 0)
 (.seq (.cond (.t 8) .skip
 (.exit 0))
 (.seq (.block 1 (.seq (.region [] [oq 9 (.mov (.t 7)),
 oq 10 (.iad 46 lA0 (.t 5) (.t 7)),
 oq 11 (.ld lA0 46 (.t 10)),
 oq 4 (.allocO 0 lA0 [.str [], .int 0, .int 0, .str [], .nils]),
 oq 3 (.mov (.t 9)),
 ⟨none, .st lA0 (.t 4) (.t 11), none, []⟩] false 1)
 (.seq (.seq (.region [] [oq 12 (.fad 0 1 46 9 (.t 4)),
 oq 13 (.ld lS 9 (.t 12)),
 oq 14 (.call 39 [lS] [lB] [(.t 13)]),
 oq 15 (.not (.t 14))] false 0)
 (.cond (.t 15) (.seq (.region [] [oq 2 (.mov (.c lI [.int 15]))] false 0)
 .ret)
 .skip))
 (.seq (.region [(4, 46, some lA0)] [oq 16 (.mov (.t 0)),
 oq 17 (.mov (.t 3)),
 oq 18 (.slc 46 lA0 (.t 16) none (some (.t 17))),
 oq 19 (.mkf 41 65 [.ref 46] [(.t 4)]),
 oq 20 (.call 40 [(.one (.sl 46)), (.one (.fn 65))] [lB] [(.t 18), (.t 19)])] false 0)
 (.cond (.t 20) (.seq (.region [] [oq 2 (.mov (.c lI [.int 5]))] false 0)
 .ret)
 .skip)))))
 (.region [] [oq 21 (.ibin .add (.t 7) (.c lI [.int 1])),
 oq 7 (.mov (.t 21))] false 0))))
noncomputable def value_names_l0 (E : Env) (v0 : C) (v1 : C) (v2 : Int) (v3 : Int) : Option (Nat × List PV) := E.fix (stepOf E value_names_c0 value_names_h0 value_names_o0) [.r [v0], .r [v1], .r [.int v2], .r [.int v3]]
noncomputable def value_names_b0 (E : Env) (X : C → C → Int → Int → Option (Nat × List PV)) (v0 : C) (v1 : C) (v2 : Int) (v3 : Int) : Option (Nat × List PV) :=
 if (decide (v3 < v2)) = true then
 if (0 : Int) ≤ v3 ∧ v3 < (v1.rows.length : Int) then
 (E.pc n_value_Name [[.str ((at_ (rowsAt v1.rows v3.toNat) 0).toS)]]).bind fun y1 =>
 if (!((at_ (rowsAt y1 0) 0).toB)) = true then
 some (1, [.r [.int 15]])
 else
 if (0 : Int) ≤ 0 ∧ 0 ≤ v3 ∧ v3 ≤ (v0.rows.length : Int) then
 (E.pc n_slices_ContainsFunc_api_Field [[slcC v0 0 v3], [.fn n_value_names_1 [.dp (rowsAt v1.rows v3.toNat)]]]).bind fun y2 =>
 if ((at_ (rowsAt y2 0) 0).toB) = true then
 some (1, [.r [.int 5]])
 else
 X v0 v1 v2 (Go.IntKind.i64.wrap (v3 + 1))
 else none
 else none
 else
 some (0, [])
theorem value_names_s0 (E : Env) (X : List PV → Option (Nat × List PV)) (v0 : C) (v1 : C) (v2 : Int) (v3 : Int) : stepOf E value_names_c0 value_names_h0 value_names_o0 X [.r [v0], .r [v1], .r [.int v2], .r [.int v3]] = value_names_b0 E (fun (v0 : C) (v1 : C) (v2 : Int) (v3 : Int) => X [.r [v0], .r [v1], .r [.int v2], .r [.int v3]]) v0 v1 v2 v3 := by kernel_rfl
def value_names_a : AFun := { ps := [(.one (.sl 46))], rs := [lI], res := [(false, 2, none)], body := (.seq (.region [] [oq 2 (.mov (.c lI [.int 0]))] false 0)
 (.seq (.seq (.region [] [oq 5 (.mov (.t 0)),
 oq 6 (.lenL (.t 5)),
 oq 7 (.mov (.c lI [.int 0]))] false 0)
 (.block 0 (.loop value_names_h0 value_names_o0 value_names_c0)))
 (.seq (.region [] [oq 2 (.mov (.c lI [.int 0]))] false 0)
 .ret))) }
noncomputable def value_names (E : Env) (p0 : C) : Option (List Row) :=
 (value_names_l0 E p0 p0 (p0.rows.length : Int) 0).bind fun x3 =>
 match x3.1 with
 | 0 =>
 some [[.int 0]]
 | i4 + 1 =>
 some [[.int (gI 0 x3.2)]]
theorem value_names_eq (E : Env) (p0 : C) : runP E value_names_a [[p0]] = value_names E p0 := by kernel_rfl
end Go.Ev
