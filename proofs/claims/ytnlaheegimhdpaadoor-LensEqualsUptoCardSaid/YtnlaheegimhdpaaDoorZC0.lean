/-
  A part of the proof: what the functions of the program compute.
-/
import Derived.Test.YtnlaheegimhdpaaDoorZNum
set_option linter.all false
set_option maxRecDepth 100000
namespace Go.Ev
def claplaw3_num_a : AFun := { ps := [(.one (.int .i64))], rs := [(.agg [.int .i64, .int .i64, .str, .sl 55])], res := [(true, 2, none)], body := (.seq (.region [] [⟨some 2, .allocO 0 (.agg [.int .i64, .int .i64, .str, .sl 55]) [.int 0, .int 0, .str [], .nils], none, []⟩] false 1)
  (.seq (.region [] [⟨some 3, .mov (.t 0), none, []⟩,
    ⟨some 4, .bld (.agg [.int .i64, .int .i64, .str, .sl 55]) [.int 0, .int 0, .str [], .nils] [(0, 1, (.c (.one (.int .i64)) [.int 2])), (1, 1, (.t 3))], none, []⟩,
    ⟨none, .st (.agg [.int .i64, .int .i64, .str, .sl 55]) (.t 2) (.t 4), none, []⟩] false 0)
  .ret)) }
/-- clapperbridge/claplaw3.num -/
noncomputable def claplaw3_num (E : Env) (p0 : Int) : Option (List Row) :=
  some [[.int 2, .int p0, .str [], .nils]]
theorem claplaw3_num_eq (E : Env) (p0 : Int) : runP E claplaw3_num_a [[.int p0]] = claplaw3_num E p0 := by kernel_rfl

def claplaw3_drop_a : AFun := { ps := [], rs := [(.agg [.int .i64, .str, .str, .sl 9, .int .i64, .int .i64, .int .i64, .int .u8, .int .i64, .int .i64, .str, .sl 55, .sl 44, .sl 29])], res := [(true, 0, none)], body := (.seq (.region [] [⟨some 0, .allocO 0 (.agg [.int .i64, .str, .str, .sl 9, .int .i64, .int .i64, .int .i64, .int .u8, .int .i64, .int .i64, .str, .sl 55, .sl 44, .sl 29]) [.int 0, .str [], .str [], .nils, .int 0, .int 0, .int 0, .int 0, .int 0, .int 0, .str [], .nils, .nils, .nils], none, []⟩] false 1)
  (.seq (.region [] [⟨some 1, .call 18 [(.one (.int .i64))] [(.agg [.int .i64, .int .i64, .str, .sl 55])] [(.c (.one (.int .i64)) [.int 7])], none, []⟩,
    ⟨some 2, .bld (.agg [.int .i64, .str, .str, .sl 9, .int .i64, .int .i64, .int .i64, .int .u8, .int .i64, .int .i64, .str, .sl 55, .sl 44, .sl 29]) [.int 0, .str [], .str [], .nils, .int 0, .int 0, .int 0, .int 0, .int 0, .int 0, .str [], .nils, .nils, .nils] [(0, 1, (.c (.one (.int .i64)) [.int 4])), (1, 1, (.c (.one (.str)) [.str ([98] : List UInt8)])), (8, 4, (.t 1))], none, []⟩,
    ⟨none, .st (.agg [.int .i64, .str, .str, .sl 9, .int .i64, .int .i64, .int .i64, .int .u8, .int .i64, .int .i64, .str, .sl 55, .sl 44, .sl 29]) (.t 0) (.t 2), none, []⟩] false 0)
  .ret)) }
/-- clapperbridge/claplaw3.drop -/
noncomputable def claplaw3_drop (E : Env) : Option (List Row) :=
  (E.pc n_claplaw3_num [[.int 7]]).bind fun y1 =>
    some [[.int 4, .str ([98] : List UInt8), .str [], .nils, .int 0, .int 0, .int 0, .int 0, at_ (rowsAt y1 0) 0, at_ (rowsAt y1 0) 1, at_ (rowsAt y1 0) 2, at_ (rowsAt y1 0) 3, .nils, .nils]]
theorem claplaw3_drop_eq (E : Env) : runP E claplaw3_drop_a [] = claplaw3_drop E := by kernel_rfl

def lens_Size_h0 : Shape := { slots := [(3, .d (.one (.int .i64))), (7, .d (.one (.sl 29))), (8, .d (.one (.int .i64))), (9, .d (.one (.int .i64)))], objs := [] }
def lens_Size_o0 : List (Exit' × Shape) := [(.exit 0, { slots := [(3, .d (.one (.int .i64)))], objs := [] })]
def lens_Size_c0 : ACode := (.seq (.region [] [⟨some 10, .icmp .lss (.t 9) (.t 8), none, []⟩] false 0)
  (.seq (.cond (.t 10) .skip
  (.exit 0))
  (.seq (.block 1 (.seq (.region [] [⟨some 11, .iad 29 (.agg [.int .i64, .str, .str, .sl 9, .int .i64, .int .i64, .int .i64, .int .u8, .int .i64, .int .i64, .str, .sl 55, .sl 44, .sl 29]) (.t 7) (.t 9), none, []⟩,
    ⟨some 12, .ld (.agg [.int .i64, .str, .str, .sl 9, .int .i64, .int .i64, .int .i64, .int .u8, .int .i64, .int .i64, .str, .sl 55, .sl 44, .sl 29]) 29 (.t 11), none, []⟩,
    ⟨some 5, .allocO 0 (.agg [.int .i64, .str, .str, .sl 9, .int .i64, .int .i64, .int .i64, .int .u8, .int .i64, .int .i64, .str, .sl 55, .sl 44, .sl 29]) [.int 0, .str [], .str [], .nils, .int 0, .int 0, .int 0, .int 0, .int 0, .int 0, .str [], .nils, .nils, .nils], none, []⟩,
    ⟨none, .st (.agg [.int .i64, .str, .str, .sl 9, .int .i64, .int .i64, .int .i64, .int .u8, .int .i64, .int .i64, .str, .sl 55, .sl 44, .sl 29]) (.t 5) (.t 12), none, []⟩] false 1)
  (.region [] [⟨some 13, .mov (.t 3), none, []⟩,
    ⟨some 14, .ld (.agg [.int .i64, .str, .str, .sl 9, .int .i64, .int .i64, .int .i64, .int .u8, .int .i64, .int .i64, .str, .sl 55, .sl 44, .sl 29]) 29 (.t 5), none, []⟩,
    ⟨some 15, .call 11 [(.agg [.int .i64, .str, .str, .sl 9, .int .i64, .int .i64, .int .i64, .int .u8, .int .i64, .int .i64, .str, .sl 55, .sl 44, .sl 29])] [(.one (.int .i64))] [(.t 14)], none, []⟩,
    ⟨some 16, .ibin .add (.t 13) (.t 15), none, []⟩,
    ⟨some 3, .mov (.t 16), none, []⟩] false 0)))
  (.region [] [⟨some 17, .ibin .add (.t 9) (.c (.one (.int .i64)) [.int 1]), none, []⟩,
    ⟨some 9, .mov (.t 17), none, []⟩] false 0))))
noncomputable def lens_Size_l0 (E : Env) (v0 : Int) (v1 : C) (v2 : Int) (v3 : Int) : Option (Nat × List PV) := E.fix (stepOf E lens_Size_c0 lens_Size_h0 lens_Size_o0) [.r [.int v0], .r [v1], .r [.int v2], .r [.int v3]]
noncomputable def lens_Size_b0 (E : Env) (X : Int → C → Int → Int → Option (Nat × List PV)) (v0 : Int) (v1 : C) (v2 : Int) (v3 : Int) : Option (Nat × List PV) :=
  if (decide (v3 < v2)) = true then
    if (0 : Int) ≤ v3 ∧ v3 < (v1.rows.length : Int) then
      (E.pc n_lens_Size [rowsAt v1.rows v3.toNat]).bind fun y1 =>
        X (Go.IntKind.i64.wrap (v0 + ((at_ (rowsAt y1 0) 0).toI))) v1 v2 (Go.IntKind.i64.wrap (v3 + 1))
    else none
  else
    some (0, [.r [.int v0]])
theorem lens_Size_s0 (E : Env) (X : List PV → Option (Nat × List PV)) (v0 : Int) (v1 : C) (v2 : Int) (v3 : Int) : stepOf E lens_Size_c0 lens_Size_h0 lens_Size_o0 X [.r [.int v0], .r [v1], .r [.int v2], .r [.int v3]] = lens_Size_b0 E (fun (v0 : Int) (v1 : C) (v2 : Int) (v3 : Int) => X [.r [.int v0], .r [v1], .r [.int v2], .r [.int v3]]) v0 v1 v2 v3 := by kernel_rfl
def lens_Size_a : AFun := { ps := [(.agg [.int .i64, .str, .str, .sl 9, .int .i64, .int .i64, .int .i64, .int .u8, .int .i64, .int .i64, .str, .sl 55, .sl 44, .sl 29])], rs := [(.one (.int .i64))], res := [(false, 2, none)], body := (.seq (.region [] [⟨some 1, .boxP (.agg [.int .i64, .str, .str, .sl 9, .int .i64, .int .i64, .int .i64, .int .u8, .int .i64, .int .i64, .str, .sl 55, .sl 44, .sl 29]) 29 (.t 0), none, []⟩,
    ⟨some 2, .mov (.c (.one (.int .i64)) [.int 0]), none, []⟩] false 0)
  (.seq (.region [] [⟨some 3, .mov (.c (.one (.int .i64)) [.int 1]), none, []⟩] false 0)
  (.seq (.seq (.region [] [⟨some 6, .fad 13 1 29 27 (.t 1), none, []⟩,
    ⟨some 7, .ld (.one (.sl 29)) 27 (.t 6), none, []⟩,
    ⟨some 8, .lenL (.t 7), none, []⟩,
    ⟨some 9, .mov (.c (.one (.int .i64)) [.int 0]), none, []⟩] false 0)
  (.block 0 (.loop lens_Size_h0 lens_Size_o0 lens_Size_c0)))
  (.seq (.region [] [⟨some 18, .mov (.t 3), none, []⟩,
    ⟨some 2, .mov (.t 18), none, []⟩] false 0)
  .ret)))) }
/-- clapperbridge/lens.Size -/
noncomputable def lens_Size (E : Env) (p0 : Row) : Option (List Row) :=
  (lens_Size_l0 E 1 (at_ p0 13) (((at_ p0 13).rows).length : Int) 0).bind fun x2 =>
    some [[.int ((at_ (hd x2.2) 0).toI)]]
theorem lens_Size_eq (E : Env) (p0 : Row) : runP E lens_Size_a [p0] = lens_Size E p0 := by kernel_rfl

def lens_Deep_h0 : Shape := { slots := [(3, .d (.one (.int .i64))), (7, .d (.one (.sl 29))), (8, .d (.one (.int .i64))), (9, .d (.one (.int .i64)))], objs := [] }
def lens_Deep_o0 : List (Exit' × Shape) := [(.exit 0, { slots := [(3, .d (.one (.int .i64)))], objs := [] })]
def lens_Deep_c0 : ACode := (.seq (.region [] [⟨some 10, .icmp .lss (.t 9) (.t 8), none, []⟩] false 0)
  (.seq (.cond (.t 10) .skip
  (.exit 0))
  (.seq (.block 1 (.seq (.region [] [⟨some 11, .iad 29 (.agg [.int .i64, .str, .str, .sl 9, .int .i64, .int .i64, .int .i64, .int .u8, .int .i64, .int .i64, .str, .sl 55, .sl 44, .sl 29]) (.t 7) (.t 9), none, []⟩,
    ⟨some 12, .ld (.agg [.int .i64, .str, .str, .sl 9, .int .i64, .int .i64, .int .i64, .int .u8, .int .i64, .int .i64, .str, .sl 55, .sl 44, .sl 29]) 29 (.t 11), none, []⟩,
    ⟨some 5, .allocO 0 (.agg [.int .i64, .str, .str, .sl 9, .int .i64, .int .i64, .int .i64, .int .u8, .int .i64, .int .i64, .str, .sl 55, .sl 44, .sl 29]) [.int 0, .str [], .str [], .nils, .int 0, .int 0, .int 0, .int 0, .int 0, .int 0, .str [], .nils, .nils, .nils], none, []⟩,
    ⟨none, .st (.agg [.int .i64, .str, .str, .sl 9, .int .i64, .int .i64, .int .i64, .int .u8, .int .i64, .int .i64, .str, .sl 55, .sl 44, .sl 29]) (.t 5) (.t 12), none, []⟩] false 1)
  (.region [] [⟨some 13, .mov (.t 3), none, []⟩,
    ⟨some 14, .ld (.agg [.int .i64, .str, .str, .sl 9, .int .i64, .int .i64, .int .i64, .int .u8, .int .i64, .int .i64, .str, .sl 55, .sl 44, .sl 29]) 29 (.t 5), none, []⟩,
    ⟨some 15, .call 22 [(.agg [.int .i64, .str, .str, .sl 9, .int .i64, .int .i64, .int .i64, .int .u8, .int .i64, .int .i64, .str, .sl 55, .sl 44, .sl 29])] [(.one (.int .i64))] [(.t 14)], none, []⟩,
    ⟨some 16, .imin true [(.t 13), (.t 15)], none, []⟩,
    ⟨some 3, .mov (.t 16), none, []⟩] false 0)))
  (.region [] [⟨some 17, .ibin .add (.t 9) (.c (.one (.int .i64)) [.int 1]), none, []⟩,
    ⟨some 9, .mov (.t 17), none, []⟩] false 0))))
noncomputable def lens_Deep_l0 (E : Env) (v0 : Int) (v1 : C) (v2 : Int) (v3 : Int) : Option (Nat × List PV) := E.fix (stepOf E lens_Deep_c0 lens_Deep_h0 lens_Deep_o0) [.r [.int v0], .r [v1], .r [.int v2], .r [.int v3]]
noncomputable def lens_Deep_b0 (E : Env) (X : Int → C → Int → Int → Option (Nat × List PV)) (v0 : Int) (v1 : C) (v2 : Int) (v3 : Int) : Option (Nat × List PV) :=
  if (decide (v3 < v2)) = true then
    if (0 : Int) ≤ v3 ∧ v3 < (v1.rows.length : Int) then
      (E.pc n_lens_Deep [rowsAt v1.rows v3.toNat]).bind fun y1 =>
        X (if ((at_ (rowsAt y1 0) 0).toI) > v0 then (at_ (rowsAt y1 0) 0).toI else v0) v1 v2 (Go.IntKind.i64.wrap (v3 + 1))
    else none
  else
    some (0, [.r [.int v0]])
theorem lens_Deep_s0 (E : Env) (X : List PV → Option (Nat × List PV)) (v0 : Int) (v1 : C) (v2 : Int) (v3 : Int) : stepOf E lens_Deep_c0 lens_Deep_h0 lens_Deep_o0 X [.r [.int v0], .r [v1], .r [.int v2], .r [.int v3]] = lens_Deep_b0 E (fun (v0 : Int) (v1 : C) (v2 : Int) (v3 : Int) => X [.r [.int v0], .r [v1], .r [.int v2], .r [.int v3]]) v0 v1 v2 v3 := by kernel_rfl
def lens_Deep_a : AFun := { ps := [(.agg [.int .i64, .str, .str, .sl 9, .int .i64, .int .i64, .int .i64, .int .u8, .int .i64, .int .i64, .str, .sl 55, .sl 44, .sl 29])], rs := [(.one (.int .i64))], res := [(false, 2, none)], body := (.seq (.region [] [⟨some 1, .boxP (.agg [.int .i64, .str, .str, .sl 9, .int .i64, .int .i64, .int .i64, .int .u8, .int .i64, .int .i64, .str, .sl 55, .sl 44, .sl 29]) 29 (.t 0), none, []⟩,
    ⟨some 2, .mov (.c (.one (.int .i64)) [.int 0]), none, []⟩] false 0)
  (.seq (.region [] [⟨some 3, .mov (.c (.one (.int .i64)) [.int 0]), none, []⟩] false 0)
  (.seq (.seq (.region [] [⟨some 6, .fad 13 1 29 27 (.t 1), none, []⟩,
    ⟨some 7, .ld (.one (.sl 29)) 27 (.t 6), none, []⟩,
    ⟨some 8, .lenL (.t 7), none, []⟩,
    ⟨some 9, .mov (.c (.one (.int .i64)) [.int 0]), none, []⟩] false 0)
  (.block 0 (.loop lens_Deep_h0 lens_Deep_o0 lens_Deep_c0)))
  (.seq (.region [] [⟨some 18, .mov (.t 3), none, []⟩,
    ⟨some 19, .ibin .add (.t 18) (.c (.one (.int .i64)) [.int 1]), none, []⟩,
    ⟨some 2, .mov (.t 19), none, []⟩] false 0)
  .ret)))) }
/-- clapperbridge/lens.Deep -/
noncomputable def lens_Deep (E : Env) (p0 : Row) : Option (List Row) :=
  (lens_Deep_l0 E 0 (at_ p0 13) (((at_ p0 13).rows).length : Int) 0).bind fun x2 =>
    some [[.int (Go.IntKind.i64.wrap (((at_ (hd x2.2) 0).toI) + 1))]]
theorem lens_Deep_eq (E : Env) (p0 : Row) : runP E lens_Deep_a [p0] = lens_Deep E p0 := by kernel_rfl

def value_order_a : AFun := { ps := [(.one (.int .i64))], rs := [(.one (.int .i64))], res := [(false, 2, none)], body := (.seq (.region [] [⟨some 2, .mov (.c (.one (.int .i64)) [.int 0]), none, []⟩] false 0)
  (.seq (.seq (.region [] [⟨some 3, .mov (.t 0), none, []⟩,
    ⟨some 4, .icmp .lss (.t 3) (.c (.one (.int .i64)) [.int 0]), none, []⟩] false 0)
  (.cond (.t 4) (.seq (.region [] [⟨some 5, .mov (.t 0), none, []⟩,
    ⟨some 6, .ibin .and (.t 5) (.c (.one (.int .i64)) [.int 9223372036854775807]), none, []⟩,
    ⟨some 7, .ibin .sub (.c (.one (.int .i64)) [.int (-1)]) (.t 6), none, []⟩,
    ⟨some 2, .mov (.t 7), none, []⟩] false 0)
  .ret)
  .skip))
  (.seq (.region [] [⟨some 8, .mov (.t 0), none, []⟩,
    ⟨some 2, .mov (.t 8), none, []⟩] false 0)
  .ret))) }
/-- clapperbridge/value.order -/
noncomputable def value_order (E : Env) (p0 : Int) : Option (List Row) :=
  if (decide (p0 < 0)) = true then
    some [[.int (Go.IntKind.i64.wrap ((-1) - (bitsOf .and .i64 p0 9223372036854775807)))]]
  else
    some [[.int p0]]
theorem value_order_eq (E : Env) (p0 : Int) : runP E value_order_a [[.int p0]] = value_order E p0 := by kernel_rfl

def cmp_Or_int_h0 : Shape := { slots := [(3, .d (.one (.int .i64))), (6, .d (.one (.sl 3))), (7, .d (.one (.int .i64))), (8, .d (.one (.int .i64)))], objs := [] }
def cmp_Or_int_o0 : List (Exit' × Shape) := [(.exit 0, { slots := [(3, .d (.one (.int .i64)))], objs := [] }), (.ret, { slots := [(2, .d (.one (.int .i64)))], objs := [] })]
def cmp_Or_int_c0 : ACode := (.seq (.region [] [⟨some 9, .icmp .lss (.t 8) (.t 7), none, []⟩] false 0)
  (.seq (.cond (.t 9) .skip
  (.exit 0))
  (.seq (.block 1 (.seq (.region [] [⟨some 10, .iad 3 (.one (.int .i64)) (.t 6) (.t 8), none, []⟩,
    ⟨some 11, .ld (.one (.int .i64)) 3 (.t 10), none, []⟩,
    ⟨some 5, .mov (.t 11), none, []⟩] false 0)
  (.seq (.region [] [⟨some 12, .mov (.t 5), none, []⟩,
    ⟨some 13, .mov (.t 3), none, []⟩,
    ⟨some 14, .icmp .neq (.t 12) (.t 13), none, []⟩] false 0)
  (.cond (.t 14) (.seq (.region [] [⟨some 15, .mov (.t 5), none, []⟩,
    ⟨some 2, .mov (.t 15), none, []⟩] false 0)
  .ret)
  .skip))))
  (.region [] [⟨some 16, .ibin .add (.t 8) (.c (.one (.int .i64)) [.int 1]), none, []⟩,
    ⟨some 8, .mov (.t 16), none, []⟩] false 0))))
noncomputable def cmp_Or_int_l0 (E : Env) (v0 : Int) (v1 : C) (v2 : Int) (v3 : Int) : Option (Nat × List PV) := E.fix (stepOf E cmp_Or_int_c0 cmp_Or_int_h0 cmp_Or_int_o0) [.r [.int v0], .r [v1], .r [.int v2], .r [.int v3]]
noncomputable def cmp_Or_int_b0 (E : Env) (X : Int → C → Int → Int → Option (Nat × List PV)) (v0 : Int) (v1 : C) (v2 : Int) (v3 : Int) : Option (Nat × List PV) :=
  if (decide (v3 < v2)) = true then
    if (0 : Int) ≤ v3 ∧ v3 < (v1.rows.length : Int) then
      if (((at_ (rowsAt v1.rows v3.toNat) 0).toI) != v0) = true then
        some (1, [.r [.int ((at_ (rowsAt v1.rows v3.toNat) 0).toI)]])
      else
        X v0 v1 v2 (Go.IntKind.i64.wrap (v3 + 1))
    else none
  else
    some (0, [.r [.int v0]])
theorem cmp_Or_int_s0 (E : Env) (X : List PV → Option (Nat × List PV)) (v0 : Int) (v1 : C) (v2 : Int) (v3 : Int) : stepOf E cmp_Or_int_c0 cmp_Or_int_h0 cmp_Or_int_o0 X [.r [.int v0], .r [v1], .r [.int v2], .r [.int v3]] = cmp_Or_int_b0 E (fun (v0 : Int) (v1 : C) (v2 : Int) (v3 : Int) => X [.r [.int v0], .r [v1], .r [.int v2], .r [.int v3]]) v0 v1 v2 v3 := by kernel_rfl
def cmp_Or_int_a : AFun := { ps := [(.one (.sl 3))], rs := [(.one (.int .i64))], res := [(false, 2, none)], body := (.seq (.region [] [⟨some 2, .mov (.c (.one (.int .i64)) [.int 0]), none, []⟩] false 0)
  (.seq (.region [] [⟨some 3, .mov (.c (.one (.int .i64)) [.int 0]), none, []⟩] false 0)
  (.seq (.seq (.region [] [⟨some 6, .mov (.t 0), none, []⟩,
    ⟨some 7, .lenL (.t 6), none, []⟩,
    ⟨some 8, .mov (.c (.one (.int .i64)) [.int 0]), none, []⟩] false 0)
  (.block 0 (.loop cmp_Or_int_h0 cmp_Or_int_o0 cmp_Or_int_c0)))
  (.seq (.region [] [⟨some 17, .mov (.t 3), none, []⟩,
    ⟨some 2, .mov (.t 17), none, []⟩] false 0)
  .ret)))) }
/-- cmp.Or[int] -/
noncomputable def cmp_Or_int (E : Env) (p0 : C) : Option (List Row) :=
  (cmp_Or_int_l0 E 0 p0 (p0.rows.length : Int) 0).bind fun x1 =>
    match x1.1 with
    | 0 =>
      some [[.int ((at_ (hd x1.2) 0).toI)]]
    | i2 + 1 =>
      some [[.int ((at_ (hd x1.2) 0).toI)]]
theorem cmp_Or_int_eq (E : Env) (p0 : C) : runP E cmp_Or_int_a [[p0]] = cmp_Or_int E p0 := by kernel_rfl

def cmp_isNaN_int_a : AFun := { ps := [(.one (.int .i64))], rs := [(.one (.bool))], res := [(false, 2, none)], body := (.seq (.region [] [⟨some 2, .mov (.c (.one (.bool)) [.bool false]), none, []⟩] false 0)
  (.seq (.region [] [⟨some 3, .mov (.t 0), none, []⟩,
    ⟨some 4, .mov (.t 0), none, []⟩,
    ⟨some 5, .icmp .neq (.t 3) (.t 4), none, []⟩,
    ⟨some 2, .mov (.t 5), none, []⟩] false 0)
  .ret)) }
/-- cmp.isNaN[int] -/
noncomputable def cmp_isNaN_int (E : Env) (p0 : Int) : Option (List Row) :=
  some [[.bool (p0 != p0)]]
theorem cmp_isNaN_int_eq (E : Env) (p0 : Int) : runP E cmp_isNaN_int_a [[.int p0]] = cmp_isNaN_int E p0 := by kernel_rfl

def cmp_Compare_int_a : AFun := { ps := [(.one (.int .i64)), (.one (.int .i64))], rs := [(.one (.int .i64))], res := [(false, 4, none)], body := (.seq (.region [] [⟨some 4, .mov (.c (.one (.int .i64)) [.int 0]), none, []⟩] false 0)
  (.seq (.region [] [⟨some 7, .mov (.t 0), none, []⟩,
    ⟨some 8, .call 44 [(.one (.int .i64))] [(.one (.bool))] [(.t 7)], none, []⟩,
    ⟨some 5, .mov (.t 8), none, []⟩] false 0)
  (.seq (.region [] [⟨some 9, .mov (.t 1), none, []⟩,
    ⟨some 10, .call 44 [(.one (.int .i64))] [(.one (.bool))] [(.t 9)], none, []⟩,
    ⟨some 6, .mov (.t 10), none, []⟩] false 0)
  (.seq (.seq (.region [] [⟨some 11, .mov (.t 5), none, []⟩] false 0)
  (.cond (.t 11) (.seq (.seq (.region [] [⟨some 12, .mov (.t 6), none, []⟩] false 0)
  (.cond (.t 12) (.seq (.region [] [⟨some 4, .mov (.c (.one (.int .i64)) [.int 0]), none, []⟩] false 0)
  .ret)
  .skip))
  (.seq (.region [] [⟨some 4, .mov (.c (.one (.int .i64)) [.int (-1)]), none, []⟩] false 0)
  .ret))
  .skip))
  (.seq (.seq (.region [] [⟨some 13, .mov (.t 6), none, []⟩] false 0)
  (.cond (.t 13) (.seq (.region [] [⟨some 4, .mov (.c (.one (.int .i64)) [.int 1]), none, []⟩] false 0)
  .ret)
  .skip))
  (.seq (.seq (.region [] [⟨some 14, .mov (.t 0), none, []⟩,
    ⟨some 15, .mov (.t 1), none, []⟩,
    ⟨some 16, .icmp .lss (.t 14) (.t 15), none, []⟩] false 0)
  (.cond (.t 16) (.seq (.region [] [⟨some 4, .mov (.c (.one (.int .i64)) [.int (-1)]), none, []⟩] false 0)
  .ret)
  .skip))
  (.seq (.seq (.region [] [⟨some 17, .mov (.t 0), none, []⟩,
    ⟨some 18, .mov (.t 1), none, []⟩,
    ⟨some 19, .icmp .gtr (.t 17) (.t 18), none, []⟩] false 0)
  (.cond (.t 19) (.seq (.region [] [⟨some 4, .mov (.c (.one (.int .i64)) [.int 1]), none, []⟩] false 0)
  .ret)
  .skip))
  (.seq (.region [] [⟨some 4, .mov (.c (.one (.int .i64)) [.int 0]), none, []⟩] false 0)
  .ret)))))))) }
/-- cmp.Compare[int] -/
noncomputable def cmp_Compare_int (E : Env) (p0 : Int) (p1 : Int) : Option (List Row) :=
  (E.pc n_cmp_isNaN_int [[.int p0]]).bind fun y1 =>
    (E.pc n_cmp_isNaN_int [[.int p1]]).bind fun y2 =>
      if ((at_ (rowsAt y1 0) 0).toB) = true then
        if ((at_ (rowsAt y2 0) 0).toB) = true then
          some [[.int 0]]
        else
          some [[.int (-1)]]
      else
        if ((at_ (rowsAt y2 0) 0).toB) = true then
          some [[.int 1]]
        else
          if (decide (p0 < p1)) = true then
            some [[.int (-1)]]
          else
            if (decide (p0 > p1)) = true then
              some [[.int 1]]
            else
              some [[.int 0]]
theorem cmp_Compare_int_eq (E : Env) (p0 : Int) (p1 : Int) : runP E cmp_Compare_int_a [[.int p0], [.int p1]] = cmp_Compare_int E p0 p1 := by kernel_rfl

def internal_bytealg_CompareString_a : AFun := { ps := [(.one (.str)), (.one (.str))], rs := [(.one (.int .i64))], res := [(false, 4, none)], body := (.seq (.region [] [⟨some 4, .mov (.c (.one (.int .i64)) [.int 0]), none, []⟩] false 0)
  (.seq (.region [] [⟨some 5, .mov (.t 0), none, []⟩,
    ⟨some 6, .mov (.t 1), none, []⟩,
    ⟨some 7, .cmpS 53 (.t 5) (.t 6), none, []⟩,
    ⟨some 4, .mov (.t 7), none, []⟩] false 0)
  .ret)) }
/-- internal/bytealg.CompareString -/
noncomputable def internal_bytealg_CompareString (E : Env) (p0 : List UInt8) (p1 : List UInt8) : Option (List Row) :=
  some [[.int (cmpBytes p0 p1)]]
theorem internal_bytealg_CompareString_eq (E : Env) (p0 : List UInt8) (p1 : List UInt8) : runP E internal_bytealg_CompareString_a [[.str p0], [.str p1]] = internal_bytealg_CompareString E p0 p1 := by kernel_rfl

def strings_Compare_a : AFun := { ps := [(.one (.str)), (.one (.str))], rs := [(.one (.int .i64))], res := [(false, 4, none)], body := (.seq (.region [] [⟨some 4, .mov (.c (.one (.int .i64)) [.int 0]), none, []⟩] false 0)
  (.seq (.region [] [⟨some 5, .mov (.t 0), none, []⟩,
    ⟨some 6, .mov (.t 1), none, []⟩,
    ⟨some 7, .call 45 [(.one (.str)), (.one (.str))] [(.one (.int .i64))] [(.t 5), (.t 6)], none, []⟩,
    ⟨some 4, .mov (.t 7), none, []⟩] false 0)
  .ret)) }
/-- strings.Compare -/
noncomputable def strings_Compare (E : Env) (p0 : List UInt8) (p1 : List UInt8) : Option (List Row) :=
  (E.pc n_internal_bytealg_CompareString [[.str p0], [.str p1]]).bind fun y1 =>
    some [[.int ((at_ (rowsAt y1 0) 0).toI)]]
theorem strings_Compare_eq (E : Env) (p0 : List UInt8) (p1 : List UInt8) : runP E strings_Compare_a [[.str p0], [.str p1]] = strings_Compare E p0 p1 := by kernel_rfl

def slices_CompareFunc_api_Field_h0 : Shape := { slots := [(0, .d (.one (.sl 55))), (1, .d (.one (.sl 55))), (2, .d (.one (.fn 69))), (11, .d (.one (.sl 55))), (12, .d (.one (.int .i64))), (13, .d (.one (.int .i64)))], objs := [] }
def slices_CompareFunc_api_Field_o0 : List (Exit' × Shape) := [(.exit 0, { slots := [(0, .d (.one (.sl 55))), (1, .d (.one (.sl 55)))], objs := [] }), (.ret, { slots := [(6, .d (.one (.int .i64)))], objs := [] })]
def slices_CompareFunc_api_Field_c0 : ACode := (.seq (.region [] [⟨some 14, .icmp .lss (.t 13) (.t 12), none, []⟩] false 0)
  (.seq (.cond (.t 14) .skip
  (.exit 0))
  (.seq (.block 1 (.seq (.region [] [⟨some 15, .mov (.t 13), none, []⟩,
    ⟨some 16, .iad 55 (.agg [.str, .int .i64, .int .i64, .str, .sl 55]) (.t 11) (.t 13), none, []⟩,
    ⟨some 17, .ld (.agg [.str, .int .i64, .int .i64, .str, .sl 55]) 55 (.t 16), none, []⟩,
    ⟨some 8, .allocO 0 (.agg [.str, .int .i64, .int .i64, .str, .sl 55]) [.str [], .int 0, .int 0, .str [], .nils], none, []⟩,
    ⟨some 7, .mov (.t 15), none, []⟩,
    ⟨none, .st (.agg [.str, .int .i64, .int .i64, .str, .sl 55]) (.t 8) (.t 17), none, []⟩] false 1)
  (.seq (.seq (.region [] [⟨some 18, .mov (.t 7), none, []⟩,
    ⟨some 19, .mov (.t 1), none, []⟩,
    ⟨some 20, .lenL (.t 19), none, []⟩,
    ⟨some 21, .icmp .geq (.t 18) (.t 20), none, []⟩] false 0)
  (.cond (.t 21) (.seq (.region [] [⟨some 6, .mov (.c (.one (.int .i64)) [.int 1]), none, []⟩] false 0)
  .ret)
  .skip))
  (.seq (.region [] [⟨some 22, .mov (.t 1), none, []⟩,
    ⟨some 23, .mov (.t 7), none, []⟩,
    ⟨some 24, .iad 55 (.agg [.str, .int .i64, .int .i64, .str, .sl 55]) (.t 22) (.t 23), none, []⟩,
    ⟨some 25, .ld (.agg [.str, .int .i64, .int .i64, .str, .sl 55]) 55 (.t 24), none, []⟩,
    ⟨some 9, .allocO 0 (.agg [.str, .int .i64, .int .i64, .str, .sl 55]) [.str [], .int 0, .int 0, .str [], .nils], none, []⟩,
    ⟨none, .st (.agg [.str, .int .i64, .int .i64, .str, .sl 55]) (.t 9) (.t 25), none, []⟩] false 1)
  (.seq (.region [] [⟨some 26, .mov (.t 2), none, []⟩,
    ⟨some 27, .ld (.agg [.str, .int .i64, .int .i64, .str, .sl 55]) 55 (.t 8), none, []⟩,
    ⟨some 28, .ld (.agg [.str, .int .i64, .int .i64, .str, .sl 55]) 55 (.t 9), none, []⟩,
    ⟨some 29, .callv 69 [(.agg [.str, .int .i64, .int .i64, .str, .sl 55]), (.agg [.str, .int .i64, .int .i64, .str, .sl 55])] [(.one (.int .i64))] (.t 26) [(.t 27), (.t 28)], none, []⟩,
    ⟨some 10, .mov (.t 29), none, []⟩] false 0)
  (.seq (.region [] [⟨some 30, .mov (.t 10), none, []⟩,
    ⟨some 31, .icmp .neq (.t 30) (.c (.one (.int .i64)) [.int 0]), none, []⟩] false 0)
  (.cond (.t 31) (.seq (.region [] [⟨some 32, .mov (.t 10), none, []⟩,
    ⟨some 6, .mov (.t 32), none, []⟩] false 0)
  .ret)
  .skip)))))))
  (.region [] [⟨some 33, .ibin .add (.t 13) (.c (.one (.int .i64)) [.int 1]), none, []⟩,
    ⟨some 13, .mov (.t 33), none, []⟩] false 0))))
noncomputable def slices_CompareFunc_api_Field_l0 (E : Env) (v0 : C) (v1 : C) (v2 : C) (v3 : C) (v4 : Int) (v5 : Int) : Option (Nat × List PV) := E.fix (stepOf E slices_CompareFunc_api_Field_c0 slices_CompareFunc_api_Field_h0 slices_CompareFunc_api_Field_o0) [.r [v0], .r [v1], .r [v2], .r [v3], .r [.int v4], .r [.int v5]]
noncomputable def slices_CompareFunc_api_Field_b0 (E : Env) (X : C → C → C → C → Int → Int → Option (Nat × List PV)) (v0 : C) (v1 : C) (v2 : C) (v3 : C) (v4 : Int) (v5 : Int) : Option (Nat × List PV) :=
  if (decide (v5 < v4)) = true then
    if (0 : Int) ≤ v5 ∧ v5 < (v3.rows.length : Int) then
      if (decide (v5 ≥ (v1.rows.length : Int))) = true then
        some (1, [.r [.int 1]])
      else
        if (0 : Int) ≤ v5 ∧ v5 < (v1.rows.length : Int) then
          (callC E v2 [rowsAt v3.rows v5.toNat, rowsAt v1.rows v5.toNat]).bind fun y1 =>
            if (((at_ (rowsAt y1 0) 0).toI) != 0) = true then
              some (1, [.r [.int ((at_ (rowsAt y1 0) 0).toI)]])
            else
              X v0 v1 v2 v3 v4 (Go.IntKind.i64.wrap (v5 + 1))
        else none
    else none
  else
    some (0, [.r [v0], .r [v1]])
theorem slices_CompareFunc_api_Field_s0 (E : Env) (X : List PV → Option (Nat × List PV)) (v0 : C) (v1 : C) (v2 : C) (v3 : C) (v4 : Int) (v5 : Int) : stepOf E slices_CompareFunc_api_Field_c0 slices_CompareFunc_api_Field_h0 slices_CompareFunc_api_Field_o0 X [.r [v0], .r [v1], .r [v2], .r [v3], .r [.int v4], .r [.int v5]] = slices_CompareFunc_api_Field_b0 E (fun (v0 : C) (v1 : C) (v2 : C) (v3 : C) (v4 : Int) (v5 : Int) => X [.r [v0], .r [v1], .r [v2], .r [v3], .r [.int v4], .r [.int v5]]) v0 v1 v2 v3 v4 v5 := by kernel_rfl
def slices_CompareFunc_api_Field_a : AFun := { ps := [(.one (.sl 55)), (.one (.sl 55)), (.one (.fn 69))], rs := [(.one (.int .i64))], res := [(false, 6, none)], body := (.seq (.region [] [⟨some 6, .mov (.c (.one (.int .i64)) [.int 0]), none, []⟩] false 0)
  (.seq (.seq (.region [] [⟨some 11, .mov (.t 0), none, []⟩,
    ⟨some 12, .lenL (.t 11), none, []⟩,
    ⟨some 13, .mov (.c (.one (.int .i64)) [.int 0]), none, []⟩] false 0)
  (.block 0 (.loop slices_CompareFunc_api_Field_h0 slices_CompareFunc_api_Field_o0 slices_CompareFunc_api_Field_c0)))
  (.seq (.seq (.region [] [⟨some 34, .mov (.t 0), none, []⟩,
    ⟨some 35, .lenL (.t 34), none, []⟩,
    ⟨some 36, .mov (.t 1), none, []⟩,
    ⟨some 37, .lenL (.t 36), none, []⟩,
    ⟨some 38, .icmp .lss (.t 35) (.t 37), none, []⟩] false 0)
  (.cond (.t 38) (.seq (.region [] [⟨some 6, .mov (.c (.one (.int .i64)) [.int (-1)]), none, []⟩] false 0)
  .ret)
  .skip))
  (.seq (.region [] [⟨some 6, .mov (.c (.one (.int .i64)) [.int 0]), none, []⟩] false 0)
  .ret)))) }
/-- slices.CompareFunc[[]clapperbridge/api.Field,[]clapperbridge/api.Field,clapperbridge/api.Field,clapperbridge/api.Field] -/
noncomputable def slices_CompareFunc_api_Field (E : Env) (p0 : C) (p1 : C) (p2 : C) : Option (List Row) :=
  (slices_CompareFunc_api_Field_l0 E p0 p1 p2 p0 (p0.rows.length : Int) 0).bind fun x2 =>
    match x2.1 with
    | 0 =>
      if (decide ((((at_ (hd x2.2) 0).rows).length : Int) < (((at_ (hd x2.2.tail) 0).rows).length : Int))) = true then
        some [[.int (-1)]]
      else
        some [[.int 0]]
    | i3 + 1 =>
      some [[.int ((at_ (hd x2.2) 0).toI)]]
theorem slices_CompareFunc_api_Field_eq (E : Env) (p0 : C) (p1 : C) (p2 : C) : runP E slices_CompareFunc_api_Field_a [[p0], [p1], [p2]] = slices_CompareFunc_api_Field E p0 p1 p2 := by kernel_rfl

def value_Cmp_1_a : AFun := { ps := [(.agg [.str, .int .i64, .int .i64, .str, .sl 55]), (.agg [.str, .int .i64, .int .i64, .str, .sl 55])], rs := [(.one (.int .i64))], res := [(false, 4, none)], body := (.seq (.region [] [⟨some 2, .boxP (.agg [.str, .int .i64, .int .i64, .str, .sl 55]) 55 (.t 0), none, []⟩,
    ⟨some 3, .boxP (.agg [.str, .int .i64, .int .i64, .str, .sl 55]) 55 (.t 1), none, []⟩,
    ⟨some 4, .mov (.c (.one (.int .i64)) [.int 0]), none, []⟩] false 0)
  (.seq (.region [] [⟨some 5, .fad 0 1 55 9 (.t 2), none, []⟩,
    ⟨some 6, .ld (.one (.str)) 9 (.t 5), none, [0]⟩,
    ⟨some 7, .fad 0 1 55 9 (.t 3), none, []⟩,
    ⟨some 8, .ld (.one (.str)) 9 (.t 7), none, [2]⟩,
    ⟨some 9, .call 35 [(.one (.str)), (.one (.str))] [(.one (.int .i64))] [(.t 6), (.t 8)], none, [0, 1, 2, 3]⟩,
    ⟨some 10, .fad 1 4 55 25 (.t 2), none, []⟩,
    ⟨some 11, .ld (.agg [.int .i64, .int .i64, .str, .sl 55]) 25 (.t 10), none, [5]⟩,
    ⟨some 12, .fad 1 4 55 25 (.t 3), none, []⟩,
    ⟨some 13, .ld (.agg [.int .i64, .int .i64, .str, .sl 55]) 25 (.t 12), none, [7]⟩,
    ⟨some 14, .call 24 [(.agg [.int .i64, .int .i64, .str, .sl 55]), (.agg [.int .i64, .int .i64, .str, .sl 55])] [(.one (.int .i64))] [(.t 11), (.t 13)], none, [0, 1, 2, 3, 4, 5, 6, 7, 8]⟩,
    ⟨some 15, .bsl 3 (.one (.int .i64)) 2 [.int 0] [(0, (.t 9)), (1, (.t 14))], none, [0, 1, 2, 3, 4, 5, 6, 7, 8, 9]⟩,
    ⟨some 16, .call 33 [(.one (.sl 3))] [(.one (.int .i64))] [(.t 15)], none, [0, 1, 2, 3, 4, 5, 6, 7, 8, 9, 10]⟩,
    ⟨some 4, .mov (.t 16), none, [0, 1, 2, 3, 4, 5, 6, 7, 8, 9, 10, 11]⟩] true 0)
  .ret)) }
/-- clapperbridge/value.Cmp$1 -/
noncomputable def value_Cmp_1 (E : Env) (p0 : Row) (p1 : Row) : Option (List Row) :=
  (E.pc n_strings_Compare [[.str ((at_ p0 0).toS)], [.str ((at_ p1 0).toS)]]).bind fun y1 =>
    (E.pc n_value_Cmp [[at_ p0 1, at_ p0 2, at_ p0 3, at_ p0 4], [at_ p1 1, at_ p1 2, at_ p1 3, at_ p1 4]]).bind fun y2 =>
      (E.pc n_cmp_Or_int [[.sl ([[.int ((at_ (rowsAt y1 0) 0).toI)], [.int ((at_ (rowsAt y2 0) 0).toI)]] : List Row)]]).bind fun y3 =>
        some [[.int ((at_ (rowsAt y3 0) 0).toI)]]
theorem value_Cmp_1_eq (E : Env) (p0 : Row) (p1 : Row) : runP E value_Cmp_1_a [p0, p1] = value_Cmp_1 E p0 p1 := by kernel_rfl

def value_Cmp_a : AFun := { ps := [(.agg [.int .i64, .int .i64, .str, .sl 55]), (.agg [.int .i64, .int .i64, .str, .sl 55])], rs := [(.one (.int .i64))], res := [(false, 4, none)], body := (.seq (.region [] [⟨some 2, .boxP (.agg [.int .i64, .int .i64, .str, .sl 55]) 25 (.t 0), none, []⟩,
    ⟨some 3, .boxP (.agg [.int .i64, .int .i64, .str, .sl 55]) 25 (.t 1), none, []⟩,
    ⟨some 4, .mov (.c (.one (.int .i64)) [.int 0]), none, []⟩] false 0)
  (.seq (.region [] [⟨some 8, .fad 1 1 25 3 (.t 2), none, []⟩,
    ⟨some 9, .ld (.one (.int .i64)) 3 (.t 8), none, [0]⟩,
    ⟨some 10, .fad 1 1 25 3 (.t 3), none, []⟩,
    ⟨some 11, .ld (.one (.int .i64)) 3 (.t 10), none, [2]⟩,
    ⟨some 5, .mov (.t 9), none, [0, 1]⟩,
    ⟨some 6, .mov (.t 11), none, [0, 1, 2, 3, 4]⟩] true 0)
  (.seq (.seq (.region [] [⟨some 12, .fad 0 1 25 3 (.t 2), none, []⟩,
    ⟨some 13, .ld (.one (.int .i64)) 3 (.t 12), none, []⟩,
    ⟨some 14, .icmp .eql (.t 13) (.c (.one (.int .i64)) [.int 3]), none, []⟩] false 0)
  (.join [(.normal, { slots := [(2, .d (.one (.ref 25))), (3, .d (.one (.ref 25))), (5, .d (.one (.int .i64))), (6, .d (.one (.int .i64)))], objs := [] })] (.cond (.t 14) (.region [] [⟨some 15, .mov (.t 5), none, []⟩,
    ⟨some 16, .call 32 [(.one (.int .i64))] [(.one (.int .i64))] [(.t 15)], none, []⟩,
    ⟨some 17, .mov (.t 6), none, []⟩,
    ⟨some 18, .call 32 [(.one (.int .i64))] [(.one (.int .i64))] [(.t 17)], none, []⟩,
    ⟨some 5, .mov (.t 16), none, []⟩,
    ⟨some 6, .mov (.t 18), none, []⟩] false 0)
  .skip)))
  (.seq (.region [] [⟨some 19, .fad 0 1 25 3 (.t 2), none, []⟩,
    ⟨some 20, .ld (.one (.int .i64)) 3 (.t 19), none, [0]⟩,
    ⟨some 21, .fad 0 1 25 3 (.t 3), none, []⟩,
    ⟨some 22, .ld (.one (.int .i64)) 3 (.t 21), none, [2]⟩,
    ⟨some 23, .call 34 [(.one (.int .i64)), (.one (.int .i64))] [(.one (.int .i64))] [(.t 20), (.t 22)], none, [0, 1, 2, 3]⟩,
    ⟨some 24, .mov (.t 5), none, []⟩,
    ⟨some 25, .mov (.t 6), none, []⟩,
    ⟨some 26, .call 34 [(.one (.int .i64)), (.one (.int .i64))] [(.one (.int .i64))] [(.t 24), (.t 25)], none, [0, 1, 2, 3, 4, 5, 6]⟩,
    ⟨some 27, .fad 2 1 25 9 (.t 2), none, []⟩,
    ⟨some 28, .ld (.one (.str)) 9 (.t 27), none, [8]⟩,
    ⟨some 29, .fad 2 1 25 9 (.t 3), none, []⟩,
    ⟨some 30, .ld (.one (.str)) 9 (.t 29), none, [10]⟩,
    ⟨some 31, .call 35 [(.one (.str)), (.one (.str))] [(.one (.int .i64))] [(.t 28), (.t 30)], none, [0, 1, 2, 3, 4, 5, 6, 7, 8, 9, 10, 11]⟩,
    ⟨some 32, .bsl 3 (.one (.int .i64)) 3 [.int 0] [(0, (.t 23)), (1, (.t 26)), (2, (.t 31))], none, [0, 1, 2, 3, 4, 5, 6, 7, 8, 9, 10, 11, 12]⟩,
    ⟨some 33, .call 33 [(.one (.sl 3))] [(.one (.int .i64))] [(.t 32)], none, [0, 1, 2, 3, 4, 5, 6, 7, 8, 9, 10, 11, 12, 13]⟩,
    ⟨some 7, .mov (.t 33), none, [0, 1, 2, 3, 4, 5, 6, 7, 8, 9, 10, 11, 12, 13, 14]⟩] true 0)
  (.seq (.seq (.region [] [⟨some 34, .mov (.t 7), none, []⟩,
    ⟨some 35, .icmp .neq (.t 34) (.c (.one (.int .i64)) [.int 0]), none, []⟩] false 0)
  (.cond (.t 35) (.seq (.region [] [⟨some 36, .mov (.t 7), none, []⟩,
    ⟨some 4, .mov (.t 36), none, []⟩] false 0)
  .ret)
  .skip))
  (.seq (.region [] [⟨some 37, .fad 3 1 25 23 (.t 2), none, []⟩,
    ⟨some 38, .ld (.one (.sl 55)) 23 (.t 37), none, []⟩,
    ⟨some 39, .fad 3 1 25 23 (.t 3), none, []⟩,
    ⟨some 40, .ld (.one (.sl 55)) 23 (.t 39), none, []⟩,
    ⟨some 41, .call 36 [(.one (.sl 55)), (.one (.sl 55)), (.one (.fn 69))] [(.one (.int .i64))] [(.t 38), (.t 40), (.c (.one (.fn 69)) [.fn 37 []])], none, []⟩,
    ⟨some 4, .mov (.t 41), none, []⟩] false 0)
  .ret)))))) }
/-- clapperbridge/value.Cmp -/
noncomputable def value_Cmp (E : Env) (p0 : Row) (p1 : Row) : Option (List Row) :=
  (if (((at_ p0 0).toI) == 3) = true then
    (E.pc n_value_order [[.int ((at_ p0 1).toI)]]).bind fun y1 =>
      (E.pc n_value_order [[.int ((at_ p1 1).toI)]]).bind fun y2 =>
        some (0, [.r [.dp p0], .r [.dp p1], .r [.int ((at_ (rowsAt y1 0) 0).toI)], .r [.int ((at_ (rowsAt y2 0) 0).toI)]])
  else
    some (0, [.r [.dp p0], .r [.dp p1], .r [.int ((at_ p0 1).toI)], .r [.int ((at_ p1 1).toI)]])).bind fun x3 =>
    if (at_ (hd x3.2) 0).isDp = true then
      if (at_ (hd x3.2.tail) 0).isDp = true then
        (E.pc n_cmp_Compare_int [[.int ((at_ ((at_ (hd x3.2) 0).dpRow) 0).toI)], [.int ((at_ ((at_ (hd x3.2.tail) 0).dpRow) 0).toI)]]).bind fun y4 =>
          (E.pc n_cmp_Compare_int [[.int ((at_ (hd x3.2.tail.tail) 0).toI)], [.int ((at_ (hd x3.2.tail.tail.tail) 0).toI)]]).bind fun y5 =>
            if (at_ (hd x3.2) 0).isDp = true then
              if (at_ (hd x3.2.tail) 0).isDp = true then
                (E.pc n_strings_Compare [[.str ((at_ ((at_ (hd x3.2) 0).dpRow) 2).toS)], [.str ((at_ ((at_ (hd x3.2.tail) 0).dpRow) 2).toS)]]).bind fun y6 =>
                  (E.pc n_cmp_Or_int [[.sl ([[.int ((at_ (rowsAt y4 0) 0).toI)], [.int ((at_ (rowsAt y5 0) 0).toI)], [.int ((at_ (rowsAt y6 0) 0).toI)]] : List Row)]]).bind fun y7 =>
                    if (((at_ (rowsAt y7 0) 0).toI) != 0) = true then
                      some [[.int ((at_ (rowsAt y7 0) 0).toI)]]
                    else
                      if (at_ (hd x3.2) 0).isDp = true then
                        if (at_ (hd x3.2.tail) 0).isDp = true then
                          (E.pc n_slices_CompareFunc_api_Field [[at_ ((at_ (hd x3.2) 0).dpRow) 3], [at_ ((at_ (hd x3.2.tail) 0).dpRow) 3], [.fn 37 []]]).bind fun y8 =>
                            some [[.int ((at_ (rowsAt y8 0) 0).toI)]]
                        else none
                      else none
              else none
            else none
      else none
    else none
theorem value_Cmp_eq (E : Env) (p0 : Row) (p1 : Row) : runP E value_Cmp_a [p0, p1] = value_Cmp E p0 p1 := by kernel_rfl

def value_Same_a : AFun := { ps := [(.agg [.int .i64, .int .i64, .str, .sl 55]), (.agg [.int .i64, .int .i64, .str, .sl 55])], rs := [(.one (.bool))], res := [(false, 4, none)], body := (.seq (.region [] [⟨some 2, .boxP (.agg [.int .i64, .int .i64, .str, .sl 55]) 25 (.t 0), none, []⟩,
    ⟨some 3, .boxP (.agg [.int .i64, .int .i64, .str, .sl 55]) 25 (.t 1), none, []⟩,
    ⟨some 4, .mov (.c (.one (.bool)) [.bool false]), none, []⟩] false 0)
  (.seq (.region [] [⟨some 5, .ld (.agg [.int .i64, .int .i64, .str, .sl 55]) 25 (.t 2), none, []⟩,
    ⟨some 6, .ld (.agg [.int .i64, .int .i64, .str, .sl 55]) 25 (.t 3), none, []⟩,
    ⟨some 7, .call 24 [(.agg [.int .i64, .int .i64, .str, .sl 55]), (.agg [.int .i64, .int .i64, .str, .sl 55])] [(.one (.int .i64))] [(.t 5), (.t 6)], none, []⟩,
    ⟨some 8, .icmp .eql (.t 7) (.c (.one (.int .i64)) [.int 0]), none, []⟩,
    ⟨some 4, .mov (.t 8), none, []⟩] false 0)
  .ret)) }
/-- clapperbridge/value.Same -/
noncomputable def value_Same (E : Env) (p0 : Row) (p1 : Row) : Option (List Row) :=
  (E.pc n_value_Cmp [p0, p1]).bind fun y1 =>
    some [[.bool (((at_ (rowsAt y1 0) 0).toI) == 0)]]
theorem value_Same_eq (E : Env) (p0 : Row) (p1 : Row) : runP E value_Same_a [p0, p1] = value_Same E p0 p1 := by kernel_rfl

def lens_table_a : AFun := { ps := [(.one (.int .i64))], rs := [(.agg [.bool, .bool, .bool, .bool, .bool, .bool, .bool, .bool, .int .i64])], res := [(true, 2, none)], body := (.seq (.region [] [⟨some 2, .allocO 0 (.agg [.bool, .bool, .bool, .bool, .bool, .bool, .bool, .bool, .int .i64]) [.bool false, .bool false, .bool false, .bool false, .bool false, .bool false, .bool false, .bool false, .int 0], none, []⟩] false 1)
  (.seq (.seq (.region [] [⟨some 3, .mov (.t 0), none, []⟩] false 0)
  (.join [(.normal, { slots := [(2, .ptr 0 0)], objs := [.var (.agg [.bool, .bool, .bool, .bool, .bool, .bool, .bool, .bool, .int .i64])] }), (.ret, { slots := [(2, .ptr 0 0)], objs := [.var (.agg [.bool, .bool, .bool, .bool, .bool, .bool, .bool, .bool, .int .i64])] })] (.block 0 (.seq (.region [] [⟨some 5, .icmp .eql (.t 3) (.c (.one (.int .i64)) [.int 1]), none, []⟩,
    ⟨some 4, .mov (.t 5), none, []⟩] false 0)
  (.cond (.t 4) (.seq (.region [] [⟨some 6, .bld (.agg [.bool, .bool, .bool, .bool, .bool, .bool, .bool, .bool, .int .i64]) [.bool false, .bool false, .bool false, .bool false, .bool false, .bool false, .bool false, .bool false, .int 0] [(8, 1, (.c (.one (.int .i64)) [.int (-1)]))], none, []⟩,
    ⟨none, .st (.agg [.bool, .bool, .bool, .bool, .bool, .bool, .bool, .bool, .int .i64]) (.t 2) (.t 6), none, []⟩] false 0)
  .ret)
  (.seq (.region [] [⟨some 8, .icmp .eql (.t 3) (.c (.one (.int .i64)) [.int 2]), none, []⟩,
    ⟨some 7, .mov (.t 8), none, []⟩] false 0)
  (.cond (.t 7) (.seq (.region [] [⟨some 9, .bld (.agg [.bool, .bool, .bool, .bool, .bool, .bool, .bool, .bool, .int .i64]) [.bool false, .bool false, .bool false, .bool false, .bool false, .bool false, .bool false, .bool false, .int 0] [(0, 1, (.c (.one (.bool)) [.bool true])), (8, 1, (.c (.one (.int .i64)) [.int 1]))], none, []⟩,
    ⟨none, .st (.agg [.bool, .bool, .bool, .bool, .bool, .bool, .bool, .bool, .int .i64]) (.t 2) (.t 9), none, []⟩] false 0)
  .ret)
  (.seq (.region [] [⟨some 11, .icmp .eql (.t 3) (.c (.one (.int .i64)) [.int 3]), none, []⟩,
    ⟨some 10, .mov (.t 11), none, []⟩] false 0)
  (.cond (.t 10) (.seq (.region [] [⟨some 12, .bld (.agg [.bool, .bool, .bool, .bool, .bool, .bool, .bool, .bool, .int .i64]) [.bool false, .bool false, .bool false, .bool false, .bool false, .bool false, .bool false, .bool false, .int 0] [(0, 1, (.c (.one (.bool)) [.bool true])), (1, 1, (.c (.one (.bool)) [.bool true]))], none, []⟩,
    ⟨none, .st (.agg [.bool, .bool, .bool, .bool, .bool, .bool, .bool, .bool, .int .i64]) (.t 2) (.t 12), none, []⟩] false 0)
  .ret)
  (.seq (.seq (.region [] [⟨some 14, .icmp .eql (.t 3) (.c (.one (.int .i64)) [.int 4]), none, []⟩,
    ⟨some 13, .mov (.t 14), none, []⟩] false 0)
  (.join [(.normal, { slots := [(2, .ptr 0 0), (3, .d (.one (.int .i64))), (13, .d (.one (.bool)))], objs := [.var (.agg [.bool, .bool, .bool, .bool, .bool, .bool, .bool, .bool, .int .i64])] })] (.cond (.t 13) .skip
  (.seq (.region [] [⟨some 15, .icmp .eql (.t 3) (.c (.one (.int .i64)) [.int 5]), none, []⟩,
    ⟨some 13, .mov (.t 15), none, []⟩] false 0)
  (.cond (.t 13) .skip
  (.region [] [⟨some 16, .icmp .eql (.t 3) (.c (.one (.int .i64)) [.int 15]), none, []⟩,
    ⟨some 13, .mov (.t 16), none, []⟩] false 0))))))
  (.cond (.t 13) (.seq (.region [] [⟨some 17, .bld (.agg [.bool, .bool, .bool, .bool, .bool, .bool, .bool, .bool, .int .i64]) [.bool false, .bool false, .bool false, .bool false, .bool false, .bool false, .bool false, .bool false, .int 0] [(0, 1, (.c (.one (.bool)) [.bool true])), (6, 1, (.c (.one (.bool)) [.bool true]))], none, []⟩,
    ⟨none, .st (.agg [.bool, .bool, .bool, .bool, .bool, .bool, .bool, .bool, .int .i64]) (.t 2) (.t 17), none, []⟩] false 0)
  .ret)
  (.seq (.region [] [⟨some 19, .icmp .eql (.t 3) (.c (.one (.int .i64)) [.int 6]), none, []⟩,
    ⟨some 18, .mov (.t 19), none, []⟩] false 0)
  (.cond (.t 18) (.seq (.region [] [⟨some 20, .bld (.agg [.bool, .bool, .bool, .bool, .bool, .bool, .bool, .bool, .int .i64]) [.bool false, .bool false, .bool false, .bool false, .bool false, .bool false, .bool false, .bool false, .int 0] [(2, 1, (.c (.one (.bool)) [.bool true])), (1, 1, (.c (.one (.bool)) [.bool true]))], none, []⟩,
    ⟨none, .st (.agg [.bool, .bool, .bool, .bool, .bool, .bool, .bool, .bool, .int .i64]) (.t 2) (.t 20), none, []⟩] false 0)
  .ret)
  (.seq (.seq (.region [] [⟨some 22, .icmp .eql (.t 3) (.c (.one (.int .i64)) [.int 7]), none, []⟩,
    ⟨some 21, .mov (.t 22), none, []⟩] false 0)
  (.join [(.normal, { slots := [(2, .ptr 0 0), (3, .d (.one (.int .i64))), (21, .d (.one (.bool)))], objs := [.var (.agg [.bool, .bool, .bool, .bool, .bool, .bool, .bool, .bool, .int .i64])] })] (.cond (.t 21) .skip
  (.seq (.region [] [⟨some 23, .icmp .eql (.t 3) (.c (.one (.int .i64)) [.int 16]), none, []⟩,
    ⟨some 21, .mov (.t 23), none, []⟩] false 0)
  (.cond (.t 21) .skip
  (.region [] [⟨some 24, .icmp .eql (.t 3) (.c (.one (.int .i64)) [.int 17]), none, []⟩,
    ⟨some 21, .mov (.t 24), none, []⟩] false 0))))))
  (.cond (.t 21) (.seq (.region [] [⟨some 25, .bld (.agg [.bool, .bool, .bool, .bool, .bool, .bool, .bool, .bool, .int .i64]) [.bool false, .bool false, .bool false, .bool false, .bool false, .bool false, .bool false, .bool false, .int 0] [(0, 1, (.c (.one (.bool)) [.bool true]))], none, []⟩,
    ⟨none, .st (.agg [.bool, .bool, .bool, .bool, .bool, .bool, .bool, .bool, .int .i64]) (.t 2) (.t 25), none, []⟩] false 0)
  .ret)
  (.seq (.region [] [⟨some 27, .icmp .eql (.t 3) (.c (.one (.int .i64)) [.int 8]), none, []⟩,
    ⟨some 26, .mov (.t 27), none, []⟩] false 0)
  (.cond (.t 26) (.seq (.region [] [⟨some 28, .bld (.agg [.bool, .bool, .bool, .bool, .bool, .bool, .bool, .bool, .int .i64]) [.bool false, .bool false, .bool false, .bool false, .bool false, .bool false, .bool false, .bool false, .int 0] [(0, 1, (.c (.one (.bool)) [.bool true])), (3, 1, (.c (.one (.bool)) [.bool true]))], none, []⟩,
    ⟨none, .st (.agg [.bool, .bool, .bool, .bool, .bool, .bool, .bool, .bool, .int .i64]) (.t 2) (.t 28), none, []⟩] false 0)
  .ret)
  (.seq (.region [] [⟨some 30, .icmp .eql (.t 3) (.c (.one (.int .i64)) [.int 9]), none, []⟩,
    ⟨some 29, .mov (.t 30), none, []⟩] false 0)
  (.cond (.t 29) (.seq (.region [] [⟨some 31, .bld (.agg [.bool, .bool, .bool, .bool, .bool, .bool, .bool, .bool, .int .i64]) [.bool false, .bool false, .bool false, .bool false, .bool false, .bool false, .bool false, .bool false, .int 0] [(0, 1, (.c (.one (.bool)) [.bool true])), (1, 1, (.c (.one (.bool)) [.bool true])), (2, 1, (.c (.one (.bool)) [.bool true])), (5, 1, (.c (.one (.bool)) [.bool true]))], none, []⟩,
    ⟨none, .st (.agg [.bool, .bool, .bool, .bool, .bool, .bool, .bool, .bool, .int .i64]) (.t 2) (.t 31), none, []⟩] false 0)
  .ret)
  (.seq (.region [] [⟨some 33, .icmp .eql (.t 3) (.c (.one (.int .i64)) [.int 10]), none, []⟩,
    ⟨some 32, .mov (.t 33), none, []⟩] false 0)
  (.cond (.t 32) (.seq (.region [] [⟨some 34, .bld (.agg [.bool, .bool, .bool, .bool, .bool, .bool, .bool, .bool, .int .i64]) [.bool false, .bool false, .bool false, .bool false, .bool false, .bool false, .bool false, .bool false, .int 0] [(0, 1, (.c (.one (.bool)) [.bool true])), (1, 1, (.c (.one (.bool)) [.bool true])), (5, 1, (.c (.one (.bool)) [.bool true]))], none, []⟩,
    ⟨none, .st (.agg [.bool, .bool, .bool, .bool, .bool, .bool, .bool, .bool, .int .i64]) (.t 2) (.t 34), none, []⟩] false 0)
  .ret)
  (.seq (.region [] [⟨some 36, .icmp .eql (.t 3) (.c (.one (.int .i64)) [.int 11]), none, []⟩,
    ⟨some 35, .mov (.t 36), none, []⟩] false 0)
  (.cond (.t 35) (.seq (.region [] [⟨some 37, .bld (.agg [.bool, .bool, .bool, .bool, .bool, .bool, .bool, .bool, .int .i64]) [.bool false, .bool false, .bool false, .bool false, .bool false, .bool false, .bool false, .bool false, .int 0] [(7, 1, (.c (.one (.bool)) [.bool true]))], none, []⟩,
    ⟨none, .st (.agg [.bool, .bool, .bool, .bool, .bool, .bool, .bool, .bool, .int .i64]) (.t 2) (.t 37), none, []⟩] false 0)
  .ret)
  (.seq (.region [] [⟨some 39, .icmp .eql (.t 3) (.c (.one (.int .i64)) [.int 12]), none, []⟩,
    ⟨some 38, .mov (.t 39), none, []⟩] false 0)
  (.cond (.t 38) (.seq (.region [] [⟨some 40, .bld (.agg [.bool, .bool, .bool, .bool, .bool, .bool, .bool, .bool, .int .i64]) [.bool false, .bool false, .bool false, .bool false, .bool false, .bool false, .bool false, .bool false, .int 0] [(4, 1, (.c (.one (.bool)) [.bool true]))], none, []⟩,
    ⟨none, .st (.agg [.bool, .bool, .bool, .bool, .bool, .bool, .bool, .bool, .int .i64]) (.t 2) (.t 40), none, []⟩] false 0)
  .ret)
  (.seq (.region [] [⟨some 42, .icmp .eql (.t 3) (.c (.one (.int .i64)) [.int 13]), none, []⟩,
    ⟨some 41, .mov (.t 42), none, []⟩] false 0)
  (.cond (.t 41) (.seq (.region [] [⟨some 43, .bld (.agg [.bool, .bool, .bool, .bool, .bool, .bool, .bool, .bool, .int .i64]) [.bool false, .bool false, .bool false, .bool false, .bool false, .bool false, .bool false, .bool false, .int 0] [(0, 1, (.c (.one (.bool)) [.bool true])), (8, 1, (.c (.one (.int .i64)) [.int 1]))], none, []⟩,
    ⟨none, .st (.agg [.bool, .bool, .bool, .bool, .bool, .bool, .bool, .bool, .int .i64]) (.t 2) (.t 43), none, []⟩] false 0)
  .ret)
  (.seq (.region [] [⟨some 45, .icmp .eql (.t 3) (.c (.one (.int .i64)) [.int 14]), none, []⟩,
    ⟨some 44, .mov (.t 45), none, []⟩] false 0)
  (.cond (.t 44) (.seq (.region [] [⟨some 46, .bld (.agg [.bool, .bool, .bool, .bool, .bool, .bool, .bool, .bool, .int .i64]) [.bool false, .bool false, .bool false, .bool false, .bool false, .bool false, .bool false, .bool false, .int 0] [(2, 1, (.c (.one (.bool)) [.bool true])), (8, 1, (.c (.one (.int .i64)) [.int (-1)]))], none, []⟩,
    ⟨none, .st (.agg [.bool, .bool, .bool, .bool, .bool, .bool, .bool, .bool, .int .i64]) (.t 2) (.t 46), none, []⟩] false 0)
  .ret)
  (.seq (.region [] [⟨some 48, .icmp .eql (.t 3) (.c (.one (.int .i64)) [.int 18]), none, []⟩,
    ⟨some 47, .mov (.t 48), none, []⟩] false 0)
  (.cond (.t 47) (.seq (.region [] [⟨some 49, .bld (.agg [.bool, .bool, .bool, .bool, .bool, .bool, .bool, .bool, .int .i64]) [.bool false, .bool false, .bool false, .bool false, .bool false, .bool false, .bool false, .bool false, .int 0] [(6, 1, (.c (.one (.bool)) [.bool true]))], none, []⟩,
    ⟨none, .st (.agg [.bool, .bool, .bool, .bool, .bool, .bool, .bool, .bool, .int .i64]) (.t 2) (.t 49), none, []⟩] false 0)
  .ret)
  .skip)))))))))))))))))))))))))))))))
  (.seq (.region [] [⟨some 50, .bld (.agg [.bool, .bool, .bool, .bool, .bool, .bool, .bool, .bool, .int .i64]) [.bool false, .bool false, .bool false, .bool false, .bool false, .bool false, .bool false, .bool false, .int 0] [], none, []⟩,
    ⟨none, .st (.agg [.bool, .bool, .bool, .bool, .bool, .bool, .bool, .bool, .int .i64]) (.t 2) (.t 50), none, []⟩] false 0)
  .ret))) }
/-- clapperbridge/lens.table -/
noncomputable def lens_table (E : Env) (p0 : Int) : Option (List Row) :=
  (if (p0 == 1) = true then
    some (1, [.r [.bool false, .bool false, .bool false, .bool false, .bool false, .bool false, .bool false, .bool false, .int (-1)]])
  else
    if (p0 == 2) = true then
      some (1, [.r [.bool true, .bool false, .bool false, .bool false, .bool false, .bool false, .bool false, .bool false, .int 1]])
    else
      if (p0 == 3) = true then
        some (1, [.r [.bool true, .bool true, .bool false, .bool false, .bool false, .bool false, .bool false, .bool false, .int 0]])
      else
        (if (p0 == 4) = true then
          some (0, [.r [.int p0], .r [.bool (p0 == 4)], .r [.bool false, .bool false, .bool false, .bool false, .bool false, .bool false, .bool false, .bool false, .int 0]])
        else
          if (p0 == 5) = true then
            some (0, [.r [.int p0], .r [.bool (p0 == 5)], .r [.bool false, .bool false, .bool false, .bool false, .bool false, .bool false, .bool false, .bool false, .int 0]])
          else
            some (0, [.r [.int p0], .r [.bool (p0 == 15)], .r [.bool false, .bool false, .bool false, .bool false, .bool false, .bool false, .bool false, .bool false, .int 0]])).bind fun x1 =>
          if ((at_ (hd x1.2.tail) 0).toB) = true then
            some (1, [.r [.bool true, .bool false, .bool false, .bool false, .bool false, .bool false, .bool true, .bool false, .int 0]])
          else
            if (((at_ (hd x1.2) 0).toI) == 6) = true then
              some (1, [.r [.bool false, .bool true, .bool true, .bool false, .bool false, .bool false, .bool false, .bool false, .int 0]])
            else
              (if (((at_ (hd x1.2) 0).toI) == 7) = true then
                some (0, [.r [.int ((at_ (hd x1.2) 0).toI)], .r [.bool (((at_ (hd x1.2) 0).toI) == 7)], .r (hd x1.2.tail.tail)])
              else
                if (((at_ (hd x1.2) 0).toI) == 16) = true then
                  some (0, [.r [.int ((at_ (hd x1.2) 0).toI)], .r [.bool (((at_ (hd x1.2) 0).toI) == 16)], .r (hd x1.2.tail.tail)])
                else
                  some (0, [.r [.int ((at_ (hd x1.2) 0).toI)], .r [.bool (((at_ (hd x1.2) 0).toI) == 17)], .r (hd x1.2.tail.tail)])).bind fun x2 =>
                if ((at_ (hd x2.2.tail) 0).toB) = true then
                  some (1, [.r [.bool true, .bool false, .bool false, .bool false, .bool false, .bool false, .bool false, .bool false, .int 0]])
                else
                  if (((at_ (hd x2.2) 0).toI) == 8) = true then
                    some (1, [.r [.bool true, .bool false, .bool false, .bool true, .bool false, .bool false, .bool false, .bool false, .int 0]])
                  else
                    if (((at_ (hd x2.2) 0).toI) == 9) = true then
                      some (1, [.r [.bool true, .bool true, .bool true, .bool false, .bool false, .bool true, .bool false, .bool false, .int 0]])
                    else
                      if (((at_ (hd x2.2) 0).toI) == 10) = true then
                        some (1, [.r [.bool true, .bool true, .bool false, .bool false, .bool false, .bool true, .bool false, .bool false, .int 0]])
                      else
                        if (((at_ (hd x2.2) 0).toI) == 11) = true then
                          some (1, [.r [.bool false, .bool false, .bool false, .bool false, .bool false, .bool false, .bool false, .bool true, .int 0]])
                        else
                          if (((at_ (hd x2.2) 0).toI) == 12) = true then
                            some (1, [.r [.bool false, .bool false, .bool false, .bool false, .bool true, .bool false, .bool false, .bool false, .int 0]])
                          else
                            if (((at_ (hd x2.2) 0).toI) == 13) = true then
                              some (1, [.r [.bool true, .bool false, .bool false, .bool false, .bool false, .bool false, .bool false, .bool false, .int 1]])
                            else
                              if (((at_ (hd x2.2) 0).toI) == 14) = true then
                                some (1, [.r [.bool false, .bool false, .bool true, .bool false, .bool false, .bool false, .bool false, .bool false, .int (-1)]])
                              else
                                if (((at_ (hd x2.2) 0).toI) == 18) = true then
                                  some (1, [.r [.bool false, .bool false, .bool false, .bool false, .bool false, .bool false, .bool true, .bool false, .int 0]])
                                else
                                  some (0, [.r (hd x2.2.tail.tail)])).bind fun x3 =>
    match x3.1 with
    | 0 =>
      some [[.bool false, .bool false, .bool false, .bool false, .bool false, .bool false, .bool false, .bool false, .int 0]]
    | i4 + 1 =>
      some [hd x3.2]
theorem lens_table_eq (E : Env) (p0 : Int) : runP E lens_table_a [[.int p0]] = lens_table E p0 := by kernel_rfl

def value_Name_h0 : Shape := { slots := [(23, .d (.one (.sl 5))), (24, .d (.one (.int .i64))), (25, .d (.one (.int .i64)))], objs := [] }
def value_Name_o0 : List (Exit' × Shape) := [(.exit 0, { slots := [], objs := [] }), (.ret, { slots := [(2, .d (.one (.bool)))], objs := [] })]
def value_Name_c0 : ACode := (.seq (.region [] [⟨some 26, .icmp .lss (.t 25) (.t 24), none, []⟩] false 0)
  (.seq (.cond (.t 26) .skip
  (.exit 0))
  (.seq (.join [(.normal, { slots := [(23, .d (.one (.sl 5))), (24, .d (.one (.int .i64))), (25, .d (.one (.int .i64)))], objs := [] }), (.ret, { slots := [(2, .d (.one (.bool)))], objs := [] })] (.block 1 (.seq (.region [] [⟨some 27, .iad 5 (.one (.int .u8)) (.t 23) (.t 25), none, []⟩,
    ⟨some 28, .ld (.one (.int .u8)) 5 (.t 27), none, []⟩,
    ⟨some 4, .mov (.t 28), none, []⟩] false 0)
  (.seq (.region [] [⟨some 29, .mov (.t 4), none, []⟩,
    ⟨some 30, .icmp .geq (.t 29) (.c (.one (.int .u8)) [.int 97]), none, []⟩,
    ⟨some 31, .mov (.t 30), none, []⟩,
    ⟨some 32, .mov (.t 4), some (31, true), []⟩,
    ⟨some 33, .icmp .leq (.t 32) (.c (.one (.int .u8)) [.int 122]), some (31, true), []⟩,
    ⟨some 34, .pick (.t 31) (.t 33) (.c (.one (.bool)) [.bool false]), none, []⟩,
    ⟨some 35, .mov (.t 34), none, []⟩,
    ⟨some 36, .mov (.t 4), some (35, false), []⟩,
    ⟨some 37, .icmp .geq (.t 36) (.c (.one (.int .u8)) [.int 48]), some (35, false), []⟩,
    ⟨some 38, .mov (.t 37), some (35, false), []⟩,
    ⟨some 39, .mov (.t 4), some (38, true), []⟩,
    ⟨some 40, .icmp .leq (.t 39) (.c (.one (.int .u8)) [.int 57]), some (38, true), []⟩,
    ⟨some 41, .pick (.t 38) (.t 40) (.c (.one (.bool)) [.bool false]), some (35, false), []⟩,
    ⟨some 42, .pick (.t 35) (.c (.one (.bool)) [.bool true]) (.t 41), none, []⟩,
    ⟨some 43, .mov (.t 42), none, []⟩,
    ⟨some 44, .mov (.t 4), some (43, false), []⟩,
    ⟨some 45, .icmp .eql (.t 44) (.c (.one (.int .u8)) [.int 45]), some (43, false), []⟩,
    ⟨some 46, .pick (.t 43) (.c (.one (.bool)) [.bool true]) (.t 45), none, []⟩,
    ⟨some 47, .not (.t 46), none, []⟩] false 0)
  (.cond (.t 47) (.seq (.region [] [⟨some 2, .mov (.c (.one (.bool)) [.bool false]), none, []⟩] false 0)
  .ret)
  .skip)))))
  (.region [] [⟨some 48, .ibin .add (.t 25) (.c (.one (.int .i64)) [.int 1]), none, []⟩,
    ⟨some 25, .mov (.t 48), none, []⟩] false 0))))
noncomputable def value_Name_l0 (E : Env) (v0 : C) (v1 : Int) (v2 : Int) : Option (Nat × List PV) := E.fix (stepOf E value_Name_c0 value_Name_h0 value_Name_o0) [.r [v0], .r [.int v1], .r [.int v2]]
noncomputable def value_Name_b0 (E : Env) (X : C → Int → Int → Option (Nat × List PV)) (v0 : C) (v1 : Int) (v2 : Int) : Option (Nat × List PV) :=
  if (decide (v2 < v1)) = true then
    (if (0 : Int) ≤ v2 ∧ v2 < (v0.rows.length : Int) then
      if (decide (((at_ (rowsAt v0.rows v2.toNat) 0).toI) ≥ 97)) = true then
        if (decide (((at_ (rowsAt v0.rows v2.toNat) 0).toI) ≤ 122)) = true then
          some (0, [.r [v0], .r [.int v1], .r [.int v2]])
        else
          if (decide (((at_ (rowsAt v0.rows v2.toNat) 0).toI) ≥ 48)) = true then
            if (decide (((at_ (rowsAt v0.rows v2.toNat) 0).toI) ≤ 57)) = true then
              some (0, [.r [v0], .r [.int v1], .r [.int v2]])
            else
              if (!(((at_ (rowsAt v0.rows v2.toNat) 0).toI) == 45)) = true then
                some (1, [.r [.bool false]])
              else
                some (0, [.r [v0], .r [.int v1], .r [.int v2]])
          else
            if (!(((at_ (rowsAt v0.rows v2.toNat) 0).toI) == 45)) = true then
              some (1, [.r [.bool false]])
            else
              some (0, [.r [v0], .r [.int v1], .r [.int v2]])
      else
        if (decide (((at_ (rowsAt v0.rows v2.toNat) 0).toI) ≥ 48)) = true then
          if (decide (((at_ (rowsAt v0.rows v2.toNat) 0).toI) ≤ 57)) = true then
            some (0, [.r [v0], .r [.int v1], .r [.int v2]])
          else
            if (!(((at_ (rowsAt v0.rows v2.toNat) 0).toI) == 45)) = true then
              some (1, [.r [.bool false]])
            else
              some (0, [.r [v0], .r [.int v1], .r [.int v2]])
        else
          if (!(((at_ (rowsAt v0.rows v2.toNat) 0).toI) == 45)) = true then
            some (1, [.r [.bool false]])
          else
            some (0, [.r [v0], .r [.int v1], .r [.int v2]])
    else none).bind fun x2 =>
      match x2.1 with
      | 0 =>
        X (at_ (hd x2.2) 0) ((at_ (hd x2.2.tail) 0).toI) (Go.IntKind.i64.wrap (((at_ (hd x2.2.tail.tail) 0).toI) + 1))
      | i3 + 1 =>
        some (1, [.r [.bool ((at_ (hd x2.2) 0).toB)]])
  else
    some (0, [])
theorem value_Name_s0 (E : Env) (X : List PV → Option (Nat × List PV)) (v0 : C) (v1 : Int) (v2 : Int) : stepOf E value_Name_c0 value_Name_h0 value_Name_o0 X [.r [v0], .r [.int v1], .r [.int v2]] = value_Name_b0 E (fun (v0 : C) (v1 : Int) (v2 : Int) => X [.r [v0], .r [.int v1], .r [.int v2]]) v0 v1 v2 := by kernel_rfl
def value_Name_a : AFun := { ps := [(.one (.str))], rs := [(.one (.bool))], res := [(false, 2, none)], body := (.seq (.region [] [⟨some 2, .mov (.c (.one (.bool)) [.bool false]), none, []⟩] false 0)
  (.seq (.seq (.join [(.normal, { slots := [(0, .d (.one (.str))), (21, .d (.one (.bool)))], objs := [] })] (.region [] [⟨some 5, .mov (.t 0), none, []⟩,
    ⟨some 6, .scmp .eql (.t 5) (.c (.one (.str)) [.str ([] : List UInt8)]), none, []⟩,
    ⟨some 7, .mov (.t 6), none, []⟩,
    ⟨some 8, .mov (.t 0), some (7, false), []⟩,
    ⟨some 9, .lenS (.t 8), some (7, false), []⟩,
    ⟨some 10, .icmp .gtr (.t 9) (.c (.one (.int .i64)) [.int 16]), some (7, false), []⟩,
    ⟨some 11, .pick (.t 7) (.c (.one (.bool)) [.bool true]) (.t 10), none, []⟩,
    ⟨some 12, .mov (.t 11), none, []⟩,
    ⟨some 13, .mov (.t 0), some (12, false), []⟩,
    ⟨some 14, .idxS (.t 13) (.c (.one (.int .i64)) [.int 0]), some (12, false), []⟩,
    ⟨some 15, .icmp .lss (.t 14) (.c (.one (.int .u8)) [.int 97]), some (12, false), []⟩,
    ⟨some 16, .pick (.t 12) (.c (.one (.bool)) [.bool true]) (.t 15), none, []⟩,
    ⟨some 17, .mov (.t 16), none, []⟩,
    ⟨some 18, .mov (.t 0), some (17, false), []⟩,
    ⟨some 19, .idxS (.t 18) (.c (.one (.int .i64)) [.int 0]), some (17, false), []⟩,
    ⟨some 20, .icmp .gtr (.t 19) (.c (.one (.int .u8)) [.int 122]), some (17, false), []⟩,
    ⟨some 21, .pick (.t 17) (.c (.one (.bool)) [.bool true]) (.t 20), none, []⟩] false 0))
  (.cond (.t 21) (.seq (.region [] [⟨some 2, .mov (.c (.one (.bool)) [.bool false]), none, []⟩] false 0)
  .ret)
  .skip))
  (.seq (.seq (.region [] [⟨some 22, .mov (.t 0), none, []⟩,
    ⟨some 23, .s2b 5 (.t 22), none, []⟩,
    ⟨some 24, .lenL (.t 23), none, []⟩,
    ⟨some 25, .mov (.c (.one (.int .i64)) [.int 0]), none, []⟩] false 0)
  (.block 0 (.loop value_Name_h0 value_Name_o0 value_Name_c0)))
  (.seq (.region [] [⟨some 2, .mov (.c (.one (.bool)) [.bool true]), none, []⟩] false 0)
  .ret)))) }
/-- clapperbridge/value.Name -/
noncomputable def value_Name (E : Env) (p0 : List UInt8) : Option (List Row) :=
  (if (p0 == ([] : List UInt8)) = true then
    some (0, [.r [.str p0], .r [.bool true]])
  else
    if (decide ((p0.length : Int) > 16)) = true then
      some (0, [.r [.str p0], .r [.bool true]])
    else
      if (0 : Int) ≤ 0 ∧ 0 < (p0.length : Int) then
        if (decide (((p0.getD 0 0).toNat : Int) < 97)) = true then
          some (0, [.r [.str p0], .r [.bool true]])
        else
          if (0 : Int) ≤ 0 ∧ 0 < (p0.length : Int) then
            some (0, [.r [.str p0], .r [.bool (decide (((p0.getD 0 0).toNat : Int) > 122))]])
          else none
      else none).bind fun x1 =>
    if ((at_ (hd x1.2.tail) 0).toB) = true then
      some [[.bool false]]
    else
      (value_Name_l0 E (.sl (((at_ (hd x1.2) 0).toS).map byteRow)) ((((at_ (hd x1.2) 0).toS).map byteRow).length : Int) 0).bind fun x4 =>
        match x4.1 with
        | 0 =>
          some [[.bool true]]
        | i5 + 1 =>
          some [[.bool ((at_ (hd x4.2) 0).toB)]]
theorem value_Name_eq (E : Env) (p0 : List UInt8) : runP E value_Name_a [[.str p0]] = value_Name E p0 := by kernel_rfl

def value_Size_h0 : Shape := { slots := [(3, .d (.one (.int .i64))), (7, .d (.one (.sl 55))), (8, .d (.one (.int .i64))), (9, .d (.one (.int .i64)))], objs := [] }
def value_Size_o0 : List (Exit' × Shape) := [(.exit 0, { slots := [(3, .d (.one (.int .i64)))], objs := [] })]
def value_Size_c0 : ACode := (.seq (.region [] [⟨some 10, .icmp .lss (.t 9) (.t 8), none, []⟩] false 0)
  (.seq (.cond (.t 10) .skip
  (.exit 0))
  (.seq (.block 1 (.seq (.region [] [⟨some 11, .iad 55 (.agg [.str, .int .i64, .int .i64, .str, .sl 55]) (.t 7) (.t 9), none, []⟩,
    ⟨some 12, .ld (.agg [.str, .int .i64, .int .i64, .str, .sl 55]) 55 (.t 11), none, []⟩,
    ⟨some 5, .allocO 0 (.agg [.str, .int .i64, .int .i64, .str, .sl 55]) [.str [], .int 0, .int 0, .str [], .nils], none, []⟩,
    ⟨none, .st (.agg [.str, .int .i64, .int .i64, .str, .sl 55]) (.t 5) (.t 12), none, []⟩] false 1)
  (.region [] [⟨some 13, .mov (.t 3), none, []⟩,
    ⟨some 14, .fad 1 4 55 25 (.t 5), none, []⟩,
    ⟨some 15, .ld (.agg [.int .i64, .int .i64, .str, .sl 55]) 25 (.t 14), none, []⟩,
    ⟨some 16, .call 47 [(.agg [.int .i64, .int .i64, .str, .sl 55])] [(.one (.int .i64))] [(.t 15)], none, []⟩,
    ⟨some 17, .ibin .add (.t 13) (.t 16), none, []⟩,
    ⟨some 3, .mov (.t 17), none, []⟩] false 0)))
  (.region [] [⟨some 18, .ibin .add (.t 9) (.c (.one (.int .i64)) [.int 1]), none, []⟩,
    ⟨some 9, .mov (.t 18), none, []⟩] false 0))))
noncomputable def value_Size_l0 (E : Env) (v0 : Int) (v1 : C) (v2 : Int) (v3 : Int) : Option (Nat × List PV) := E.fix (stepOf E value_Size_c0 value_Size_h0 value_Size_o0) [.r [.int v0], .r [v1], .r [.int v2], .r [.int v3]]
noncomputable def value_Size_b0 (E : Env) (X : Int → C → Int → Int → Option (Nat × List PV)) (v0 : Int) (v1 : C) (v2 : Int) (v3 : Int) : Option (Nat × List PV) :=
  if (decide (v3 < v2)) = true then
    if (0 : Int) ≤ v3 ∧ v3 < (v1.rows.length : Int) then
      (E.pc n_value_Size [[at_ (rowsAt v1.rows v3.toNat) 1, at_ (rowsAt v1.rows v3.toNat) 2, at_ (rowsAt v1.rows v3.toNat) 3, at_ (rowsAt v1.rows v3.toNat) 4]]).bind fun y1 =>
        X (Go.IntKind.i64.wrap (v0 + ((at_ (rowsAt y1 0) 0).toI))) v1 v2 (Go.IntKind.i64.wrap (v3 + 1))
    else none
  else
    some (0, [.r [.int v0]])
theorem value_Size_s0 (E : Env) (X : List PV → Option (Nat × List PV)) (v0 : Int) (v1 : C) (v2 : Int) (v3 : Int) : stepOf E value_Size_c0 value_Size_h0 value_Size_o0 X [.r [.int v0], .r [v1], .r [.int v2], .r [.int v3]] = value_Size_b0 E (fun (v0 : Int) (v1 : C) (v2 : Int) (v3 : Int) => X [.r [.int v0], .r [v1], .r [.int v2], .r [.int v3]]) v0 v1 v2 v3 := by kernel_rfl
def value_Size_a : AFun := { ps := [(.agg [.int .i64, .int .i64, .str, .sl 55])], rs := [(.one (.int .i64))], res := [(false, 2, none)], body := (.seq (.region [] [⟨some 1, .boxP (.agg [.int .i64, .int .i64, .str, .sl 55]) 25 (.t 0), none, []⟩,
    ⟨some 2, .mov (.c (.one (.int .i64)) [.int 0]), none, []⟩] false 0)
  (.seq (.region [] [⟨some 3, .mov (.c (.one (.int .i64)) [.int 1]), none, []⟩] false 0)
  (.seq (.seq (.region [] [⟨some 6, .fad 3 1 25 23 (.t 1), none, []⟩,
    ⟨some 7, .ld (.one (.sl 55)) 23 (.t 6), none, []⟩,
    ⟨some 8, .lenL (.t 7), none, []⟩,
    ⟨some 9, .mov (.c (.one (.int .i64)) [.int 0]), none, []⟩] false 0)
  (.block 0 (.loop value_Size_h0 value_Size_o0 value_Size_c0)))
  (.seq (.region [] [⟨some 19, .mov (.t 3), none, []⟩,
    ⟨some 2, .mov (.t 19), none, []⟩] false 0)
  .ret)))) }
/-- clapperbridge/value.Size -/
noncomputable def value_Size (E : Env) (p0 : Row) : Option (List Row) :=
  (value_Size_l0 E 1 (at_ p0 3) (((at_ p0 3).rows).length : Int) 0).bind fun x2 =>
    some [[.int ((at_ (hd x2.2) 0).toI)]]
theorem value_Size_eq (E : Env) (p0 : Row) : runP E value_Size_a [p0] = value_Size E p0 := by kernel_rfl

def value_Deep_h0 : Shape := { slots := [(3, .d (.one (.int .i64))), (7, .d (.one (.sl 55))), (8, .d (.one (.int .i64))), (9, .d (.one (.int .i64)))], objs := [] }
def value_Deep_o0 : List (Exit' × Shape) := [(.exit 0, { slots := [(3, .d (.one (.int .i64)))], objs := [] })]
def value_Deep_c0 : ACode := (.seq (.region [] [⟨some 10, .icmp .lss (.t 9) (.t 8), none, []⟩] false 0)
  (.seq (.cond (.t 10) .skip
  (.exit 0))
  (.seq (.block 1 (.seq (.region [] [⟨some 11, .iad 55 (.agg [.str, .int .i64, .int .i64, .str, .sl 55]) (.t 7) (.t 9), none, []⟩,
    ⟨some 12, .ld (.agg [.str, .int .i64, .int .i64, .str, .sl 55]) 55 (.t 11), none, []⟩,
    ⟨some 5, .allocO 0 (.agg [.str, .int .i64, .int .i64, .str, .sl 55]) [.str [], .int 0, .int 0, .str [], .nils], none, []⟩,
    ⟨none, .st (.agg [.str, .int .i64, .int .i64, .str, .sl 55]) (.t 5) (.t 12), none, []⟩] false 1)
  (.region [] [⟨some 13, .mov (.t 3), none, []⟩,
    ⟨some 14, .fad 1 4 55 25 (.t 5), none, []⟩,
    ⟨some 15, .ld (.agg [.int .i64, .int .i64, .str, .sl 55]) 25 (.t 14), none, []⟩,
    ⟨some 16, .call 48 [(.agg [.int .i64, .int .i64, .str, .sl 55])] [(.one (.int .i64))] [(.t 15)], none, []⟩,
    ⟨some 17, .imin true [(.t 13), (.t 16)], none, []⟩,
    ⟨some 3, .mov (.t 17), none, []⟩] false 0)))
  (.region [] [⟨some 18, .ibin .add (.t 9) (.c (.one (.int .i64)) [.int 1]), none, []⟩,
    ⟨some 9, .mov (.t 18), none, []⟩] false 0))))
noncomputable def value_Deep_l0 (E : Env) (v0 : Int) (v1 : C) (v2 : Int) (v3 : Int) : Option (Nat × List PV) := E.fix (stepOf E value_Deep_c0 value_Deep_h0 value_Deep_o0) [.r [.int v0], .r [v1], .r [.int v2], .r [.int v3]]
noncomputable def value_Deep_b0 (E : Env) (X : Int → C → Int → Int → Option (Nat × List PV)) (v0 : Int) (v1 : C) (v2 : Int) (v3 : Int) : Option (Nat × List PV) :=
  if (decide (v3 < v2)) = true then
    if (0 : Int) ≤ v3 ∧ v3 < (v1.rows.length : Int) then
      (E.pc n_value_Deep [[at_ (rowsAt v1.rows v3.toNat) 1, at_ (rowsAt v1.rows v3.toNat) 2, at_ (rowsAt v1.rows v3.toNat) 3, at_ (rowsAt v1.rows v3.toNat) 4]]).bind fun y1 =>
        X (if ((at_ (rowsAt y1 0) 0).toI) > v0 then (at_ (rowsAt y1 0) 0).toI else v0) v1 v2 (Go.IntKind.i64.wrap (v3 + 1))
    else none
  else
    some (0, [.r [.int v0]])
theorem value_Deep_s0 (E : Env) (X : List PV → Option (Nat × List PV)) (v0 : Int) (v1 : C) (v2 : Int) (v3 : Int) : stepOf E value_Deep_c0 value_Deep_h0 value_Deep_o0 X [.r [.int v0], .r [v1], .r [.int v2], .r [.int v3]] = value_Deep_b0 E (fun (v0 : Int) (v1 : C) (v2 : Int) (v3 : Int) => X [.r [.int v0], .r [v1], .r [.int v2], .r [.int v3]]) v0 v1 v2 v3 := by kernel_rfl
def value_Deep_a : AFun := { ps := [(.agg [.int .i64, .int .i64, .str, .sl 55])], rs := [(.one (.int .i64))], res := [(false, 2, none)], body := (.seq (.region [] [⟨some 1, .boxP (.agg [.int .i64, .int .i64, .str, .sl 55]) 25 (.t 0), none, []⟩,
    ⟨some 2, .mov (.c (.one (.int .i64)) [.int 0]), none, []⟩] false 0)
  (.seq (.region [] [⟨some 3, .mov (.c (.one (.int .i64)) [.int 0]), none, []⟩] false 0)
  (.seq (.seq (.region [] [⟨some 6, .fad 3 1 25 23 (.t 1), none, []⟩,
    ⟨some 7, .ld (.one (.sl 55)) 23 (.t 6), none, []⟩,
    ⟨some 8, .lenL (.t 7), none, []⟩,
    ⟨some 9, .mov (.c (.one (.int .i64)) [.int 0]), none, []⟩] false 0)
  (.block 0 (.loop value_Deep_h0 value_Deep_o0 value_Deep_c0)))
  (.seq (.region [] [⟨some 19, .mov (.t 3), none, []⟩,
    ⟨some 20, .ibin .add (.t 19) (.c (.one (.int .i64)) [.int 1]), none, []⟩,
    ⟨some 2, .mov (.t 20), none, []⟩] false 0)
  .ret)))) }
/-- clapperbridge/value.Deep -/
noncomputable def value_Deep (E : Env) (p0 : Row) : Option (List Row) :=
  (value_Deep_l0 E 0 (at_ p0 3) (((at_ p0 3).rows).length : Int) 0).bind fun x2 =>
    some [[.int (Go.IntKind.i64.wrap (((at_ (hd x2.2) 0).toI) + 1))]]
theorem value_Deep_eq (E : Env) (p0 : Row) : runP E value_Deep_a [p0] = value_Deep E p0 := by kernel_rfl

def value_Scalar_a : AFun := { ps := [(.one (.int .i64))], rs := [(.one (.bool))], res := [(false, 2, none)], body := (.seq (.region [] [⟨some 2, .mov (.c (.one (.bool)) [.bool false]), none, []⟩] false 0)
  (.seq (.region [] [⟨some 3, .mov (.t 0), none, []⟩,
    ⟨some 4, .icmp .geq (.t 3) (.c (.one (.int .i64)) [.int 0]), none, []⟩,
    ⟨some 5, .mov (.t 4), none, []⟩,
    ⟨some 6, .mov (.t 0), some (5, true), []⟩,
    ⟨some 7, .icmp .leq (.t 6) (.c (.one (.int .i64)) [.int 5]), some (5, true), []⟩,
    ⟨some 8, .pick (.t 5) (.t 7) (.c (.one (.bool)) [.bool false]), none, []⟩,
    ⟨some 9, .mov (.t 8), none, []⟩,
    ⟨some 10, .mov (.t 0), some (9, false), []⟩,
    ⟨some 11, .icmp .eql (.t 10) (.c (.one (.int .i64)) [.int 11]), some (9, false), []⟩,
    ⟨some 12, .pick (.t 9) (.c (.one (.bool)) [.bool true]) (.t 11), none, []⟩,
    ⟨some 2, .mov (.t 12), none, []⟩] false 0)
  .ret)) }
/-- clapperbridge/value.Scalar -/
noncomputable def value_Scalar (E : Env) (p0 : Int) : Option (List Row) :=
  if (decide (p0 ≥ 0)) = true then
    if (decide (p0 ≤ 5)) = true then
      some [[.bool true]]
    else
      some [[.bool (p0 == 11)]]
  else
    some [[.bool (p0 == 11)]]
theorem value_Scalar_eq (E : Env) (p0 : Int) : runP E value_Scalar_a [[.int p0]] = value_Scalar E p0 := by kernel_rfl

def value_unused_a : AFun := { ps := [(.agg [.int .i64, .int .i64, .str, .sl 55])], rs := [(.one (.bool))], res := [(false, 2, none)], body := (.seq (.region [] [⟨some 1, .boxP (.agg [.int .i64, .int .i64, .str, .sl 55]) 25 (.t 0), none, []⟩,
    ⟨some 2, .mov (.c (.one (.bool)) [.bool false]), none, []⟩] false 0)
  (.seq (.join [(.normal, { slots := [(1, .d (.one (.ref 25))), (3, .d (.one (.bool)))], objs := [] })] (.region [] [⟨some 4, .fad 0 1 25 3 (.t 1), none, []⟩,
    ⟨some 5, .ld (.one (.int .i64)) 3 (.t 4), none, []⟩,
    ⟨some 6, .icmp .geq (.t 5) (.c (.one (.int .i64)) [.int 1]), none, []⟩,
    ⟨some 7, .mov (.t 6), none, []⟩,
    ⟨some 8, .fad 0 1 25 3 (.t 1), some (7, true), []⟩,
    ⟨some 9, .ld (.one (.int .i64)) 3 (.t 8), some (7, true), []⟩,
    ⟨some 10, .icmp .leq (.t 9) (.c (.one (.int .i64)) [.int 4]), some (7, true), []⟩,
    ⟨some 11, .pick (.t 7) (.t 10) (.c (.one (.bool)) [.bool false]), none, []⟩,
    ⟨some 12, .mov (.t 11), none, []⟩,
    ⟨some 13, .fad 0 1 25 3 (.t 1), some (12, false), []⟩,
    ⟨some 14, .ld (.one (.int .i64)) 3 (.t 13), some (12, false), []⟩,
    ⟨some 15, .icmp .eql (.t 14) (.c (.one (.int .i64)) [.int 11]), some (12, false), []⟩,
    ⟨some 16, .pick (.t 12) (.c (.one (.bool)) [.bool true]) (.t 15), none, []⟩,
    ⟨some 3, .mov (.t 16), none, []⟩] false 0))
  (.seq (.region [] [⟨some 17, .mov (.t 3), none, []⟩,
    ⟨some 18, .not (.t 17), none, []⟩,
    ⟨some 19, .mov (.t 18), none, []⟩,
    ⟨some 20, .fad 1 1 25 3 (.t 1), some (19, true), []⟩,
    ⟨some 21, .ld (.one (.int .i64)) 3 (.t 20), some (19, true), []⟩,
    ⟨some 22, .icmp .neq (.t 21) (.c (.one (.int .i64)) [.int 0]), some (19, true), []⟩,
    ⟨some 23, .pick (.t 19) (.t 22) (.c (.one (.bool)) [.bool false]), none, []⟩,
    ⟨some 24, .mov (.t 23), none, []⟩,
    ⟨some 25, .fad 0 1 25 3 (.t 1), some (24, false), []⟩,
    ⟨some 26, .ld (.one (.int .i64)) 3 (.t 25), some (24, false), []⟩,
    ⟨some 27, .icmp .neq (.t 26) (.c (.one (.int .i64)) [.int 5]), some (24, false), []⟩,
    ⟨some 28, .mov (.t 27), some (24, false), []⟩,
    ⟨some 29, .fad 2 1 25 9 (.t 1), some (28, true), []⟩,
    ⟨some 30, .ld (.one (.str)) 9 (.t 29), some (28, true), []⟩,
    ⟨some 31, .scmp .neq (.t 30) (.c (.one (.str)) [.str ([] : List UInt8)]), some (28, true), []⟩,
    ⟨some 32, .pick (.t 28) (.t 31) (.c (.one (.bool)) [.bool false]), some (24, false), []⟩,
    ⟨some 33, .pick (.t 24) (.c (.one (.bool)) [.bool true]) (.t 32), none, []⟩,
    ⟨some 34, .mov (.t 33), none, []⟩,
    ⟨some 35, .fad 0 1 25 3 (.t 1), some (34, false), []⟩,
    ⟨some 36, .ld (.one (.int .i64)) 3 (.t 35), some (34, false), []⟩,
    ⟨some 37, .call 68 [(.one (.int .i64))] [(.one (.bool))] [(.t 36)], some (34, false), []⟩,
    ⟨some 38, .mov (.t 37), some (34, false), []⟩,
    ⟨some 39, .fad 3 1 25 23 (.t 1), some (38, true), []⟩,
    ⟨some 40, .ld (.one (.sl 55)) 23 (.t 39), some (38, true), []⟩,
    ⟨some 41, .lenL (.t 40), some (38, true), []⟩,
    ⟨some 42, .icmp .gtr (.t 41) (.c (.one (.int .i64)) [.int 0]), some (38, true), []⟩,
    ⟨some 43, .pick (.t 38) (.t 42) (.c (.one (.bool)) [.bool false]), some (34, false), []⟩,
    ⟨some 44, .pick (.t 34) (.c (.one (.bool)) [.bool true]) (.t 43), none, []⟩,
    ⟨some 2, .mov (.t 44), none, []⟩] false 0)
  .ret))) }
/-- clapperbridge/value.unused -/
noncomputable def value_unused (E : Env) (p0 : Row) : Option (List Row) :=
  (if (decide (((at_ p0 0).toI) ≥ 1)) = true then
    if (decide (((at_ p0 0).toI) ≤ 4)) = true then
      some (0, [.r [.dp p0], .r [.bool true]])
    else
      some (0, [.r [.dp p0], .r [.bool (((at_ p0 0).toI) == 11)]])
  else
    some (0, [.r [.dp p0], .r [.bool (((at_ p0 0).toI) == 11)]])).bind fun x1 =>
    if (!((at_ (hd x1.2.tail) 0).toB)) = true then
      if (at_ (hd x1.2) 0).isDp = true then
        if (((at_ ((at_ (hd x1.2) 0).dpRow) 1).toI) != 0) = true then
          some [[.bool true]]
        else
          if (at_ (hd x1.2) 0).isDp = true then
            if (((at_ ((at_ (hd x1.2) 0).dpRow) 0).toI) != 5) = true then
              if (at_ (hd x1.2) 0).isDp = true then
                if (!(((at_ ((at_ (hd x1.2) 0).dpRow) 2).toS) == ([] : List UInt8))) = true then
                  some [[.bool true]]
                else
                  if (at_ (hd x1.2) 0).isDp = true then
                    (E.pc n_value_Scalar [[.int ((at_ ((at_ (hd x1.2) 0).dpRow) 0).toI)]]).bind fun y2 =>
                      if ((at_ (rowsAt y2 0) 0).toB) = true then
                        if (at_ (hd x1.2) 0).isDp = true then
                          some [[.bool (decide ((((at_ ((at_ (hd x1.2) 0).dpRow) 3).rows).length : Int) > 0))]]
                        else none
                      else
                        some [[.bool false]]
                  else none
              else none
            else
              if (at_ (hd x1.2) 0).isDp = true then
                (E.pc n_value_Scalar [[.int ((at_ ((at_ (hd x1.2) 0).dpRow) 0).toI)]]).bind fun y3 =>
                  if ((at_ (rowsAt y3 0) 0).toB) = true then
                    if (at_ (hd x1.2) 0).isDp = true then
                      some [[.bool (decide ((((at_ ((at_ (hd x1.2) 0).dpRow) 3).rows).length : Int) > 0))]]
                    else none
                  else
                    some [[.bool false]]
              else none
          else none
      else none
    else
      if (at_ (hd x1.2) 0).isDp = true then
        if (((at_ ((at_ (hd x1.2) 0).dpRow) 0).toI) != 5) = true then
          if (at_ (hd x1.2) 0).isDp = true then
            if (!(((at_ ((at_ (hd x1.2) 0).dpRow) 2).toS) == ([] : List UInt8))) = true then
              some [[.bool true]]
            else
              if (at_ (hd x1.2) 0).isDp = true then
                (E.pc n_value_Scalar [[.int ((at_ ((at_ (hd x1.2) 0).dpRow) 0).toI)]]).bind fun y4 =>
                  if ((at_ (rowsAt y4 0) 0).toB) = true then
                    if (at_ (hd x1.2) 0).isDp = true then
                      some [[.bool (decide ((((at_ ((at_ (hd x1.2) 0).dpRow) 3).rows).length : Int) > 0))]]
                    else none
                  else
                    some [[.bool false]]
              else none
          else none
        else
          if (at_ (hd x1.2) 0).isDp = true then
            (E.pc n_value_Scalar [[.int ((at_ ((at_ (hd x1.2) 0).dpRow) 0).toI)]]).bind fun y5 =>
              if ((at_ (rowsAt y5 0) 0).toB) = true then
                if (at_ (hd x1.2) 0).isDp = true then
                  some [[.bool (decide ((((at_ ((at_ (hd x1.2) 0).dpRow) 3).rows).length : Int) > 0))]]
                else none
              else
                some [[.bool false]]
          else none
      else none
theorem value_unused_eq (E : Env) (p0 : Row) : runP E value_unused_a [p0] = value_unused E p0 := by kernel_rfl

def value_number_a : AFun := { ps := [(.agg [.int .i64, .int .i64, .str, .sl 55])], rs := [(.one (.bool))], res := [(false, 2, none)], body := (.seq (.region [] [⟨some 1, .boxP (.agg [.int .i64, .int .i64, .str, .sl 55]) 25 (.t 0), none, []⟩,
    ⟨some 2, .mov (.c (.one (.bool)) [.bool false]), none, []⟩] false 0)
  (.seq (.seq (.region [] [⟨some 3, .fad 0 1 25 3 (.t 1), none, []⟩,
    ⟨some 4, .ld (.one (.int .i64)) 3 (.t 3), none, []⟩] false 0)
  (.block 0 (.seq (.region [] [⟨some 6, .icmp .eql (.t 4) (.c (.one (.int .i64)) [.int 1]), none, []⟩,
    ⟨some 5, .mov (.t 6), none, []⟩] false 0)
  (.cond (.t 5) (.seq (.region [] [⟨some 7, .fad 1 1 25 3 (.t 1), none, []⟩,
    ⟨some 8, .ld (.one (.int .i64)) 3 (.t 7), none, []⟩,
    ⟨some 9, .icmp .eql (.t 8) (.c (.one (.int .i64)) [.int 0]), none, []⟩,
    ⟨some 10, .mov (.t 9), none, []⟩,
    ⟨some 11, .fad 1 1 25 3 (.t 1), some (10, false), []⟩,
    ⟨some 12, .ld (.one (.int .i64)) 3 (.t 11), some (10, false), []⟩,
    ⟨some 13, .icmp .eql (.t 12) (.c (.one (.int .i64)) [.int 1]), some (10, false), []⟩,
    ⟨some 14, .pick (.t 10) (.c (.one (.bool)) [.bool true]) (.t 13), none, []⟩,
    ⟨some 2, .mov (.t 14), none, []⟩] false 0)
  .ret)
  (.seq (.region [] [⟨some 16, .icmp .eql (.t 4) (.c (.one (.int .i64)) [.int 2]), none, []⟩,
    ⟨some 15, .mov (.t 16), none, []⟩] false 0)
  (.cond (.t 15) (.seq (.region [] [⟨some 17, .fad 1 1 25 3 (.t 1), none, []⟩,
    ⟨some 18, .ld (.one (.int .i64)) 3 (.t 17), none, []⟩,
    ⟨some 19, .icmp .geq (.t 18) (.c (.one (.int .i64)) [.int (-9007199254740992)]), none, []⟩,
    ⟨some 20, .mov (.t 19), none, []⟩,
    ⟨some 21, .fad 1 1 25 3 (.t 1), some (20, true), []⟩,
    ⟨some 22, .ld (.one (.int .i64)) 3 (.t 21), some (20, true), []⟩,
    ⟨some 23, .icmp .leq (.t 22) (.c (.one (.int .i64)) [.int 9007199254740992]), some (20, true), []⟩,
    ⟨some 24, .pick (.t 20) (.t 23) (.c (.one (.bool)) [.bool false]), none, []⟩,
    ⟨some 2, .mov (.t 24), none, []⟩] false 0)
  .ret)
  (.seq (.region [] [⟨some 26, .icmp .eql (.t 4) (.c (.one (.int .i64)) [.int 4]), none, []⟩,
    ⟨some 25, .mov (.t 26), none, []⟩] false 0)
  (.cond (.t 25) (.seq (.region [] [⟨some 27, .fad 1 1 25 3 (.t 1), none, []⟩,
    ⟨some 28, .ld (.one (.int .i64)) 3 (.t 27), none, []⟩,
    ⟨some 29, .icmp .geq (.t 28) (.c (.one (.int .i64)) [.int 0]), none, []⟩,
    ⟨some 30, .mov (.t 29), none, []⟩,
    ⟨some 31, .fad 1 1 25 3 (.t 1), some (30, true), []⟩,
    ⟨some 32, .ld (.one (.int .i64)) 3 (.t 31), some (30, true), []⟩,
    ⟨some 33, .icmp .leq (.t 32) (.c (.one (.int .i64)) [.int 4194304]), some (30, true), []⟩,
    ⟨some 34, .pick (.t 30) (.t 33) (.c (.one (.bool)) [.bool false]), none, []⟩,
    ⟨some 2, .mov (.t 34), none, []⟩] false 0)
  .ret)
  (.seq (.region [] [⟨some 36, .icmp .eql (.t 4) (.c (.one (.int .i64)) [.int 11]), none, []⟩,
    ⟨some 35, .mov (.t 36), none, []⟩] false 0)
  (.cond (.t 35) (.seq (.region [] [⟨some 37, .fad 1 1 25 3 (.t 1), none, []⟩,
    ⟨some 38, .ld (.one (.int .i64)) 3 (.t 37), none, []⟩,
    ⟨some 39, .icmp .geq (.t 38) (.c (.one (.int .i64)) [.int 0]), none, []⟩,
    ⟨some 40, .mov (.t 39), none, []⟩,
    ⟨some 41, .fad 1 1 25 3 (.t 1), some (40, true), []⟩,
    ⟨some 42, .ld (.one (.int .i64)) 3 (.t 41), some (40, true), []⟩,
    ⟨some 43, .icmp .leq (.t 42) (.c (.one (.int .i64)) [.int 9007199254740992]), some (40, true), []⟩,
    ⟨some 44, .pick (.t 40) (.t 43) (.c (.one (.bool)) [.bool false]), none, []⟩,
    ⟨some 2, .mov (.t 44), none, []⟩] false 0)
  .ret)
  .skip))))))))))
  (.seq (.region [] [⟨some 2, .mov (.c (.one (.bool)) [.bool true]), none, []⟩] false 0)
  .ret))) }
/-- clapperbridge/value.number -/
noncomputable def value_number (E : Env) (p0 : Row) : Option (List Row) :=
  if (((at_ p0 0).toI) == 1) = true then
    if (((at_ p0 1).toI) == 0) = true then
      some [[.bool true]]
    else
      some [[.bool (((at_ p0 1).toI) == 1)]]
  else
    if (((at_ p0 0).toI) == 2) = true then
      if (decide (((at_ p0 1).toI) ≥ (-9007199254740992))) = true then
        some [[.bool (decide (((at_ p0 1).toI) ≤ 9007199254740992))]]
      else
        some [[.bool false]]
    else
      if (((at_ p0 0).toI) == 4) = true then
        if (decide (((at_ p0 1).toI) ≥ 0)) = true then
          some [[.bool (decide (((at_ p0 1).toI) ≤ 4194304))]]
        else
          some [[.bool false]]
      else
        if (((at_ p0 0).toI) == 11) = true then
          if (decide (((at_ p0 1).toI) ≥ 0)) = true then
            some [[.bool (decide (((at_ p0 1).toI) ≤ 9007199254740992))]]
          else
            some [[.bool false]]
        else
          some [[.bool true]]
theorem value_number_eq (E : Env) (p0 : Row) : runP E value_number_a [p0] = value_number E p0 := by kernel_rfl

def slices_IndexFunc_api_Field_h0 : Shape := { slots := [(0, .d (.one (.sl 55))), (1, .d (.one (.fn 127))), (7, .d (.one (.int .i64))), (8, .d (.one (.int .i64)))], objs := [] }
def slices_IndexFunc_api_Field_o0 : List (Exit' × Shape) := [(.exit 0, { slots := [], objs := [] }), (.ret, { slots := [(4, .d (.one (.int .i64)))], objs := [] })]
def slices_IndexFunc_api_Field_c0 : ACode := (.seq (.region [] [⟨some 9, .icmp .lss (.t 8) (.t 7), none, []⟩] false 0)
  (.seq (.cond (.t 9) .skip
  (.exit 0))
  (.seq (.block 1 (.seq (.region [] [⟨some 10, .mov (.t 8), none, []⟩,
    ⟨some 5, .mov (.t 10), none, []⟩] false 0)
  (.seq (.region [] [⟨some 11, .mov (.t 1), none, []⟩,
    ⟨some 12, .mov (.t 0), none, []⟩,
    ⟨some 13, .mov (.t 5), none, []⟩,
    ⟨some 14, .iad 55 (.agg [.str, .int .i64, .int .i64, .str, .sl 55]) (.t 12) (.t 13), none, []⟩,
    ⟨some 15, .ld (.agg [.str, .int .i64, .int .i64, .str, .sl 55]) 55 (.t 14), none, []⟩,
    ⟨some 16, .callv 127 [(.agg [.str, .int .i64, .int .i64, .str, .sl 55])] [(.one (.bool))] (.t 11) [(.t 15)], none, []⟩] false 0)
  (.cond (.t 16) (.seq (.region [] [⟨some 17, .mov (.t 5), none, []⟩,
    ⟨some 4, .mov (.t 17), none, []⟩] false 0)
  .ret)
  .skip))))
  (.region [] [⟨some 18, .ibin .add (.t 8) (.c (.one (.int .i64)) [.int 1]), none, []⟩,
    ⟨some 8, .mov (.t 18), none, []⟩] false 0))))
noncomputable def slices_IndexFunc_api_Field_l0 (E : Env) (v0 : C) (v1 : C) (v2 : Int) (v3 : Int) : Option (Nat × List PV) := E.fix (stepOf E slices_IndexFunc_api_Field_c0 slices_IndexFunc_api_Field_h0 slices_IndexFunc_api_Field_o0) [.r [v0], .r [v1], .r [.int v2], .r [.int v3]]
noncomputable def slices_IndexFunc_api_Field_b0 (E : Env) (X : C → C → Int → Int → Option (Nat × List PV)) (v0 : C) (v1 : C) (v2 : Int) (v3 : Int) : Option (Nat × List PV) :=
  if (decide (v3 < v2)) = true then
    if (0 : Int) ≤ v3 ∧ v3 < (v0.rows.length : Int) then
      (callC E v1 [rowsAt v0.rows v3.toNat]).bind fun y1 =>
        if ((at_ (rowsAt y1 0) 0).toB) = true then
          some (1, [.r [.int v3]])
        else
          X v0 v1 v2 (Go.IntKind.i64.wrap (v3 + 1))
    else none
  else
    some (0, [])
theorem slices_IndexFunc_api_Field_s0 (E : Env) (X : List PV → Option (Nat × List PV)) (v0 : C) (v1 : C) (v2 : Int) (v3 : Int) : stepOf E slices_IndexFunc_api_Field_c0 slices_IndexFunc_api_Field_h0 slices_IndexFunc_api_Field_o0 X [.r [v0], .r [v1], .r [.int v2], .r [.int v3]] = slices_IndexFunc_api_Field_b0 E (fun (v0 : C) (v1 : C) (v2 : Int) (v3 : Int) => X [.r [v0], .r [v1], .r [.int v2], .r [.int v3]]) v0 v1 v2 v3 := by kernel_rfl
def slices_IndexFunc_api_Field_a : AFun := { ps := [(.one (.sl 55)), (.one (.fn 127))], rs := [(.one (.int .i64))], res := [(false, 4, none)], body := (.seq (.region [] [⟨some 4, .mov (.c (.one (.int .i64)) [.int 0]), none, []⟩] false 0)
  (.seq (.seq (.region [] [⟨some 6, .mov (.t 0), none, []⟩,
    ⟨some 7, .lenL (.t 6), none, []⟩,
    ⟨some 8, .mov (.c (.one (.int .i64)) [.int 0]), none, []⟩] false 0)
  (.block 0 (.loop slices_IndexFunc_api_Field_h0 slices_IndexFunc_api_Field_o0 slices_IndexFunc_api_Field_c0)))
  (.seq (.region [] [⟨some 4, .mov (.c (.one (.int .i64)) [.int (-1)]), none, []⟩] false 0)
  .ret))) }
/-- slices.IndexFunc[[]clapperbridge/api.Field,clapperbridge/api.Field] -/
noncomputable def slices_IndexFunc_api_Field (E : Env) (p0 : C) (p1 : C) : Option (List Row) :=
  (slices_IndexFunc_api_Field_l0 E p0 p1 (p0.rows.length : Int) 0).bind fun x2 =>
    match x2.1 with
    | 0 =>
      some [[.int (-1)]]
    | i3 + 1 =>
      some [[.int ((at_ (hd x2.2) 0).toI)]]
theorem slices_IndexFunc_api_Field_eq (E : Env) (p0 : C) (p1 : C) : runP E slices_IndexFunc_api_Field_a [[p0], [p1]] = slices_IndexFunc_api_Field E p0 p1 := by kernel_rfl

def slices_ContainsFunc_api_Field_a : AFun := { ps := [(.one (.sl 55)), (.one (.fn 127))], rs := [(.one (.bool))], res := [(false, 4, none)], body := (.seq (.region [] [⟨some 4, .mov (.c (.one (.bool)) [.bool false]), none, []⟩] false 0)
  (.seq (.region [] [⟨some 5, .mov (.t 0), none, []⟩,
    ⟨some 6, .mov (.t 1), none, []⟩,
    ⟨some 7, .call 85 [(.one (.sl 55)), (.one (.fn 127))] [(.one (.int .i64))] [(.t 5), (.t 6)], none, []⟩,
    ⟨some 8, .icmp .geq (.t 7) (.c (.one (.int .i64)) [.int 0]), none, []⟩,
    ⟨some 4, .mov (.t 8), none, []⟩] false 0)
  .ret)) }
/-- slices.ContainsFunc[[]clapperbridge/api.Field,clapperbridge/api.Field] -/
noncomputable def slices_ContainsFunc_api_Field (E : Env) (p0 : C) (p1 : C) : Option (List Row) :=
  (E.pc n_slices_IndexFunc_api_Field [[p0], [p1]]).bind fun y1 =>
    some [[.bool (decide (((at_ (rowsAt y1 0) 0).toI) ≥ 0))]]
theorem slices_ContainsFunc_api_Field_eq (E : Env) (p0 : C) (p1 : C) : runP E slices_ContainsFunc_api_Field_a [[p0], [p1]] = slices_ContainsFunc_api_Field E p0 p1 := by kernel_rfl

def value_names_1_a : AFun := { ps := [(.agg [.str, .int .i64, .int .i64, .str, .sl 55]), (.one (.ref 55))], rs := [(.one (.bool))], res := [(false, 3, none)], body := (.seq (.region [] [⟨some 2, .boxP (.agg [.str, .int .i64, .int .i64, .str, .sl 55]) 55 (.t 0), none, []⟩,
    ⟨some 3, .mov (.c (.one (.bool)) [.bool false]), none, []⟩] false 0)
  (.seq (.region [] [⟨some 4, .fad 0 1 55 9 (.t 2), none, []⟩,
    ⟨some 5, .ld (.one (.str)) 9 (.t 4), none, []⟩,
    ⟨some 6, .fad 0 1 55 9 (.t 1), none, []⟩,
    ⟨some 7, .ld (.one (.str)) 9 (.t 6), none, []⟩,
    ⟨some 8, .scmp .eql (.t 5) (.t 7), none, []⟩,
    ⟨some 3, .mov (.t 8), none, []⟩] false 0)
  .ret)) }
/-- clapperbridge/value.names$1 -/
noncomputable def value_names_1 (E : Env) (p0 : Row) (p1 : C) : Option (List Row) :=
  if p1.isDp = true then
    some [[.bool (((at_ p0 0).toS) == ((at_ p1.dpRow 0).toS))]]
  else none
theorem value_names_1_eq (E : Env) (p0 : Row) (p1 : C) : runP E value_names_1_a [p0, [p1]] = value_names_1 E p0 p1 := by kernel_rfl

def value_names_h0 : Shape := { slots := [(0, .d (.one (.sl 55))), (5, .d (.one (.sl 55))), (6, .d (.one (.int .i64))), (7, .d (.one (.int .i64)))], objs := [] }
def value_names_o0 : List (Exit' × Shape) := [(.exit 0, { slots := [], objs := [] }), (.ret, { slots := [(2, .d (.one (.int .i64)))], objs := [] })]
def value_names_c0 : ACode := (.seq (.region [] [⟨some 8, .icmp .lss (.t 7) (.t 6), none, []⟩] false 0)
  (.seq (.cond (.t 8) .skip
  (.exit 0))
  (.seq (.block 1 (.seq (.region [] [⟨some 9, .mov (.t 7), none, []⟩,
    ⟨some 10, .iad 55 (.agg [.str, .int .i64, .int .i64, .str, .sl 55]) (.t 5) (.t 7), none, []⟩,
    ⟨some 11, .ld (.agg [.str, .int .i64, .int .i64, .str, .sl 55]) 55 (.t 10), none, []⟩,
    ⟨some 4, .allocO 0 (.agg [.str, .int .i64, .int .i64, .str, .sl 55]) [.str [], .int 0, .int 0, .str [], .nils], none, []⟩,
    ⟨some 3, .mov (.t 9), none, []⟩,
    ⟨none, .st (.agg [.str, .int .i64, .int .i64, .str, .sl 55]) (.t 4) (.t 11), none, []⟩] false 1)
  (.seq (.seq (.region [] [⟨some 12, .fad 0 1 55 9 (.t 4), none, []⟩,
    ⟨some 13, .ld (.one (.str)) 9 (.t 12), none, []⟩,
    ⟨some 14, .call 41 [(.one (.str))] [(.one (.bool))] [(.t 13)], none, []⟩,
    ⟨some 15, .not (.t 14), none, []⟩] false 0)
  (.cond (.t 15) (.seq (.region [] [⟨some 2, .mov (.c (.one (.int .i64)) [.int 15]), none, []⟩] false 0)
  .ret)
  .skip))
  (.seq (.region [(4, 55, some (.agg [.str, .int .i64, .int .i64, .str, .sl 55]))] [⟨some 16, .mov (.t 0), none, []⟩,
    ⟨some 17, .mov (.t 3), none, []⟩,
    ⟨some 18, .slc 55 (.agg [.str, .int .i64, .int .i64, .str, .sl 55]) (.t 16) none (some (.t 17)), none, []⟩,
    ⟨some 19, .mkf 80 127 [.ref 55] [(.t 4)], none, []⟩,
    ⟨some 20, .call 79 [(.one (.sl 55)), (.one (.fn 127))] [(.one (.bool))] [(.t 18), (.t 19)], none, []⟩] false 0)
  (.cond (.t 20) (.seq (.region [] [⟨some 2, .mov (.c (.one (.int .i64)) [.int 5]), none, []⟩] false 0)
  .ret)
  .skip)))))
  (.region [] [⟨some 21, .ibin .add (.t 7) (.c (.one (.int .i64)) [.int 1]), none, []⟩,
    ⟨some 7, .mov (.t 21), none, []⟩] false 0))))
noncomputable def value_names_l0 (E : Env) (v0 : C) (v1 : C) (v2 : Int) (v3 : Int) : Option (Nat × List PV) := E.fix (stepOf E value_names_c0 value_names_h0 value_names_o0) [.r [v0], .r [v1], .r [.int v2], .r [.int v3]]
noncomputable def value_names_b0 (E : Env) (X : C → C → Int → Int → Option (Nat × List PV)) (v0 : C) (v1 : C) (v2 : Int) (v3 : Int) : Option (Nat × List PV) :=
  if (decide (v3 < v2)) = true then
    if (0 : Int) ≤ v3 ∧ v3 < (v1.rows.length : Int) then
      (E.pc n_value_Name [[.str ((at_ (rowsAt v1.rows v3.toNat) 0).toS)]]).bind fun y1 =>
        if (!((at_ (rowsAt y1 0) 0).toB)) = true then
          some (1, [.r [.int 15]])
        else
          if (0 : Int) ≤ 0 ∧ 0 ≤ v3 ∧ v3 ≤ (v0.rows.length : Int) then
            (E.pc n_slices_ContainsFunc_api_Field [[slcC v0 0 v3], [.fn 80 [.dp (rowsAt v1.rows v3.toNat)]]]).bind fun y2 =>
              if ((at_ (rowsAt y2 0) 0).toB) = true then
                some (1, [.r [.int 5]])
              else
                X v0 v1 v2 (Go.IntKind.i64.wrap (v3 + 1))
          else none
    else none
  else
    some (0, [])
theorem value_names_s0 (E : Env) (X : List PV → Option (Nat × List PV)) (v0 : C) (v1 : C) (v2 : Int) (v3 : Int) : stepOf E value_names_c0 value_names_h0 value_names_o0 X [.r [v0], .r [v1], .r [.int v2], .r [.int v3]] = value_names_b0 E (fun (v0 : C) (v1 : C) (v2 : Int) (v3 : Int) => X [.r [v0], .r [v1], .r [.int v2], .r [.int v3]]) v0 v1 v2 v3 := by kernel_rfl
def value_names_a : AFun := { ps := [(.one (.sl 55))], rs := [(.one (.int .i64))], res := [(false, 2, none)], body := (.seq (.region [] [⟨some 2, .mov (.c (.one (.int .i64)) [.int 0]), none, []⟩] false 0)
  (.seq (.seq (.region [] [⟨some 5, .mov (.t 0), none, []⟩,
    ⟨some 6, .lenL (.t 5), none, []⟩,
    ⟨some 7, .mov (.c (.one (.int .i64)) [.int 0]), none, []⟩] false 0)
  (.block 0 (.loop value_names_h0 value_names_o0 value_names_c0)))
  (.seq (.region [] [⟨some 2, .mov (.c (.one (.int .i64)) [.int 0]), none, []⟩] false 0)
  .ret))) }
/-- clapperbridge/value.names -/
noncomputable def value_names (E : Env) (p0 : C) : Option (List Row) :=
  (value_names_l0 E p0 p0 (p0.rows.length : Int) 0).bind fun x3 =>
    match x3.1 with
    | 0 =>
      some [[.int 0]]
    | i4 + 1 =>
      some [[.int ((at_ (hd x3.2) 0).toI)]]
theorem value_names_eq (E : Env) (p0 : C) : runP E value_names_a [[p0]] = value_names E p0 := by kernel_rfl

def value_keys_h0 : Shape := { slots := [(1, .d (.one (.ref 25))), (6, .d (.one (.sl 55))), (7, .d (.one (.int .i64))), (8, .d (.one (.int .i64)))], objs := [] }
def value_keys_o0 : List (Exit' × Shape) := [(.exit 0, { slots := [], objs := [] }), (.ret, { slots := [(2, .d (.one (.int .i64)))], objs := [] })]
def value_keys_c0 : ACode := (.seq (.region [] [⟨some 9, .icmp .lss (.t 8) (.t 7), none, []⟩] false 0)
  (.seq (.cond (.t 9) .skip
  (.exit 0))
  (.seq (.join [(.normal, { slots := [(1, .d (.one (.ref 25))), (6, .d (.one (.sl 55))), (7, .d (.one (.int .i64))), (8, .d (.one (.int .i64)))], objs := [] }), (.ret, { slots := [(2, .d (.one (.int .i64)))], objs := [] })] (.block 1 (.seq (.region [] [⟨some 10, .mov (.t 8), none, []⟩,
    ⟨some 11, .iad 55 (.agg [.str, .int .i64, .int .i64, .str, .sl 55]) (.t 6) (.t 8), none, []⟩,
    ⟨some 12, .ld (.agg [.str, .int .i64, .int .i64, .str, .sl 55]) 55 (.t 11), none, []⟩,
    ⟨some 4, .allocO 0 (.agg [.str, .int .i64, .int .i64, .str, .sl 55]) [.str [], .int 0, .int 0, .str [], .nils], none, []⟩,
    ⟨some 3, .mov (.t 10), none, []⟩,
    ⟨none, .st (.agg [.str, .int .i64, .int .i64, .str, .sl 55]) (.t 4) (.t 12), none, []⟩] false 1)
  (.block 2 (.seq (.join [(.normal, { slots := [(1, .d (.one (.ref 25))), (3, .d (.one (.int .i64))), (4, .ptr 0 0), (6, .d (.one (.sl 55))), (7, .d (.one (.int .i64))), (8, .d (.one (.int .i64))), (13, .d (.one (.bool)))], objs := [.var (.agg [.str, .int .i64, .int .i64, .str, .sl 55])] })] (.region [] [⟨some 14, .fad 0 1 25 3 (.t 1), none, []⟩,
    ⟨some 15, .ld (.one (.int .i64)) 3 (.t 14), none, []⟩,
    ⟨some 16, .icmp .eql (.t 15) (.c (.one (.int .i64)) [.int 8]), none, []⟩,
    ⟨some 17, .mov (.t 16), none, []⟩,
    ⟨some 18, .fad 0 1 55 9 (.t 4), some (17, true), []⟩,
    ⟨some 19, .ld (.one (.str)) 9 (.t 18), some (17, true), []⟩,
    ⟨some 20, .scmp .neq (.t 19) (.c (.one (.str)) [.str ([] : List UInt8)]), some (17, true), []⟩,
    ⟨some 21, .pick (.t 17) (.t 20) (.c (.one (.bool)) [.bool false]), none, []⟩,
    ⟨some 13, .mov (.t 21), none, []⟩] false 0))
  (.cond (.t 13) (.seq (.region [] [⟨some 2, .mov (.c (.one (.int .i64)) [.int 3]), none, []⟩] false 0)
  .ret)
  (.seq (.region [] [⟨some 23, .fad 0 1 25 3 (.t 1), none, []⟩,
    ⟨some 24, .ld (.one (.int .i64)) 3 (.t 23), none, []⟩,
    ⟨some 25, .icmp .eql (.t 24) (.c (.one (.int .i64)) [.int 8]), none, []⟩,
    ⟨some 22, .mov (.t 25), none, []⟩] false 0)
  (.cond (.t 22) .skip
  (.seq (.region [] [⟨some 27, .fad 0 1 55 9 (.t 4), none, []⟩,
    ⟨some 28, .ld (.one (.str)) 9 (.t 27), none, []⟩,
    ⟨some 29, .lenS (.t 28), none, []⟩,
    ⟨some 30, .icmp .gtr (.t 29) (.c (.one (.int .i64)) [.int 4000]), none, []⟩,
    ⟨some 26, .mov (.t 30), none, []⟩] false 0)
  (.cond (.t 26) (.seq (.region [] [⟨some 2, .mov (.c (.one (.int .i64)) [.int 2]), none, []⟩] false 0)
  .ret)
  (.seq (.region [] [⟨some 32, .mov (.t 3), none, []⟩,
    ⟨some 33, .icmp .gtr (.t 32) (.c (.one (.int .i64)) [.int 0]), none, [0]⟩,
    ⟨some 34, .mov (.t 33), none, [0, 1]⟩,
    ⟨some 35, .fad 0 1 55 9 (.t 4), some (34, true), [0, 1, 2]⟩,
    ⟨some 36, .ld (.one (.str)) 9 (.t 35), some (34, true), [0, 1, 2, 3]⟩,
    ⟨some 37, .fad 3 1 25 23 (.t 1), some (34, true), [0, 1, 2]⟩,
    ⟨some 38, .ld (.one (.sl 55)) 23 (.t 37), some (34, true), [0, 1, 2, 5]⟩,
    ⟨some 39, .mov (.t 3), some (34, true), [0, 1, 2]⟩,
    ⟨some 40, .ibin .sub (.t 39) (.c (.one (.int .i64)) [.int 1]), some (34, true), [0, 1, 2, 7]⟩,
    ⟨some 41, .iad 55 (.agg [.str, .int .i64, .int .i64, .str, .sl 55]) (.t 38) (.t 40), some (34, true), [0, 1, 2, 5, 6, 7, 8]⟩,
    ⟨some 42, .fad 0 1 55 9 (.t 41), some (34, true), [0, 1, 2, 5, 6, 7, 8, 9]⟩,
    ⟨some 43, .ld (.one (.str)) 9 (.t 42), some (34, true), [0, 1, 2, 5, 6, 7, 8, 9, 10]⟩,
    ⟨some 44, .scmp .leq (.t 36) (.t 43), some (34, true), [0, 1, 2, 3, 4, 5, 6, 7, 8, 9, 10, 11]⟩,
    ⟨some 45, .pick (.t 34) (.t 44) (.c (.one (.bool)) [.bool false]), none, [0, 1, 2, 3, 4, 5, 6, 7, 8, 9, 10, 11, 12]⟩,
    ⟨some 31, .mov (.t 45), none, [0, 1, 2, 3, 4, 5, 6, 7, 8, 9, 10, 11, 12, 13]⟩] true 0)
  (.cond (.t 31) (.seq (.region [] [⟨some 2, .mov (.c (.one (.int .i64)) [.int 9]), none, []⟩] false 0)
  .ret)
  .skip))))))))))))
  (.region [] [⟨some 46, .ibin .add (.t 8) (.c (.one (.int .i64)) [.int 1]), none, []⟩,
    ⟨some 8, .mov (.t 46), none, []⟩] false 0))))
noncomputable def value_keys_l0 (E : Env) (v0 : C) (v1 : C) (v2 : Int) (v3 : Int) : Option (Nat × List PV) := E.fix (stepOf E value_keys_c0 value_keys_h0 value_keys_o0) [.r [v0], .r [v1], .r [.int v2], .r [.int v3]]
noncomputable def value_keys_b0 (E : Env) (X : C → C → Int → Int → Option (Nat × List PV)) (v0 : C) (v1 : C) (v2 : Int) (v3 : Int) : Option (Nat × List PV) :=
  if (decide (v3 < v2)) = true then
    (if (0 : Int) ≤ v3 ∧ v3 < (v1.rows.length : Int) then
      (if v0.isDp = true then
        if (((at_ v0.dpRow 0).toI) == 8) = true then
          some (0, [.r [v0], .r [.int v3], .r [v1], .r [.int v2], .r [.int v3], .r [.bool (!(((at_ (rowsAt v1.rows v3.toNat) 0).toS) == ([] : List UInt8)))], .r (rowsAt v1.rows v3.toNat)])
        else
          some (0, [.r [v0], .r [.int v3], .r [v1], .r [.int v2], .r [.int v3], .r [.bool false], .r (rowsAt v1.rows v3.toNat)])
      else none).bind fun x1 =>
        if ((at_ (hd x1.2.tail.tail.tail.tail.tail) 0).toB) = true then
          some (1, [.r [.int 3]])
        else
          if (at_ (hd x1.2) 0).isDp = true then
            if (((at_ ((at_ (hd x1.2) 0).dpRow) 0).toI) == 8) = true then
              some (0, [.r [at_ (hd x1.2) 0], .r [at_ (hd x1.2.tail.tail) 0], .r [.int ((at_ (hd x1.2.tail.tail.tail) 0).toI)], .r [.int ((at_ (hd x1.2.tail.tail.tail.tail) 0).toI)]])
            else
              if (decide ((((at_ (hd x1.2.tail.tail.tail.tail.tail.tail) 0).toS).length : Int) > 4000)) = true then
                some (1, [.r [.int 2]])
              else
                if (decide (((at_ (hd x1.2.tail) 0).toI) > 0)) = true then
                  if (at_ (hd x1.2) 0).isDp = true then
                    if (0 : Int) ≤ (Go.IntKind.i64.wrap (((at_ (hd x1.2.tail) 0).toI) - 1)) ∧ (Go.IntKind.i64.wrap (((at_ (hd x1.2.tail) 0).toI) - 1)) < (((at_ ((at_ (hd x1.2) 0).dpRow) 3).rows).length : Int) then
                      if (Go.Op.bytesLess ((at_ (hd x1.2.tail.tail.tail.tail.tail.tail) 0).toS) ((at_ (rowsAt ((at_ ((at_ (hd x1.2) 0).dpRow) 3).rows) ((Go.IntKind.i64.wrap (((at_ (hd x1.2.tail) 0).toI) - 1)).toNat)) 0).toS) || ((at_ (hd x1.2.tail.tail.tail.tail.tail.tail) 0).toS) == ((at_ (rowsAt ((at_ ((at_ (hd x1.2) 0).dpRow) 3).rows) ((Go.IntKind.i64.wrap (((at_ (hd x1.2.tail) 0).toI) - 1)).toNat)) 0).toS)) = true then
                        some (1, [.r [.int 9]])
                      else
                        some (0, [.r [at_ (hd x1.2) 0], .r [at_ (hd x1.2.tail.tail) 0], .r [.int ((at_ (hd x1.2.tail.tail.tail) 0).toI)], .r [.int ((at_ (hd x1.2.tail.tail.tail.tail) 0).toI)]])
                    else none
                  else none
                else
                  some (0, [.r [at_ (hd x1.2) 0], .r [at_ (hd x1.2.tail.tail) 0], .r [.int ((at_ (hd x1.2.tail.tail.tail) 0).toI)], .r [.int ((at_ (hd x1.2.tail.tail.tail.tail) 0).toI)]])
          else none
    else none).bind fun x2 =>
      match x2.1 with
      | 0 =>
        X (at_ (hd x2.2) 0) (at_ (hd x2.2.tail) 0) ((at_ (hd x2.2.tail.tail) 0).toI) (Go.IntKind.i64.wrap (((at_ (hd x2.2.tail.tail.tail) 0).toI) + 1))
      | i3 + 1 =>
        some (1, [.r [.int ((at_ (hd x2.2) 0).toI)]])
  else
    some (0, [])
theorem value_keys_s0 (E : Env) (X : List PV → Option (Nat × List PV)) (v0 : C) (v1 : C) (v2 : Int) (v3 : Int) : stepOf E value_keys_c0 value_keys_h0 value_keys_o0 X [.r [v0], .r [v1], .r [.int v2], .r [.int v3]] = value_keys_b0 E (fun (v0 : C) (v1 : C) (v2 : Int) (v3 : Int) => X [.r [v0], .r [v1], .r [.int v2], .r [.int v3]]) v0 v1 v2 v3 := by kernel_rfl
def value_keys_a : AFun := { ps := [(.agg [.int .i64, .int .i64, .str, .sl 55])], rs := [(.one (.int .i64))], res := [(false, 2, none)], body := (.seq (.region [] [⟨some 1, .boxP (.agg [.int .i64, .int .i64, .str, .sl 55]) 25 (.t 0), none, []⟩,
    ⟨some 2, .mov (.c (.one (.int .i64)) [.int 0]), none, []⟩] false 0)
  (.seq (.seq (.region [] [⟨some 5, .fad 3 1 25 23 (.t 1), none, []⟩,
    ⟨some 6, .ld (.one (.sl 55)) 23 (.t 5), none, []⟩,
    ⟨some 7, .lenL (.t 6), none, []⟩,
    ⟨some 8, .mov (.c (.one (.int .i64)) [.int 0]), none, []⟩] false 0)
  (.block 0 (.loop value_keys_h0 value_keys_o0 value_keys_c0)))
  (.seq (.region [] [⟨some 2, .mov (.c (.one (.int .i64)) [.int 0]), none, []⟩] false 0)
  .ret))) }
/-- clapperbridge/value.keys -/
noncomputable def value_keys (E : Env) (p0 : Row) : Option (List Row) :=
  (value_keys_l0 E (.dp p0) (at_ p0 3) (((at_ p0 3).rows).length : Int) 0).bind fun x4 =>
    match x4.1 with
    | 0 =>
      some [[.int 0]]
    | i5 + 1 =>
      some [[.int ((at_ (hd x4.2) 0).toI)]]
theorem value_keys_eq (E : Env) (p0 : Row) : runP E value_keys_a [p0] = value_keys E p0 := by kernel_rfl

def value_fields_a : AFun := { ps := [(.agg [.int .i64, .int .i64, .str, .sl 55])], rs := [(.one (.int .i64))], res := [(false, 2, none)], body := (.seq (.region [] [⟨some 1, .boxP (.agg [.int .i64, .int .i64, .str, .sl 55]) 25 (.t 0), none, []⟩,
    ⟨some 2, .mov (.c (.one (.int .i64)) [.int 0]), none, []⟩] false 0)
  (.seq (.seq (.region [] [⟨some 3, .fad 0 1 25 3 (.t 1), none, []⟩,
    ⟨some 4, .ld (.one (.int .i64)) 3 (.t 3), none, []⟩] false 0)
  (.block 0 (.seq (.region [] [⟨some 6, .icmp .eql (.t 4) (.c (.one (.int .i64)) [.int 5]), none, []⟩,
    ⟨some 5, .mov (.t 6), none, []⟩] false 0)
  (.cond (.t 5) (.seq (.region [] [⟨some 7, .fad 2 1 25 9 (.t 1), none, []⟩,
    ⟨some 8, .ld (.one (.str)) 9 (.t 7), none, []⟩,
    ⟨some 9, .lenS (.t 8), none, []⟩,
    ⟨some 10, .icmp .gtr (.t 9) (.c (.one (.int .i64)) [.int 4000]), none, []⟩] false 0)
  (.cond (.t 10) (.seq (.region [] [⟨some 2, .mov (.c (.one (.int .i64)) [.int 2]), none, []⟩] false 0)
  .ret)
  .skip))
  (.seq (.region [] [⟨some 12, .icmp .eql (.t 4) (.c (.one (.int .i64)) [.int 6]), none, []⟩,
    ⟨some 11, .mov (.t 12), none, []⟩] false 0)
  (.cond (.t 11) (.seq (.seq (.region [] [⟨some 13, .fad 3 1 25 23 (.t 1), none, []⟩,
    ⟨some 14, .ld (.one (.sl 55)) 23 (.t 13), none, []⟩,
    ⟨some 15, .lenL (.t 14), none, []⟩,
    ⟨some 16, .icmp .gtr (.t 15) (.c (.one (.int .i64)) [.int 24]), none, []⟩] false 0)
  (.cond (.t 16) (.seq (.region [] [⟨some 2, .mov (.c (.one (.int .i64)) [.int 2]), none, []⟩] false 0)
  .ret)
  .skip))
  (.seq (.region [] [⟨some 17, .fad 3 1 25 23 (.t 1), none, []⟩,
    ⟨some 18, .ld (.one (.sl 55)) 23 (.t 17), none, []⟩,
    ⟨some 19, .call 69 [(.one (.sl 55))] [(.one (.int .i64))] [(.t 18)], none, []⟩,
    ⟨some 2, .mov (.t 19), none, []⟩] false 0)
  .ret))
  (.seq (.region [] [⟨some 21, .icmp .eql (.t 4) (.c (.one (.int .i64)) [.int 7]), none, []⟩,
    ⟨some 20, .mov (.t 21), none, []⟩] false 0)
  (.cond (.t 20) (.seq (.seq (.region [] [⟨some 22, .fad 3 1 25 23 (.t 1), none, []⟩,
    ⟨some 23, .ld (.one (.sl 55)) 23 (.t 22), none, []⟩,
    ⟨some 24, .lenL (.t 23), none, []⟩,
    ⟨some 25, .icmp .neq (.t 24) (.c (.one (.int .i64)) [.int 1]), none, []⟩] false 0)
  (.cond (.t 25) (.seq (.region [] [⟨some 2, .mov (.c (.one (.int .i64)) [.int 3]), none, []⟩] false 0)
  .ret)
  .skip))
  (.seq (.region [] [⟨some 26, .fad 3 1 25 23 (.t 1), none, []⟩,
    ⟨some 27, .ld (.one (.sl 55)) 23 (.t 26), none, []⟩,
    ⟨some 28, .call 69 [(.one (.sl 55))] [(.one (.int .i64))] [(.t 27)], none, []⟩,
    ⟨some 2, .mov (.t 28), none, []⟩] false 0)
  .ret))
  (.seq (.seq (.region [] [⟨some 30, .icmp .eql (.t 4) (.c (.one (.int .i64)) [.int 8]), none, []⟩,
    ⟨some 29, .mov (.t 30), none, []⟩] false 0)
  (.cond (.t 29) .skip
  (.region [] [⟨some 31, .icmp .eql (.t 4) (.c (.one (.int .i64)) [.int 9]), none, []⟩,
    ⟨some 29, .mov (.t 31), none, []⟩] false 0)))
  (.cond (.t 29) (.seq (.seq (.region [] [⟨some 32, .fad 3 1 25 23 (.t 1), none, []⟩,
    ⟨some 33, .ld (.one (.sl 55)) 23 (.t 32), none, []⟩,
    ⟨some 34, .lenL (.t 33), none, []⟩,
    ⟨some 35, .icmp .gtr (.t 34) (.c (.one (.int .i64)) [.int 200]), none, []⟩] false 0)
  (.cond (.t 35) (.seq (.region [] [⟨some 2, .mov (.c (.one (.int .i64)) [.int 2]), none, []⟩] false 0)
  .ret)
  .skip))
  (.seq (.region [] [⟨some 36, .ld (.agg [.int .i64, .int .i64, .str, .sl 55]) 25 (.t 1), none, []⟩,
    ⟨some 37, .call 70 [(.agg [.int .i64, .int .i64, .str, .sl 55])] [(.one (.int .i64))] [(.t 36)], none, []⟩,
    ⟨some 2, .mov (.t 37), none, []⟩] false 0)
  .ret))
  .skip))))))))))
  (.seq (.region [] [⟨some 2, .mov (.c (.one (.int .i64)) [.int 0]), none, []⟩] false 0)
  .ret))) }
/-- clapperbridge/value.fields -/
noncomputable def value_fields (E : Env) (p0 : Row) : Option (List Row) :=
  if (((at_ p0 0).toI) == 5) = true then
    if (decide ((((at_ p0 2).toS).length : Int) > 4000)) = true then
      some [[.int 2]]
    else
      some [[.int 0]]
  else
    if (((at_ p0 0).toI) == 6) = true then
      if (decide ((((at_ p0 3).rows).length : Int) > 24)) = true then
        some [[.int 2]]
      else
        (E.pc n_value_names [[at_ p0 3]]).bind fun y1 =>
          some [[.int ((at_ (rowsAt y1 0) 0).toI)]]
    else
      if (((at_ p0 0).toI) == 7) = true then
        if ((((at_ p0 3).rows).length : Int) != 1) = true then
          some [[.int 3]]
        else
          (E.pc n_value_names [[at_ p0 3]]).bind fun y2 =>
            some [[.int ((at_ (rowsAt y2 0) 0).toI)]]
      else
        if (((at_ p0 0).toI) == 8) = true then
          if (((at_ p0 0).toI) == 8) = true then
            if (decide ((((at_ p0 3).rows).length : Int) > 200)) = true then
              some [[.int 2]]
            else
              (E.pc n_value_keys [p0]).bind fun y3 =>
                some [[.int ((at_ (rowsAt y3 0) 0).toI)]]
          else
            some [[.int 0]]
        else
          if (((at_ p0 0).toI) == 9) = true then
            if (decide ((((at_ p0 3).rows).length : Int) > 200)) = true then
              some [[.int 2]]
            else
              (E.pc n_value_keys [p0]).bind fun y4 =>
                some [[.int ((at_ (rowsAt y4 0) 0).toI)]]
          else
            some [[.int 0]]
theorem value_fields_eq (E : Env) (p0 : Row) : runP E value_fields_a [p0] = value_fields E p0 := by kernel_rfl

def value_node_h0 : Shape := { slots := [(46, .d (.one (.sl 55))), (47, .d (.one (.int .i64))), (48, .d (.one (.int .i64)))], objs := [] }
def value_node_o0 : List (Exit' × Shape) := [(.exit 1, { slots := [], objs := [] }), (.ret, { slots := [(4, .d (.one (.int .i64)))], objs := [] })]
def value_node_c0 : ACode := (.seq (.region [] [⟨some 49, .icmp .lss (.t 48) (.t 47), none, []⟩] false 0)
  (.seq (.cond (.t 49) .skip
  (.exit 1))
  (.seq (.block 2 (.seq (.region [] [⟨some 50, .iad 55 (.agg [.str, .int .i64, .int .i64, .str, .sl 55]) (.t 46) (.t 48), none, []⟩,
    ⟨some 51, .ld (.agg [.str, .int .i64, .int .i64, .str, .sl 55]) 55 (.t 50), none, []⟩,
    ⟨some 7, .allocO 0 (.agg [.str, .int .i64, .int .i64, .str, .sl 55]) [.str [], .int 0, .int 0, .str [], .nils], none, []⟩,
    ⟨none, .st (.agg [.str, .int .i64, .int .i64, .str, .sl 55]) (.t 7) (.t 51), none, []⟩] false 1)
  (.seq (.region [] [⟨some 52, .fad 1 4 55 25 (.t 7), none, []⟩,
    ⟨some 53, .ld (.agg [.int .i64, .int .i64, .str, .sl 55]) 25 (.t 52), none, []⟩,
    ⟨some 54, .call 49 [(.agg [.int .i64, .int .i64, .str, .sl 55]), (.one (.bool))] [(.one (.int .i64))] [(.t 53), (.c (.one (.bool)) [.bool false])], none, []⟩,
    ⟨some 8, .mov (.t 54), none, []⟩] false 0)
  (.seq (.region [] [⟨some 55, .mov (.t 8), none, []⟩,
    ⟨some 56, .icmp .neq (.t 55) (.c (.one (.int .i64)) [.int 0]), none, []⟩] false 0)
  (.cond (.t 56) (.seq (.region [] [⟨some 57, .mov (.t 8), none, []⟩,
    ⟨some 4, .mov (.t 57), none, []⟩] false 0)
  .ret)
  .skip)))))
  (.region [] [⟨some 58, .ibin .add (.t 48) (.c (.one (.int .i64)) [.int 1]), none, []⟩,
    ⟨some 48, .mov (.t 58), none, []⟩] false 0))))
noncomputable def value_node_l0 (E : Env) (v0 : C) (v1 : Int) (v2 : Int) : Option (Nat × List PV) := E.fix (stepOf E value_node_c0 value_node_h0 value_node_o0) [.r [v0], .r [.int v1], .r [.int v2]]
noncomputable def value_node_b0 (E : Env) (X : C → Int → Int → Option (Nat × List PV)) (v0 : C) (v1 : Int) (v2 : Int) : Option (Nat × List PV) :=
  if (decide (v2 < v1)) = true then
    if (0 : Int) ≤ v2 ∧ v2 < (v0.rows.length : Int) then
      (E.pc n_value_node [[at_ (rowsAt v0.rows v2.toNat) 1, at_ (rowsAt v0.rows v2.toNat) 2, at_ (rowsAt v0.rows v2.toNat) 3, at_ (rowsAt v0.rows v2.toNat) 4], [.bool false]]).bind fun y8 =>
        if (((at_ (rowsAt y8 0) 0).toI) != 0) = true then
          some (1, [.r [.int ((at_ (rowsAt y8 0) 0).toI)]])
        else
          X v0 v1 (Go.IntKind.i64.wrap (v2 + 1))
    else none
  else
    some (0, [])
theorem value_node_s0 (E : Env) (X : List PV → Option (Nat × List PV)) (v0 : C) (v1 : Int) (v2 : Int) : stepOf E value_node_c0 value_node_h0 value_node_o0 X [.r [v0], .r [.int v1], .r [.int v2]] = value_node_b0 E (fun (v0 : C) (v1 : Int) (v2 : Int) => X [.r [v0], .r [.int v1], .r [.int v2]]) v0 v1 v2 := by kernel_rfl
def value_node_a : AFun := { ps := [(.agg [.int .i64, .int .i64, .str, .sl 55]), (.one (.bool))], rs := [(.one (.int .i64))], res := [(false, 4, none)], body := (.seq (.region [] [⟨some 2, .boxP (.agg [.int .i64, .int .i64, .str, .sl 55]) 25 (.t 0), none, []⟩,
    ⟨some 4, .mov (.c (.one (.int .i64)) [.int 0]), none, []⟩] false 0)
  (.seq (.join [(.normal, { slots := [(2, .d (.one (.ref 25)))], objs := [] }), (.ret, { slots := [(4, .d (.one (.int .i64)))], objs := [] })] (.block 0 (.seq (.join [(.normal, { slots := [(2, .d (.one (.ref 25))), (9, .d (.one (.bool)))], objs := [] })] (.region [] [⟨some 10, .fad 0 1 25 3 (.t 2), none, []⟩,
    ⟨some 11, .ld (.one (.int .i64)) 3 (.t 10), none, []⟩,
    ⟨some 12, .icmp .lss (.t 11) (.c (.one (.int .i64)) [.int 0]), none, []⟩,
    ⟨some 13, .mov (.t 12), none, []⟩,
    ⟨some 14, .fad 0 1 25 3 (.t 2), some (13, false), []⟩,
    ⟨some 15, .ld (.one (.int .i64)) 3 (.t 14), some (13, false), []⟩,
    ⟨some 16, .icmp .geq (.t 15) (.c (.one (.int .i64)) [.int 12]), some (13, false), []⟩,
    ⟨some 17, .pick (.t 13) (.c (.one (.bool)) [.bool true]) (.t 16), none, []⟩,
    ⟨some 18, .mov (.t 17), none, []⟩,
    ⟨some 19, .fad 0 1 25 3 (.t 2), some (18, false), []⟩,
    ⟨some 20, .ld (.one (.int .i64)) 3 (.t 19), some (18, false), []⟩,
    ⟨some 21, .icmp .eql (.t 20) (.c (.one (.int .i64)) [.int 10]), some (18, false), []⟩,
    ⟨some 22, .pick (.t 18) (.c (.one (.bool)) [.bool true]) (.t 21), none, []⟩,
    ⟨some 23, .mov (.t 22), none, []⟩,
    ⟨some 24, .fad 0 1 25 3 (.t 2), some (23, false), []⟩,
    ⟨some 25, .ld (.one (.int .i64)) 3 (.t 24), some (23, false), []⟩,
    ⟨some 26, .icmp .eql (.t 25) (.c (.one (.int .i64)) [.int 11]), some (23, false), []⟩,
    ⟨some 27, .mov (.t 26), some (23, false), []⟩,
    ⟨some 28, .mov (.t 1), some (27, true), []⟩,
    ⟨some 29, .not (.t 28), some (27, true), []⟩,
    ⟨some 30, .pick (.t 27) (.t 29) (.c (.one (.bool)) [.bool false]), some (23, false), []⟩,
    ⟨some 31, .pick (.t 23) (.c (.one (.bool)) [.bool true]) (.t 30), none, []⟩,
    ⟨some 32, .mov (.t 31), none, []⟩,
    ⟨some 33, .ld (.agg [.int .i64, .int .i64, .str, .sl 55]) 25 (.t 2), some (32, false), []⟩,
    ⟨some 34, .call 58 [(.agg [.int .i64, .int .i64, .str, .sl 55])] [(.one (.bool))] [(.t 33)], some (32, false), []⟩,
    ⟨some 35, .pick (.t 32) (.c (.one (.bool)) [.bool true]) (.t 34), none, []⟩,
    ⟨some 9, .mov (.t 35), none, []⟩] false 0))
  (.cond (.t 9) (.seq (.region [] [⟨some 4, .mov (.c (.one (.int .i64)) [.int 3]), none, []⟩] false 0)
  .ret)
  (.seq (.region [] [⟨some 37, .ld (.agg [.int .i64, .int .i64, .str, .sl 55]) 25 (.t 2), none, []⟩,
    ⟨some 38, .call 59 [(.agg [.int .i64, .int .i64, .str, .sl 55])] [(.one (.bool))] [(.t 37)], none, []⟩,
    ⟨some 39, .not (.t 38), none, []⟩,
    ⟨some 36, .mov (.t 39), none, []⟩] false 0)
  (.cond (.t 36) (.seq (.region [] [⟨some 4, .mov (.c (.one (.int .i64)) [.int 11]), none, []⟩] false 0)
  .ret)
  .skip))))))
  (.seq (.seq (.region [] [⟨some 40, .ld (.agg [.int .i64, .int .i64, .str, .sl 55]) 25 (.t 2), none, []⟩,
    ⟨some 41, .call 60 [(.agg [.int .i64, .int .i64, .str, .sl 55])] [(.one (.int .i64))] [(.t 40)], none, []⟩,
    ⟨some 5, .mov (.t 41), none, []⟩] false 0)
  (.seq (.region [] [⟨some 42, .mov (.t 5), none, []⟩,
    ⟨some 43, .icmp .neq (.t 42) (.c (.one (.int .i64)) [.int 0]), none, []⟩] false 0)
  (.cond (.t 43) (.seq (.region [] [⟨some 44, .mov (.t 5), none, []⟩,
    ⟨some 4, .mov (.t 44), none, []⟩] false 0)
  .ret)
  .skip)))
  (.seq (.seq (.region [] [⟨some 45, .fad 3 1 25 23 (.t 2), none, []⟩,
    ⟨some 46, .ld (.one (.sl 55)) 23 (.t 45), none, []⟩,
    ⟨some 47, .lenL (.t 46), none, []⟩,
    ⟨some 48, .mov (.c (.one (.int .i64)) [.int 0]), none, []⟩] false 0)
  (.block 1 (.loop value_node_h0 value_node_o0 value_node_c0)))
  (.seq (.region [] [⟨some 4, .mov (.c (.one (.int .i64)) [.int 0]), none, []⟩] false 0)
  .ret))))) }
/-- clapperbridge/value.node -/
noncomputable def value_node (E : Env) (p0 : Row) (p1 : Bool) : Option (List Row) :=
  ((if (decide (((at_ p0 0).toI) < 0)) = true then
    some (0, [.r [.dp p0], .r [.bool true]])
  else
    if (decide (((at_ p0 0).toI) ≥ 12)) = true then
      some (0, [.r [.dp p0], .r [.bool true]])
    else
      if (((at_ p0 0).toI) == 10) = true then
        some (0, [.r [.dp p0], .r [.bool true]])
      else
        if (((at_ p0 0).toI) == 11) = true then
          if (!p1) = true then
            some (0, [.r [.dp p0], .r [.bool true]])
          else
            (E.pc n_value_unused [p0]).bind fun y1 =>
              some (0, [.r [.dp p0], .r [.bool ((at_ (rowsAt y1 0) 0).toB)]])
        else
          (E.pc n_value_unused [p0]).bind fun y2 =>
            some (0, [.r [.dp p0], .r [.bool ((at_ (rowsAt y2 0) 0).toB)]])).bind fun x3 =>
    if ((at_ (hd x3.2.tail) 0).toB) = true then
      some (1, [.r [.int 3]])
    else
      if (at_ (hd x3.2) 0).isDp = true then
        (E.pc n_value_number [(at_ (hd x3.2) 0).dpRow]).bind fun y4 =>
          if (!((at_ (rowsAt y4 0) 0).toB)) = true then
            some (1, [.r [.int 11]])
          else
            some (0, [.r [at_ (hd x3.2) 0]])
      else none).bind fun x5 =>
    match x5.1 with
    | 0 =>
      if (at_ (hd x5.2) 0).isDp = true then
        (E.pc n_value_fields [(at_ (hd x5.2) 0).dpRow]).bind fun y7 =>
          if (((at_ (rowsAt y7 0) 0).toI) != 0) = true then
            some [[.int ((at_ (rowsAt y7 0) 0).toI)]]
          else
            if (at_ (hd x5.2) 0).isDp = true then
              (value_node_l0 E (at_ ((at_ (hd x5.2) 0).dpRow) 3) (((at_ ((at_ (hd x5.2) 0).dpRow) 3).rows).length : Int) 0).bind fun x9 =>
                match x9.1 with
                | 0 =>
                  some [[.int 0]]
                | i10 + 1 =>
                  some [[.int ((at_ (hd x9.2) 0).toI)]]
            else none
      else none
    | i6 + 1 =>
      some [[.int ((at_ (hd x5.2) 0).toI)]]
theorem value_node_eq (E : Env) (p0 : Row) (p1 : Bool) : runP E value_node_a [p0, [.bool p1]] = value_node E p0 p1 := by kernel_rfl

def value_Check_a : AFun := { ps := [(.agg [.int .i64, .int .i64, .str, .sl 55])], rs := [(.one (.int .i64))], res := [(false, 2, none)], body := (.seq (.region [] [⟨some 1, .boxP (.agg [.int .i64, .int .i64, .str, .sl 55]) 25 (.t 0), none, []⟩,
    ⟨some 2, .mov (.c (.one (.int .i64)) [.int 0]), none, []⟩] false 0)
  (.seq (.seq (.region [] [⟨some 3, .ld (.agg [.int .i64, .int .i64, .str, .sl 55]) 25 (.t 1), none, []⟩,
    ⟨some 4, .call 47 [(.agg [.int .i64, .int .i64, .str, .sl 55])] [(.one (.int .i64))] [(.t 3)], none, []⟩,
    ⟨some 5, .icmp .gtr (.t 4) (.c (.one (.int .i64)) [.int 2000]), none, []⟩,
    ⟨some 6, .mov (.t 5), none, []⟩,
    ⟨some 7, .ld (.agg [.int .i64, .int .i64, .str, .sl 55]) 25 (.t 1), some (6, false), []⟩,
    ⟨some 8, .call 48 [(.agg [.int .i64, .int .i64, .str, .sl 55])] [(.one (.int .i64))] [(.t 7)], some (6, false), []⟩,
    ⟨some 9, .icmp .gtr (.t 8) (.c (.one (.int .i64)) [.int 40]), some (6, false), []⟩,
    ⟨some 10, .pick (.t 6) (.c (.one (.bool)) [.bool true]) (.t 9), none, []⟩] false 0)
  (.cond (.t 10) (.seq (.region [] [⟨some 2, .mov (.c (.one (.int .i64)) [.int 2]), none, []⟩] false 0)
  .ret)
  .skip))
  (.seq (.region [] [⟨some 11, .ld (.agg [.int .i64, .int .i64, .str, .sl 55]) 25 (.t 1), none, []⟩,
    ⟨some 12, .call 49 [(.agg [.int .i64, .int .i64, .str, .sl 55]), (.one (.bool))] [(.one (.int .i64))] [(.t 11), (.c (.one (.bool)) [.bool true])], none, []⟩,
    ⟨some 2, .mov (.t 12), none, []⟩] false 0)
  .ret))) }
/-- clapperbridge/value.Check -/
noncomputable def value_Check (E : Env) (p0 : Row) : Option (List Row) :=
  (E.pc n_value_Size [p0]).bind fun y1 =>
    if (decide (((at_ (rowsAt y1 0) 0).toI) > 2000)) = true then
      some [[.int 2]]
    else
      (E.pc n_value_Deep [p0]).bind fun y2 =>
        if (decide (((at_ (rowsAt y2 0) 0).toI) > 40)) = true then
          some [[.int 2]]
        else
          (E.pc n_value_node [p0, [.bool true]]).bind fun y3 =>
            some [[.int ((at_ (rowsAt y3 0) 0).toI)]]
theorem value_Check_eq (E : Env) (p0 : Row) : runP E value_Check_a [p0] = value_Check E p0 := by kernel_rfl

def lens_Plain_a : AFun := { ps := [(.one (.int .i64))], rs := [(.one (.bool))], res := [(false, 2, none)], body := (.seq (.region [] [⟨some 2, .mov (.c (.one (.bool)) [.bool false]), none, []⟩] false 0)
  (.seq (.region [] [⟨some 3, .mov (.t 0), none, []⟩,
    ⟨some 4, .icmp .eql (.t 3) (.c (.one (.int .i64)) [.int 1]), none, []⟩,
    ⟨some 5, .mov (.t 4), none, []⟩,
    ⟨some 6, .mov (.t 0), some (5, false), []⟩,
    ⟨some 7, .icmp .eql (.t 6) (.c (.one (.int .i64)) [.int 2]), some (5, false), []⟩,
    ⟨some 8, .pick (.t 5) (.c (.one (.bool)) [.bool true]) (.t 7), none, []⟩,
    ⟨some 9, .mov (.t 8), none, []⟩,
    ⟨some 10, .mov (.t 0), some (9, false), []⟩,
    ⟨some 11, .icmp .eql (.t 10) (.c (.one (.int .i64)) [.int 4]), some (9, false), []⟩,
    ⟨some 12, .pick (.t 9) (.c (.one (.bool)) [.bool true]) (.t 11), none, []⟩,
    ⟨some 13, .mov (.t 12), none, []⟩,
    ⟨some 14, .mov (.t 0), some (13, false), []⟩,
    ⟨some 15, .icmp .eql (.t 14) (.c (.one (.int .i64)) [.int 5]), some (13, false), []⟩,
    ⟨some 16, .pick (.t 13) (.c (.one (.bool)) [.bool true]) (.t 15), none, []⟩,
    ⟨some 2, .mov (.t 16), none, []⟩] false 0)
  .ret)) }
/-- clapperbridge/lens.Plain -/
noncomputable def lens_Plain (E : Env) (p0 : Int) : Option (List Row) :=
  if (p0 == 1) = true then
    some [[.bool true]]
  else
    if (p0 == 2) = true then
      some [[.bool true]]
    else
      if (p0 == 4) = true then
        some [[.bool true]]
      else
        some [[.bool (p0 == 5)]]
theorem lens_Plain_eq (E : Env) (p0 : Int) : runP E lens_Plain_a [[.int p0]] = lens_Plain E p0 := by kernel_rfl

def slices_Index_string_h0 : Shape := { slots := [(0, .d (.one (.sl 9))), (1, .d (.one (.str))), (7, .d (.one (.int .i64))), (8, .d (.one (.int .i64)))], objs := [] }
def slices_Index_string_o0 : List (Exit' × Shape) := [(.exit 0, { slots := [], objs := [] }), (.ret, { slots := [(4, .d (.one (.int .i64)))], objs := [] })]
def slices_Index_string_c0 : ACode := (.seq (.region [] [⟨some 9, .icmp .lss (.t 8) (.t 7), none, []⟩] false 0)
  (.seq (.cond (.t 9) .skip
  (.exit 0))
  (.seq (.block 1 (.seq (.region [] [⟨some 10, .mov (.t 8), none, []⟩,
    ⟨some 5, .mov (.t 10), none, []⟩] false 0)
  (.seq (.region [] [⟨some 11, .mov (.t 1), none, []⟩,
    ⟨some 12, .mov (.t 0), none, []⟩,
    ⟨some 13, .mov (.t 5), none, []⟩,
    ⟨some 14, .iad 9 (.one (.str)) (.t 12) (.t 13), none, []⟩,
    ⟨some 15, .ld (.one (.str)) 9 (.t 14), none, []⟩,
    ⟨some 16, .scmp .eql (.t 11) (.t 15), none, []⟩] false 0)
  (.cond (.t 16) (.seq (.region [] [⟨some 17, .mov (.t 5), none, []⟩,
    ⟨some 4, .mov (.t 17), none, []⟩] false 0)
  .ret)
  .skip))))
  (.region [] [⟨some 18, .ibin .add (.t 8) (.c (.one (.int .i64)) [.int 1]), none, []⟩,
    ⟨some 8, .mov (.t 18), none, []⟩] false 0))))
noncomputable def slices_Index_string_l0 (E : Env) (v0 : C) (v1 : List UInt8) (v2 : Int) (v3 : Int) : Option (Nat × List PV) := E.fix (stepOf E slices_Index_string_c0 slices_Index_string_h0 slices_Index_string_o0) [.r [v0], .r [.str v1], .r [.int v2], .r [.int v3]]
noncomputable def slices_Index_string_b0 (E : Env) (X : C → List UInt8 → Int → Int → Option (Nat × List PV)) (v0 : C) (v1 : List UInt8) (v2 : Int) (v3 : Int) : Option (Nat × List PV) :=
  if (decide (v3 < v2)) = true then
    if (0 : Int) ≤ v3 ∧ v3 < (v0.rows.length : Int) then
      if (v1 == ((at_ (rowsAt v0.rows v3.toNat) 0).toS)) = true then
        some (1, [.r [.int v3]])
      else
        X v0 v1 v2 (Go.IntKind.i64.wrap (v3 + 1))
    else none
  else
    some (0, [])
theorem slices_Index_string_s0 (E : Env) (X : List PV → Option (Nat × List PV)) (v0 : C) (v1 : List UInt8) (v2 : Int) (v3 : Int) : stepOf E slices_Index_string_c0 slices_Index_string_h0 slices_Index_string_o0 X [.r [v0], .r [.str v1], .r [.int v2], .r [.int v3]] = slices_Index_string_b0 E (fun (v0 : C) (v1 : List UInt8) (v2 : Int) (v3 : Int) => X [.r [v0], .r [.str v1], .r [.int v2], .r [.int v3]]) v0 v1 v2 v3 := by kernel_rfl
def slices_Index_string_a : AFun := { ps := [(.one (.sl 9)), (.one (.str))], rs := [(.one (.int .i64))], res := [(false, 4, none)], body := (.seq (.region [] [⟨some 4, .mov (.c (.one (.int .i64)) [.int 0]), none, []⟩] false 0)
  (.seq (.seq (.region [] [⟨some 6, .mov (.t 0), none, []⟩,
    ⟨some 7, .lenL (.t 6), none, []⟩,
    ⟨some 8, .mov (.c (.one (.int .i64)) [.int 0]), none, []⟩] false 0)
  (.block 0 (.loop slices_Index_string_h0 slices_Index_string_o0 slices_Index_string_c0)))
  (.seq (.region [] [⟨some 4, .mov (.c (.one (.int .i64)) [.int (-1)]), none, []⟩] false 0)
  .ret))) }
/-- slices.Index[[]string,string] -/
noncomputable def slices_Index_string (E : Env) (p0 : C) (p1 : List UInt8) : Option (List Row) :=
  (slices_Index_string_l0 E p0 p1 (p0.rows.length : Int) 0).bind fun x1 =>
    match x1.1 with
    | 0 =>
      some [[.int (-1)]]
    | i2 + 1 =>
      some [[.int ((at_ (hd x1.2) 0).toI)]]
theorem slices_Index_string_eq (E : Env) (p0 : C) (p1 : List UInt8) : runP E slices_Index_string_a [[p0], [.str p1]] = slices_Index_string E p0 p1 := by kernel_rfl

def slices_Contains_string_a : AFun := { ps := [(.one (.sl 9)), (.one (.str))], rs := [(.one (.bool))], res := [(false, 4, none)], body := (.seq (.region [] [⟨some 4, .mov (.c (.one (.bool)) [.bool false]), none, []⟩] false 0)
  (.seq (.region [] [⟨some 5, .mov (.t 0), none, []⟩,
    ⟨some 6, .mov (.t 1), none, []⟩,
    ⟨some 7, .call 71 [(.one (.sl 9)), (.one (.str))] [(.one (.int .i64))] [(.t 5), (.t 6)], none, []⟩,
    ⟨some 8, .icmp .geq (.t 7) (.c (.one (.int .i64)) [.int 0]), none, []⟩,
    ⟨some 4, .mov (.t 8), none, []⟩] false 0)
  .ret)) }
/-- slices.Contains[[]string,string] -/
noncomputable def slices_Contains_string (E : Env) (p0 : C) (p1 : List UInt8) : Option (List Row) :=
  (E.pc n_slices_Index_string [[p0], [.str p1]]).bind fun y1 =>
    some [[.bool (decide (((at_ (rowsAt y1 0) 0).toI) ≥ 0))]]
theorem slices_Contains_string_eq (E : Env) (p0 : C) (p1 : List UInt8) : runP E slices_Contains_string_a [[p0], [.str p1]] = slices_Contains_string E p0 p1 := by kernel_rfl

def lens_names_h0 : Shape := { slots := [(0, .d (.one (.sl 9))), (8, .d (.one (.sl 9))), (9, .d (.one (.int .i64))), (10, .d (.one (.int .i64)))], objs := [] }
def lens_names_o0 : List (Exit' × Shape) := [(.exit 0, { slots := [], objs := [] }), (.ret, { slots := [(2, .d (.one (.int .i64)))], objs := [] })]
def lens_names_c0 : ACode := (.seq (.region [] [⟨some 11, .icmp .lss (.t 10) (.t 9), none, []⟩] false 0)
  (.seq (.cond (.t 11) .skip
  (.exit 0))
  (.seq (.block 1 (.seq (.region [] [⟨some 12, .mov (.t 10), none, []⟩,
    ⟨some 13, .iad 9 (.one (.str)) (.t 8) (.t 10), none, []⟩,
    ⟨some 14, .ld (.one (.str)) 9 (.t 13), none, []⟩,
    ⟨some 3, .mov (.t 12), none, []⟩,
    ⟨some 4, .mov (.t 14), none, []⟩] false 0)
  (.seq (.seq (.region [] [⟨some 15, .mov (.t 4), none, []⟩,
    ⟨some 16, .call 41 [(.one (.str))] [(.one (.bool))] [(.t 15)], none, []⟩,
    ⟨some 17, .not (.t 16), none, []⟩] false 0)
  (.cond (.t 17) (.seq (.region [] [⟨some 2, .mov (.c (.one (.int .i64)) [.int 15]), none, []⟩] false 0)
  .ret)
  .skip))
  (.seq (.region [] [⟨some 18, .mov (.t 0), none, []⟩,
    ⟨some 19, .mov (.t 3), none, []⟩,
    ⟨some 20, .slc 9 (.one (.str)) (.t 18) none (some (.t 19)), none, []⟩,
    ⟨some 21, .mov (.t 4), none, []⟩,
    ⟨some 22, .call 61 [(.one (.sl 9)), (.one (.str))] [(.one (.bool))] [(.t 20), (.t 21)], none, []⟩] false 0)
  (.cond (.t 22) (.seq (.region [] [⟨some 2, .mov (.c (.one (.int .i64)) [.int 5]), none, []⟩] false 0)
  .ret)
  .skip)))))
  (.region [] [⟨some 23, .ibin .add (.t 10) (.c (.one (.int .i64)) [.int 1]), none, []⟩,
    ⟨some 10, .mov (.t 23), none, []⟩] false 0))))
noncomputable def lens_names_l0 (E : Env) (v0 : C) (v1 : C) (v2 : Int) (v3 : Int) : Option (Nat × List PV) := E.fix (stepOf E lens_names_c0 lens_names_h0 lens_names_o0) [.r [v0], .r [v1], .r [.int v2], .r [.int v3]]
noncomputable def lens_names_b0 (E : Env) (X : C → C → Int → Int → Option (Nat × List PV)) (v0 : C) (v1 : C) (v2 : Int) (v3 : Int) : Option (Nat × List PV) :=
  if (decide (v3 < v2)) = true then
    if (0 : Int) ≤ v3 ∧ v3 < (v1.rows.length : Int) then
      (E.pc n_value_Name [[.str ((at_ (rowsAt v1.rows v3.toNat) 0).toS)]]).bind fun y1 =>
        if (!((at_ (rowsAt y1 0) 0).toB)) = true then
          some (1, [.r [.int 15]])
        else
          if (0 : Int) ≤ 0 ∧ 0 ≤ v3 ∧ v3 ≤ (v0.rows.length : Int) then
            (E.pc n_slices_Contains_string [[slcC v0 0 v3], [.str ((at_ (rowsAt v1.rows v3.toNat) 0).toS)]]).bind fun y2 =>
              if ((at_ (rowsAt y2 0) 0).toB) = true then
                some (1, [.r [.int 5]])
              else
                X v0 v1 v2 (Go.IntKind.i64.wrap (v3 + 1))
          else none
    else none
  else
    some (0, [])
theorem lens_names_s0 (E : Env) (X : List PV → Option (Nat × List PV)) (v0 : C) (v1 : C) (v2 : Int) (v3 : Int) : stepOf E lens_names_c0 lens_names_h0 lens_names_o0 X [.r [v0], .r [v1], .r [.int v2], .r [.int v3]] = lens_names_b0 E (fun (v0 : C) (v1 : C) (v2 : Int) (v3 : Int) => X [.r [v0], .r [v1], .r [.int v2], .r [.int v3]]) v0 v1 v2 v3 := by kernel_rfl
def lens_names_a : AFun := { ps := [(.one (.sl 9))], rs := [(.one (.int .i64))], res := [(false, 2, none)], body := (.seq (.region [] [⟨some 2, .mov (.c (.one (.int .i64)) [.int 0]), none, []⟩] false 0)
  (.seq (.seq (.region [] [⟨some 5, .mov (.t 0), none, []⟩,
    ⟨some 6, .lenL (.t 5), none, []⟩,
    ⟨some 7, .icmp .eql (.t 6) (.c (.one (.int .i64)) [.int 0]), none, []⟩] false 0)
  (.cond (.t 7) (.seq (.region [] [⟨some 2, .mov (.c (.one (.int .i64)) [.int 3]), none, []⟩] false 0)
  .ret)
  .skip))
  (.seq (.seq (.region [] [⟨some 8, .mov (.t 0), none, []⟩,
    ⟨some 9, .lenL (.t 8), none, []⟩,
    ⟨some 10, .mov (.c (.one (.int .i64)) [.int 0]), none, []⟩] false 0)
  (.block 0 (.loop lens_names_h0 lens_names_o0 lens_names_c0)))
  (.seq (.region [] [⟨some 2, .mov (.c (.one (.int .i64)) [.int 0]), none, []⟩] false 0)
  .ret)))) }
/-- clapperbridge/lens.names -/
noncomputable def lens_names (E : Env) (p0 : C) : Option (List Row) :=
  if ((p0.rows.length : Int) == 0) = true then
    some [[.int 3]]
  else
    (lens_names_l0 E p0 p0 (p0.rows.length : Int) 0).bind fun x3 =>
      match x3.1 with
      | 0 =>
        some [[.int 0]]
      | i4 + 1 =>
        some [[.int ((at_ (hd x3.2) 0).toI)]]
theorem lens_names_eq (E : Env) (p0 : C) : runP E lens_names_a [[p0]] = lens_names E p0 := by kernel_rfl

def pattern_parse_a : AFun := { ps := [(.one (.str))], rs := [(.agg [.sl 129, .sl 109, .bool, .int .u64, .int .u64, .int .u64, .int .u64, .int .u64, .int .u64, .int .u64, .int .u64]), (.one (.int .i64))], res := [(true, 2, none), (false, 3, none)], body := (.seq (.region [] [⟨some 2, .allocO 0 (.agg [.sl 129, .sl 109, .bool, .int .u64, .int .u64, .int .u64, .int .u64, .int .u64, .int .u64, .int .u64, .int .u64]) [.nils, .nils, .bool false, .int 0, .int 0, .int 0, .int 0, .int 0, .int 0, .int 0, .int 0], none, []⟩,
    ⟨some 3, .mov (.c (.one (.int .i64)) [.int 0]), none, []⟩] false 1)
  (.seq (.seq (.region [] [⟨some 6, .mov (.t 0), none, []⟩,
    ⟨some 7, .lenS (.t 6), none, []⟩,
    ⟨some 8, .icmp .gtr (.t 7) (.c (.one (.int .i64)) [.int 200]), none, []⟩] false 0)
  (.cond (.t 8) (.seq (.region [] [⟨some 9, .bld (.agg [.sl 129, .sl 109, .bool, .int .u64, .int .u64, .int .u64, .int .u64, .int .u64, .int .u64, .int .u64, .int .u64]) [.nils, .nils, .bool false, .int 0, .int 0, .int 0, .int 0, .int 0, .int 0, .int 0, .int 0] [], none, []⟩,
    ⟨none, .st (.agg [.sl 129, .sl 109, .bool, .int .u64, .int .u64, .int .u64, .int .u64, .int .u64, .int .u64, .int .u64, .int .u64]) (.t 2) (.t 9), none, []⟩,
    ⟨some 3, .mov (.c (.one (.int .i64)) [.int 2]), none, []⟩] false 0)
  .ret)
  .skip))
  (.seq (.region [] [⟨some 10, .mov (.t 0), none, []⟩,
    ⟨some 11, .bld (.agg [.int .u64, .int .u64, .int .u64, .int .u64]) [.int 0, .int 0, .int 0, .int 0] [], none, []⟩,
    ⟨some 12, .bslS 0 129 (.agg [.int .u64, .int .u64, .int .u64, .int .u64]) 1 [.int 0, .int 0, .int 0, .int 0] [(0, (.t 11))], none, []⟩,
    ⟨some 13, .bld (.agg [.int .u64, .int .u64, .int .u64, .int .u64]) [.int 0, .int 0, .int 0, .int 0] [], none, []⟩,
    ⟨some 14, .bslO 1 109 (.agg [.int .u64, .int .u64, .int .u64, .int .u64]) 1 [.int 0, .int 0, .int 0, .int 0] [(0, (.t 13))], none, []⟩,
    ⟨some 15, .bad, none, []⟩,
    ⟨some 16, .bad, none, []⟩,
    ⟨some 17, .bad, none, []⟩,
    ⟨some 4, .bad, none, []⟩] false 2)
  (.seq .bad
  (.seq (.seq .bad
  .bad)
  (.seq .bad
  (.seq .bad
  (.seq .bad
  .ret)))))))) }
/-- clapperbridge/pattern.parse -/
noncomputable def pattern_parse (E : Env) (p0 : List UInt8) : Option (List Row) :=
  if (decide ((p0.length : Int) > 200)) = true then
    some [[.nils, .nils, .bool false, .int 0, .int 0, .int 0, .int 0, .int 0, .int 0, .int 0, .int 0], [.int 2]]
  else
    none
theorem pattern_parse_eq (E : Env) (p0 : List UInt8) : runP E pattern_parse_a [[.str p0]] = pattern_parse E p0 := by kernel_rfl

def pattern_build_a : AFun := { ps := [(.one (.str))], rs := [(.agg [.sl 121, .sl 4]), (.one (.int .i64))], res := [(true, 2, none), (false, 3, none)], body := (.seq (.region [] [⟨some 2, .allocO 0 (.agg [.sl 121, .sl 4]) [.nils, .nils], none, []⟩,
    ⟨some 3, .mov (.c (.one (.int .i64)) [.int 0]), none, []⟩] false 1)
  (.seq (.region [] [⟨some 20, .mov (.t 0), none, []⟩,
    ⟨some 21, .call 72 [(.one (.str))] [(.agg [.sl 129, .sl 109, .bool, .int .u64, .int .u64, .int .u64, .int .u64, .int .u64, .int .u64, .int .u64, .int .u64]), (.one (.int .i64))] [(.t 20)], none, []⟩,
    ⟨some 19, .mov (.t 21), none, []⟩,
    ⟨some 22, .ext 0 (.t 19), none, []⟩,
    ⟨some 23, .ext 1 (.t 19), none, []⟩,
    ⟨some 4, .allocO 0 (.agg [.sl 129, .sl 109, .bool, .int .u64, .int .u64, .int .u64, .int .u64, .int .u64, .int .u64, .int .u64, .int .u64]) [.nils, .nils, .bool false, .int 0, .int 0, .int 0, .int 0, .int 0, .int 0, .int 0, .int 0], none, []⟩,
    ⟨none, .st (.agg [.sl 129, .sl 109, .bool, .int .u64, .int .u64, .int .u64, .int .u64, .int .u64, .int .u64, .int .u64, .int .u64]) (.t 4) (.t 22), none, []⟩,
    ⟨some 5, .mov (.t 23), none, []⟩] false 1)
  (.seq (.seq (.region [] [⟨some 24, .mov (.t 5), none, []⟩,
    ⟨some 25, .icmp .neq (.t 24) (.c (.one (.int .i64)) [.int 0]), none, []⟩] false 0)
  (.cond (.t 25) (.seq (.region [] [⟨some 26, .bld (.agg [.sl 121, .sl 4]) [.nils, .nils] [], none, []⟩,
    ⟨some 27, .mov (.t 5), none, []⟩,
    ⟨none, .st (.agg [.sl 121, .sl 4]) (.t 2) (.t 26), none, []⟩,
    ⟨some 3, .mov (.t 27), none, []⟩] false 0)
  .ret)
  .skip))
  (.seq (.region [] [⟨some 6, .allocO 0 (.agg [.int .u64, .int .u64, .int .u64, .int .u64]) [.int 0, .int 0, .int 0, .int 0], none, []⟩] false 1)
  (.seq (.region [] [⟨some 28, .bad, none, []⟩] false 0)
  (.seq .bad
  (.seq .bad
  (.seq .bad
  (.seq .bad
  (.seq (.seq .bad
  (.block 0 .bad))
  (.seq .bad
  .ret))))))))))) }
/-- clapperbridge/pattern.build -/
noncomputable def pattern_build (E : Env) (p0 : List UInt8) : Option (List Row) :=
  (E.pc n_pattern_parse [[.str p0]]).bind fun y1 =>
    if (((at_ (rowsAt y1 1) 0).toI) != 0) = true then
      some [[.nils, .nils], [.int ((at_ (rowsAt y1 1) 0).toI)]]
    else
      none
theorem pattern_build_eq (E : Env) (p0 : List UInt8) : runP E pattern_build_a [[.str p0]] = pattern_build E p0 := by kernel_rfl

def pattern_Check_a : AFun := { ps := [(.one (.str))], rs := [(.one (.int .i64))], res := [(false, 2, none)], body := (.seq (.region [] [⟨some 2, .mov (.c (.one (.int .i64)) [.int 0]), none, []⟩] false 0)
  (.seq (.region [] [⟨some 6, .mov (.t 0), none, []⟩,
    ⟨some 7, .call 62 [(.one (.str))] [(.agg [.sl 121, .sl 4]), (.one (.int .i64))] [(.t 6)], none, []⟩,
    ⟨some 5, .mov (.t 7), none, []⟩,
    ⟨some 8, .ext 0 (.t 5), none, []⟩,
    ⟨some 9, .ext 1 (.t 5), none, []⟩,
    ⟨some 3, .allocO 0 (.agg [.sl 121, .sl 4]) [.nils, .nils], none, []⟩,
    ⟨none, .st (.agg [.sl 121, .sl 4]) (.t 3) (.t 8), none, []⟩,
    ⟨some 4, .mov (.t 9), none, []⟩] false 1)
  (.seq (.region [] [⟨some 10, .mov (.t 4), none, []⟩,
    ⟨some 2, .mov (.t 10), none, []⟩] false 0)
  .ret))) }
/-- clapperbridge/pattern.Check -/
noncomputable def pattern_Check (E : Env) (p0 : List UInt8) : Option (List Row) :=
  (E.pc n_pattern_build [[.str p0]]).bind fun y1 =>
    some [[.int ((at_ (rowsAt y1 1) 0).toI)]]
theorem pattern_Check_eq (E : Env) (p0 : List UInt8) : runP E pattern_Check_a [[.str p0]] = pattern_Check E p0 := by kernel_rfl

def lens_pairs_h1 : Shape := { slots := [(0, .d (.one (.sl 44))), (3, .d (.one (.int .i64))), (4, .ptr 0 0), (15, .d (.one (.sl 44))), (16, .d (.one (.int .i64))), (17, .d (.one (.int .i64))), (22, .d (.one (.int .i64)))], objs := [.var (.agg [.int .i64, .int .i64, .str, .sl 55, .int .i64, .int .i64, .str, .sl 55])] }
def lens_pairs_o1 : List (Exit' × Shape) := [(.exit 2, { slots := [(0, .d (.one (.sl 44))), (15, .d (.one (.sl 44))), (16, .d (.one (.int .i64))), (17, .d (.one (.int .i64)))], objs := [] })]
def lens_pairs_c1 : ACode := (.seq (.region [] [⟨some 23, .icmp .lss (.t 22) (.c (.one (.int .i64)) [.int 2]), none, []⟩] false 0)
  (.seq (.cond (.t 23) .skip
  (.exit 2))
  (.seq (.block 3 (.seq (.region [] [⟨some 24, .mov (.t 22), none, []⟩,
    ⟨some 5, .mov (.t 24), none, []⟩] false 0)
  (.seq (.seq (.region [] [⟨some 25, .mov (.t 5), none, []⟩,
    ⟨some 26, .bad, none, []⟩,
    ⟨some 27, .bad, none, []⟩,
    ⟨some 28, .bad, none, []⟩,
    ⟨some 6, .bad, none, []⟩] false 0)
  (.seq .bad
  .bad))
  (.seq (.seq .bad
  .bad)
  (.seq .bad
  (.block 4 .bad))))))
  .bad)))
noncomputable def lens_pairs_l1 (E : Env) (v0 : C) (v1 : Int) (v2 : C) (v3 : Int) (v4 : Int) (v5 : Int) (v6 : Row) : Option (Nat × List PV) := E.fix (stepOf E lens_pairs_c1 lens_pairs_h1 lens_pairs_o1) [.r [v0], .r [.int v1], .r [v2], .r [.int v3], .r [.int v4], .r [.int v5], .r v6]
noncomputable def lens_pairs_b1 (E : Env) (X : C → Int → C → Int → Int → Int → Row → Option (Nat × List PV)) (v0 : C) (v1 : Int) (v2 : C) (v3 : Int) (v4 : Int) (v5 : Int) (v6 : Row) : Option (Nat × List PV) :=
  if (decide (v5 < 2)) = true then
    none
  else
    some (0, [.r [v0], .r [v2], .r [.int v3], .r [.int v4]])
theorem lens_pairs_s1 (E : Env) (X : List PV → Option (Nat × List PV)) (v0 : C) (v1 : Int) (v2 : C) (v3 : Int) (v4 : Int) (v5 : Int) (v6 : Row) : stepOf E lens_pairs_c1 lens_pairs_h1 lens_pairs_o1 X [.r [v0], .r [.int v1], .r [v2], .r [.int v3], .r [.int v4], .r [.int v5], .r v6] = lens_pairs_b1 E (fun (v0 : C) (v1 : Int) (v2 : C) (v3 : Int) (v4 : Int) (v5 : Int) (v6 : Row) => X [.r [v0], .r [.int v1], .r [v2], .r [.int v3], .r [.int v4], .r [.int v5], .r v6]) v0 v1 v2 v3 v4 v5 v6 := by kernel_rfl
def lens_pairs_h0 : Shape := { slots := [(0, .d (.one (.sl 44))), (15, .d (.one (.sl 44))), (16, .d (.one (.int .i64))), (17, .d (.one (.int .i64)))], objs := [] }
def lens_pairs_o0 : List (Exit' × Shape) := [(.exit 0, { slots := [], objs := [] })]
def lens_pairs_c0 : ACode := (.seq (.region [] [⟨some 18, .icmp .lss (.t 17) (.t 16), none, []⟩] false 0)
  (.seq (.cond (.t 18) .skip
  (.exit 0))
  (.seq (.block 1 (.seq (.region [] [⟨some 19, .mov (.t 17), none, []⟩,
    ⟨some 20, .iad 44 (.agg [.int .i64, .int .i64, .str, .sl 55, .int .i64, .int .i64, .str, .sl 55]) (.t 15) (.t 17), none, []⟩,
    ⟨some 21, .ld (.agg [.int .i64, .int .i64, .str, .sl 55, .int .i64, .int .i64, .str, .sl 55]) 44 (.t 20), none, []⟩,
    ⟨some 4, .allocO 0 (.agg [.int .i64, .int .i64, .str, .sl 55, .int .i64, .int .i64, .str, .sl 55]) [.int 0, .int 0, .str [], .nils, .int 0, .int 0, .str [], .nils], none, []⟩,
    ⟨some 3, .mov (.t 19), none, []⟩,
    ⟨none, .st (.agg [.int .i64, .int .i64, .str, .sl 55, .int .i64, .int .i64, .str, .sl 55]) (.t 4) (.t 21), none, []⟩] false 1)
  (.seq (.region [] [⟨some 22, .mov (.c (.one (.int .i64)) [.int 0]), none, []⟩] false 0)
  (.block 2 (.loop lens_pairs_h1 lens_pairs_o1 lens_pairs_c1)))))
  (.region [] [⟨some 68, .ibin .add (.t 17) (.c (.one (.int .i64)) [.int 1]), none, []⟩,
    ⟨some 17, .mov (.t 68), none, []⟩] false 0))))
noncomputable def lens_pairs_l0 (E : Env) (v0 : C) (v1 : C) (v2 : Int) (v3 : Int) : Option (Nat × List PV) := E.fix (stepOf E lens_pairs_c0 lens_pairs_h0 lens_pairs_o0) [.r [v0], .r [v1], .r [.int v2], .r [.int v3]]
noncomputable def lens_pairs_b0 (E : Env) (X : C → C → Int → Int → Option (Nat × List PV)) (v0 : C) (v1 : C) (v2 : Int) (v3 : Int) : Option (Nat × List PV) :=
  if (decide (v3 < v2)) = true then
    if (0 : Int) ≤ v3 ∧ v3 < (v1.rows.length : Int) then
      (lens_pairs_l1 E v0 v3 v1 v2 v3 0 (rowsAt v1.rows v3.toNat)).bind fun x1 =>
        X (at_ (hd x1.2) 0) (at_ (hd x1.2.tail) 0) ((at_ (hd x1.2.tail.tail) 0).toI) (Go.IntKind.i64.wrap (((at_ (hd x1.2.tail.tail.tail) 0).toI) + 1))
    else none
  else
    some (0, [])
theorem lens_pairs_s0 (E : Env) (X : List PV → Option (Nat × List PV)) (v0 : C) (v1 : C) (v2 : Int) (v3 : Int) : stepOf E lens_pairs_c0 lens_pairs_h0 lens_pairs_o0 X [.r [v0], .r [v1], .r [.int v2], .r [.int v3]] = lens_pairs_b0 E (fun (v0 : C) (v1 : C) (v2 : Int) (v3 : Int) => X [.r [v0], .r [v1], .r [.int v2], .r [.int v3]]) v0 v1 v2 v3 := by kernel_rfl
def lens_pairs_a : AFun := { ps := [(.one (.sl 44))], rs := [(.one (.int .i64))], res := [(false, 2, none)], body := (.seq (.region [] [⟨some 2, .mov (.c (.one (.int .i64)) [.int 0]), none, []⟩] false 0)
  (.seq (.seq (.region [] [⟨some 9, .mov (.t 0), none, []⟩,
    ⟨some 10, .lenL (.t 9), none, []⟩,
    ⟨some 11, .icmp .eql (.t 10) (.c (.one (.int .i64)) [.int 0]), none, []⟩] false 0)
  (.cond (.t 11) (.seq (.region [] [⟨some 2, .mov (.c (.one (.int .i64)) [.int 3]), none, []⟩] false 0)
  .ret)
  .skip))
  (.seq (.seq (.region [] [⟨some 12, .mov (.t 0), none, []⟩,
    ⟨some 13, .lenL (.t 12), none, []⟩,
    ⟨some 14, .icmp .gtr (.t 13) (.c (.one (.int .i64)) [.int 40]), none, []⟩] false 0)
  (.cond (.t 14) (.seq (.region [] [⟨some 2, .mov (.c (.one (.int .i64)) [.int 2]), none, []⟩] false 0)
  .ret)
  .skip))
  (.seq (.seq (.region [] [⟨some 15, .mov (.t 0), none, []⟩,
    ⟨some 16, .lenL (.t 15), none, []⟩,
    ⟨some 17, .mov (.c (.one (.int .i64)) [.int 0]), none, []⟩] false 0)
  (.block 0 (.loop lens_pairs_h0 lens_pairs_o0 lens_pairs_c0)))
  (.seq (.region [] [⟨some 2, .mov (.c (.one (.int .i64)) [.int 0]), none, []⟩] false 0)
  .ret))))) }
/-- clapperbridge/lens.pairs -/
noncomputable def lens_pairs (E : Env) (p0 : C) : Option (List Row) :=
  if ((p0.rows.length : Int) == 0) = true then
    some [[.int 3]]
  else
    if (decide ((p0.rows.length : Int) > 40)) = true then
      some [[.int 2]]
    else
      (lens_pairs_l0 E p0 p0 (p0.rows.length : Int) 0).bind fun x2 =>
        some [[.int 0]]
theorem lens_pairs_eq (E : Env) (p0 : C) : runP E lens_pairs_a [[p0]] = lens_pairs E p0 := by kernel_rfl

def lens_special_h0 : Shape := { slots := [(52, .d (.one (.sl 9))), (53, .d (.one (.int .i64))), (54, .d (.one (.int .i64)))], objs := [] }
def lens_special_o0 : List (Exit' × Shape) := [(.exit 1, { slots := [], objs := [] }), (.ret, { slots := [(2, .d (.one (.int .i64)))], objs := [] })]
def lens_special_c0 : ACode := (.seq (.region [] [⟨some 55, .icmp .lss (.t 54) (.t 53), none, []⟩] false 0)
  (.seq (.cond (.t 55) .skip
  (.exit 1))
  (.seq (.block 2 (.seq (.region [] [⟨some 56, .iad 9 (.one (.str)) (.t 52) (.t 54), none, []⟩,
    ⟨some 57, .ld (.one (.str)) 9 (.t 56), none, []⟩,
    ⟨some 4, .mov (.t 57), none, []⟩] false 0)
  (.seq (.region [] [⟨some 58, .mov (.t 4), none, []⟩,
    ⟨some 59, .call 51 [(.one (.str))] [(.one (.int .i64))] [(.t 58)], none, []⟩,
    ⟨some 5, .mov (.t 59), none, []⟩] false 0)
  (.seq (.region [] [⟨some 60, .mov (.t 5), none, []⟩,
    ⟨some 61, .icmp .neq (.t 60) (.c (.one (.int .i64)) [.int 0]), none, []⟩] false 0)
  (.cond (.t 61) (.seq (.region [] [⟨some 62, .mov (.t 5), none, []⟩,
    ⟨some 2, .mov (.t 62), none, []⟩] false 0)
  .ret)
  .skip)))))
  (.region [] [⟨some 63, .ibin .add (.t 54) (.c (.one (.int .i64)) [.int 1]), none, []⟩,
    ⟨some 54, .mov (.t 63), none, []⟩] false 0))))
noncomputable def lens_special_l0 (E : Env) (v0 : C) (v1 : Int) (v2 : Int) : Option (Nat × List PV) := E.fix (stepOf E lens_special_c0 lens_special_h0 lens_special_o0) [.r [v0], .r [.int v1], .r [.int v2]]
noncomputable def lens_special_b0 (E : Env) (X : C → Int → Int → Option (Nat × List PV)) (v0 : C) (v1 : Int) (v2 : Int) : Option (Nat × List PV) :=
  if (decide (v2 < v1)) = true then
    if (0 : Int) ≤ v2 ∧ v2 < (v0.rows.length : Int) then
      (E.pc n_pattern_Check [[.str ((at_ (rowsAt v0.rows v2.toNat) 0).toS)]]).bind fun y5 =>
        if (((at_ (rowsAt y5 0) 0).toI) != 0) = true then
          some (1, [.r [.int ((at_ (rowsAt y5 0) 0).toI)]])
        else
          X v0 v1 (Go.IntKind.i64.wrap (v2 + 1))
    else none
  else
    some (0, [])
theorem lens_special_s0 (E : Env) (X : List PV → Option (Nat × List PV)) (v0 : C) (v1 : Int) (v2 : Int) : stepOf E lens_special_c0 lens_special_h0 lens_special_o0 X [.r [v0], .r [.int v1], .r [.int v2]] = lens_special_b0 E (fun (v0 : C) (v1 : Int) (v2 : Int) => X [.r [v0], .r [.int v1], .r [.int v2]]) v0 v1 v2 := by kernel_rfl
def lens_special_a : AFun := { ps := [(.agg [.int .i64, .str, .str, .sl 9, .int .i64, .int .i64, .int .i64, .int .u8, .int .i64, .int .i64, .str, .sl 55, .sl 44, .sl 29])], rs := [(.one (.int .i64))], res := [(false, 2, none)], body := (.seq (.region [] [⟨some 1, .boxP (.agg [.int .i64, .str, .str, .sl 9, .int .i64, .int .i64, .int .i64, .int .u8, .int .i64, .int .i64, .str, .sl 55, .sl 44, .sl 29]) 29 (.t 0), none, []⟩,
    ⟨some 2, .mov (.c (.one (.int .i64)) [.int 0]), none, []⟩] false 0)
  (.seq (.seq (.region [] [⟨some 6, .fad 0 1 29 3 (.t 1), none, []⟩,
    ⟨some 7, .ld (.one (.int .i64)) 3 (.t 6), none, []⟩] false 0)
  (.block 0 (.seq (.region [] [⟨some 9, .icmp .eql (.t 7) (.c (.one (.int .i64)) [.int 5]), none, []⟩,
    ⟨some 8, .mov (.t 9), none, []⟩] false 0)
  (.cond (.t 8) (.seq (.region [] [⟨some 10, .fad 8 4 29 25 (.t 1), none, []⟩,
    ⟨some 11, .fad 0 1 25 3 (.t 10), none, []⟩,
    ⟨some 12, .ld (.one (.int .i64)) 3 (.t 11), none, []⟩,
    ⟨some 13, .icmp .neq (.t 12) (.c (.one (.int .i64)) [.int 0]), none, []⟩,
    ⟨some 14, .mov (.t 13), none, []⟩,
    ⟨some 15, .fad 8 4 29 25 (.t 1), some (14, true), []⟩,
    ⟨some 16, .fad 0 1 25 3 (.t 15), some (14, true), []⟩,
    ⟨some 17, .ld (.one (.int .i64)) 3 (.t 16), some (14, true), []⟩,
    ⟨some 18, .call 9 [(.one (.int .i64))] [(.one (.bool))] [(.t 17)], some (14, true), []⟩,
    ⟨some 19, .not (.t 18), some (14, true), []⟩,
    ⟨some 20, .pick (.t 14) (.t 19) (.c (.one (.bool)) [.bool false]), none, []⟩] false 0)
  (.cond (.t 20) (.seq (.region [] [⟨some 2, .mov (.c (.one (.int .i64)) [.int 8]), none, []⟩] false 0)
  .ret)
  .skip))
  (.seq (.region [] [⟨some 22, .icmp .eql (.t 7) (.c (.one (.int .i64)) [.int 15]), none, []⟩,
    ⟨some 21, .mov (.t 22), none, []⟩] false 0)
  (.cond (.t 21) (.seq (.region [] [⟨some 23, .fad 8 4 29 25 (.t 1), none, []⟩,
    ⟨some 24, .fad 0 1 25 3 (.t 23), none, []⟩,
    ⟨some 25, .ld (.one (.int .i64)) 3 (.t 24), none, []⟩,
    ⟨some 26, .call 9 [(.one (.int .i64))] [(.one (.bool))] [(.t 25)], none, []⟩,
    ⟨some 27, .not (.t 26), none, []⟩] false 0)
  (.cond (.t 27) (.seq (.region [] [⟨some 2, .mov (.c (.one (.int .i64)) [.int 8]), none, []⟩] false 0)
  .ret)
  .skip))
  (.seq (.region [] [⟨some 29, .icmp .eql (.t 7) (.c (.one (.int .i64)) [.int 6]), none, []⟩,
    ⟨some 28, .mov (.t 29), none, []⟩] false 0)
  (.cond (.t 28) (.seq (.region [] [⟨some 30, .fad 3 1 29 22 (.t 1), none, []⟩,
    ⟨some 31, .ld (.one (.sl 9)) 22 (.t 30), none, []⟩,
    ⟨some 32, .call 50 [(.one (.sl 9))] [(.one (.int .i64))] [(.t 31)], none, []⟩,
    ⟨some 2, .mov (.t 32), none, []⟩] false 0)
  .ret)
  (.seq (.region [] [⟨some 34, .icmp .eql (.t 7) (.c (.one (.int .i64)) [.int 14]), none, []⟩,
    ⟨some 33, .mov (.t 34), none, []⟩] false 0)
  (.cond (.t 33) (.seq (.seq (.region [] [⟨some 35, .fad 3 1 29 22 (.t 1), none, []⟩,
    ⟨some 36, .ld (.one (.sl 9)) 22 (.t 35), none, []⟩,
    ⟨some 37, .lenL (.t 36), none, []⟩,
    ⟨some 38, .fad 13 1 29 27 (.t 1), none, []⟩,
    ⟨some 39, .ld (.one (.sl 29)) 27 (.t 38), none, []⟩,
    ⟨some 40, .lenL (.t 39), none, []⟩,
    ⟨some 41, .icmp .neq (.t 37) (.t 40), none, []⟩] false 0)
  (.cond (.t 41) (.seq (.region [] [⟨some 2, .mov (.c (.one (.int .i64)) [.int 3]), none, []⟩] false 0)
  .ret)
  .skip))
  (.seq (.region [] [⟨some 42, .fad 3 1 29 22 (.t 1), none, []⟩,
    ⟨some 43, .ld (.one (.sl 9)) 22 (.t 42), none, []⟩,
    ⟨some 44, .call 50 [(.one (.sl 9))] [(.one (.int .i64))] [(.t 43)], none, []⟩,
    ⟨some 2, .mov (.t 44), none, []⟩] false 0)
  .ret))
  (.seq (.region [] [⟨some 46, .icmp .eql (.t 7) (.c (.one (.int .i64)) [.int 9]), none, []⟩,
    ⟨some 45, .mov (.t 46), none, []⟩] false 0)
  (.cond (.t 45) (.seq (.seq (.region [] [⟨some 47, .fad 3 1 29 22 (.t 1), none, []⟩,
    ⟨some 48, .ld (.one (.sl 9)) 22 (.t 47), none, []⟩,
    ⟨some 49, .lenL (.t 48), none, []⟩,
    ⟨some 50, .icmp .neq (.t 49) (.c (.one (.int .i64)) [.int 2]), none, []⟩] false 0)
  (.cond (.t 50) (.seq (.region [] [⟨some 2, .mov (.c (.one (.int .i64)) [.int 3]), none, []⟩] false 0)
  .ret)
  .skip))
  (.seq (.region [] [⟨some 51, .fad 3 1 29 22 (.t 1), none, []⟩,
    ⟨some 52, .ld (.one (.sl 9)) 22 (.t 51), none, []⟩,
    ⟨some 53, .lenL (.t 52), none, []⟩,
    ⟨some 54, .mov (.c (.one (.int .i64)) [.int 0]), none, []⟩] false 0)
  (.block 1 (.loop lens_special_h0 lens_special_o0 lens_special_c0))))
  (.seq (.region [] [⟨some 65, .icmp .eql (.t 7) (.c (.one (.int .i64)) [.int 11]), none, []⟩,
    ⟨some 64, .mov (.t 65), none, []⟩] false 0)
  (.cond (.t 64) (.seq (.region [] [⟨some 66, .fad 12 1 29 26 (.t 1), none, []⟩,
    ⟨some 67, .ld (.one (.sl 44)) 26 (.t 66), none, []⟩,
    ⟨some 68, .call 52 [(.one (.sl 44))] [(.one (.int .i64))] [(.t 67)], none, []⟩,
    ⟨some 2, .mov (.t 68), none, []⟩] false 0)
  .ret)
  (.seq (.region [] [⟨some 70, .icmp .eql (.t 7) (.c (.one (.int .i64)) [.int 12]), none, []⟩,
    ⟨some 69, .mov (.t 70), none, []⟩] false 0)
  (.cond (.t 69) (.seq (.region [] [⟨some 71, .fad 5 1 29 3 (.t 1), none, []⟩,
    ⟨some 72, .ld (.one (.int .i64)) 3 (.t 71), none, []⟩,
    ⟨some 73, .icmp .lss (.t 72) (.c (.one (.int .i64)) [.int 0]), none, []⟩,
    ⟨some 74, .mov (.t 73), none, []⟩,
    ⟨some 75, .fad 6 1 29 3 (.t 1), some (74, false), []⟩,
    ⟨some 76, .ld (.one (.int .i64)) 3 (.t 75), some (74, false), []⟩,
    ⟨some 77, .fad 5 1 29 3 (.t 1), some (74, false), []⟩,
    ⟨some 78, .ld (.one (.int .i64)) 3 (.t 77), some (74, false), []⟩,
    ⟨some 79, .icmp .lss (.t 76) (.t 78), some (74, false), []⟩,
    ⟨some 80, .pick (.t 74) (.c (.one (.bool)) [.bool true]) (.t 79), none, []⟩,
    ⟨some 81, .mov (.t 80), none, []⟩,
    ⟨some 82, .fad 6 1 29 3 (.t 1), some (81, false), []⟩,
    ⟨some 83, .ld (.one (.int .i64)) 3 (.t 82), some (81, false), []⟩,
    ⟨some 84, .icmp .gtr (.t 83) (.c (.one (.int .i64)) [.int 999999999]), some (81, false), []⟩,
    ⟨some 85, .pick (.t 81) (.c (.one (.bool)) [.bool true]) (.t 84), none, []⟩] false 0)
  (.cond (.t 85) (.seq (.region [] [⟨some 2, .mov (.c (.one (.int .i64)) [.int 11]), none, []⟩] false 0)
  .ret)
  .skip))
  .skip))))))))))))))))
  (.seq (.region [] [⟨some 2, .mov (.c (.one (.int .i64)) [.int 0]), none, []⟩] false 0)
  .ret))) }
/-- clapperbridge/lens.special -/
noncomputable def lens_special (E : Env) (p0 : Row) : Option (List Row) :=
  if (((at_ p0 0).toI) == 5) = true then
    if (((at_ p0 8).toI) != 0) = true then
      (E.pc n_lens_Plain [[.int ((at_ p0 8).toI)]]).bind fun y1 =>
        if (!((at_ (rowsAt y1 0) 0).toB)) = true then
          some [[.int 8]]
        else
          some [[.int 0]]
    else
      some [[.int 0]]
  else
    if (((at_ p0 0).toI) == 15) = true then
      (E.pc n_lens_Plain [[.int ((at_ p0 8).toI)]]).bind fun y2 =>
        if (!((at_ (rowsAt y2 0) 0).toB)) = true then
          some [[.int 8]]
        else
          some [[.int 0]]
    else
      if (((at_ p0 0).toI) == 6) = true then
        (E.pc n_lens_names [[at_ p0 3]]).bind fun y3 =>
          some [[.int ((at_ (rowsAt y3 0) 0).toI)]]
      else
        if (((at_ p0 0).toI) == 14) = true then
          if ((((at_ p0 3).rows).length : Int) != (((at_ p0 13).rows).length : Int)) = true then
            some [[.int 3]]
          else
            (E.pc n_lens_names [[at_ p0 3]]).bind fun y4 =>
              some [[.int ((at_ (rowsAt y4 0) 0).toI)]]
        else
          if (((at_ p0 0).toI) == 9) = true then
            if ((((at_ p0 3).rows).length : Int) != 2) = true then
              some [[.int 3]]
            else
              (lens_special_l0 E (at_ p0 3) (((at_ p0 3).rows).length : Int) 0).bind fun x6 =>
                match x6.1 with
                | 0 =>
                  some [[.int 0]]
                | i7 + 1 =>
                  some [[.int ((at_ (hd x6.2) 0).toI)]]
          else
            if (((at_ p0 0).toI) == 11) = true then
              (E.pc n_lens_pairs [[at_ p0 12]]).bind fun y8 =>
                some [[.int ((at_ (rowsAt y8 0) 0).toI)]]
            else
              if (((at_ p0 0).toI) == 12) = true then
                if (decide (((at_ p0 5).toI) < 0)) = true then
                  some [[.int 11]]
                else
                  if (decide (((at_ p0 6).toI) < ((at_ p0 5).toI))) = true then
                    some [[.int 11]]
                  else
                    if (decide (((at_ p0 6).toI) > 999999999)) = true then
                      some [[.int 11]]
                    else
                      some [[.int 0]]
              else
                some [[.int 0]]
theorem lens_special_eq (E : Env) (p0 : Row) : runP E lens_special_a [p0] = lens_special E p0 := by kernel_rfl
end Go.Ev
