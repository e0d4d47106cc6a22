/-
  A part of the proof: what the functions of the program compute.
-/
import Derived.Test.YtnlaheegimhdpaaDoorZNum
set_option linter.all false
set_option maxRecDepth 100000
namespace Go.Ev
def lens_walk_h0 : Shape := { slots := [(13, .d (.one (.sl 29))), (14, .d (.one (.int .i64))), (15, .d (.one (.int .i64)))], objs := [] }
def lens_walk_o0 : List (Exit' × Shape) := [(.exit 0, { slots := [], objs := [] }), (.ret, { slots := [(2, .d (.one (.int .i64)))], objs := [] })]
def lens_walk_c0 : ACode := (.seq (.region [] [⟨some 16, .icmp .lss (.t 15) (.t 14), none, []⟩] false 0)
  (.seq (.cond (.t 16) .skip
  (.exit 0))
  (.seq (.block 1 (.seq (.region [] [⟨some 17, .iad 29 (.agg [.int .i64, .str, .str, .sl 9, .int .i64, .int .i64, .int .i64, .int .u8, .int .i64, .int .i64, .str, .sl 55, .sl 44, .sl 29]) (.t 13) (.t 15), none, []⟩,
    ⟨some 18, .ld (.agg [.int .i64, .str, .str, .sl 9, .int .i64, .int .i64, .int .i64, .int .u8, .int .i64, .int .i64, .str, .sl 55, .sl 44, .sl 29]) 29 (.t 17), none, []⟩,
    ⟨some 5, .allocO 0 (.agg [.int .i64, .str, .str, .sl 9, .int .i64, .int .i64, .int .i64, .int .u8, .int .i64, .int .i64, .str, .sl 55, .sl 44, .sl 29]) [.int 0, .str [], .str [], .nils, .int 0, .int 0, .int 0, .int 0, .int 0, .int 0, .str [], .nils, .nils, .nils], none, []⟩,
    ⟨none, .st (.agg [.int .i64, .str, .str, .sl 9, .int .i64, .int .i64, .int .i64, .int .u8, .int .i64, .int .i64, .str, .sl 55, .sl 44, .sl 29]) (.t 5) (.t 18), none, []⟩] false 1)
  (.seq (.region [] [⟨some 19, .ld (.agg [.int .i64, .str, .str, .sl 9, .int .i64, .int .i64, .int .i64, .int .u8, .int .i64, .int .i64, .str, .sl 55, .sl 44, .sl 29]) 29 (.t 5), none, []⟩,
    ⟨some 20, .call 23 [(.agg [.int .i64, .str, .str, .sl 9, .int .i64, .int .i64, .int .i64, .int .u8, .int .i64, .int .i64, .str, .sl 55, .sl 44, .sl 29])] [(.one (.int .i64))] [(.t 19)], none, []⟩,
    ⟨some 6, .mov (.t 20), none, []⟩] false 0)
  (.seq (.region [] [⟨some 21, .mov (.t 6), none, []⟩,
    ⟨some 22, .icmp .neq (.t 21) (.c (.one (.int .i64)) [.int 0]), none, []⟩] false 0)
  (.cond (.t 22) (.seq (.region [] [⟨some 23, .mov (.t 6), none, []⟩,
    ⟨some 2, .mov (.t 23), none, []⟩] false 0)
  .ret)
  .skip)))))
  (.region [] [⟨some 24, .ibin .add (.t 15) (.c (.one (.int .i64)) [.int 1]), none, []⟩,
    ⟨some 15, .mov (.t 24), none, []⟩] false 0))))
noncomputable def lens_walk_l0 (E : Env) (v0 : C) (v1 : Int) (v2 : Int) : Option (Nat × List PV) := E.fix (stepOf E lens_walk_c0 lens_walk_h0 lens_walk_o0) [.r [v0], .r [.int v1], .r [.int v2]]
noncomputable def lens_walk_b0 (E : Env) (X : C → Int → Int → Option (Nat × List PV)) (v0 : C) (v1 : Int) (v2 : Int) : Option (Nat × List PV) :=
  if (decide (v2 < v1)) = true then
    if (0 : Int) ≤ v2 ∧ v2 < (v0.rows.length : Int) then
      (E.pc n_lens_walk [rowsAt v0.rows v2.toNat]).bind fun y2 =>
        if (((at_ (rowsAt y2 0) 0).toI) != 0) = true then
          some (1, [.r [.int ((at_ (rowsAt y2 0) 0).toI)]])
        else
          X v0 v1 (Go.IntKind.i64.wrap (v2 + 1))
    else none
  else
    some (0, [])
theorem lens_walk_s0 (E : Env) (X : List PV → Option (Nat × List PV)) (v0 : C) (v1 : Int) (v2 : Int) : stepOf E lens_walk_c0 lens_walk_h0 lens_walk_o0 X [.r [v0], .r [.int v1], .r [.int v2]] = lens_walk_b0 E (fun (v0 : C) (v1 : Int) (v2 : Int) => X [.r [v0], .r [.int v1], .r [.int v2]]) v0 v1 v2 := by kernel_rfl
def lens_walk_a : AFun := { ps := [(.agg [.int .i64, .str, .str, .sl 9, .int .i64, .int .i64, .int .i64, .int .u8, .int .i64, .int .i64, .str, .sl 55, .sl 44, .sl 29])], rs := [(.one (.int .i64))], res := [(false, 2, none)], body := (.seq (.region [] [⟨some 1, .boxP (.agg [.int .i64, .str, .str, .sl 9, .int .i64, .int .i64, .int .i64, .int .u8, .int .i64, .int .i64, .str, .sl 55, .sl 44, .sl 29]) 29 (.t 0), none, []⟩,
    ⟨some 2, .mov (.c (.one (.int .i64)) [.int 0]), none, []⟩] false 0)
  (.seq (.seq (.region [] [⟨some 7, .ld (.agg [.int .i64, .str, .str, .sl 9, .int .i64, .int .i64, .int .i64, .int .u8, .int .i64, .int .i64, .str, .sl 55, .sl 44, .sl 29]) 29 (.t 1), none, []⟩,
    ⟨some 8, .call 31 [(.agg [.int .i64, .str, .str, .sl 9, .int .i64, .int .i64, .int .i64, .int .u8, .int .i64, .int .i64, .str, .sl 55, .sl 44, .sl 29])] [(.one (.int .i64))] [(.t 7)], none, []⟩,
    ⟨some 3, .mov (.t 8), none, []⟩] false 0)
  (.seq (.region [] [⟨some 9, .mov (.t 3), none, []⟩,
    ⟨some 10, .icmp .neq (.t 9) (.c (.one (.int .i64)) [.int 0]), none, []⟩] false 0)
  (.cond (.t 10) (.seq (.region [] [⟨some 11, .mov (.t 3), none, []⟩,
    ⟨some 2, .mov (.t 11), none, []⟩] false 0)
  .ret)
  .skip)))
  (.seq (.seq (.region [] [⟨some 12, .fad 13 1 29 27 (.t 1), none, []⟩,
    ⟨some 13, .ld (.one (.sl 29)) 27 (.t 12), none, []⟩,
    ⟨some 14, .lenL (.t 13), none, []⟩,
    ⟨some 15, .mov (.c (.one (.int .i64)) [.int 0]), none, []⟩] false 0)
  (.block 0 (.loop lens_walk_h0 lens_walk_o0 lens_walk_c0)))
  (.seq (.region [] [⟨some 2, .mov (.c (.one (.int .i64)) [.int 0]), none, []⟩] false 0)
  .ret)))) }
/-- clapperbridge/lens.walk -/
noncomputable def lens_walk (E : Env) (p0 : Row) : Option (List Row) :=
  (E.pc n_lens_Node [p0]).bind fun y1 =>
    if (((at_ (rowsAt y1 0) 0).toI) != 0) = true then
      some [[.int ((at_ (rowsAt y1 0) 0).toI)]]
    else
      (lens_walk_l0 E (at_ p0 13) (((at_ p0 13).rows).length : Int) 0).bind fun x3 =>
        match x3.1 with
        | 0 =>
          some [[.int 0]]
        | i4 + 1 =>
          some [[.int ((at_ (hd x3.2) 0).toI)]]
theorem lens_walk_eq (E : Env) (p0 : Row) : runP E lens_walk_a [p0] = lens_walk E p0 := by kernel_rfl

def lens_Check_a : AFun := { ps := [(.agg [.int .i64, .str, .str, .sl 9, .int .i64, .int .i64, .int .i64, .int .u8, .int .i64, .int .i64, .str, .sl 55, .sl 44, .sl 29])], rs := [(.one (.int .i64))], res := [(false, 2, none)], body := (.seq (.region [] [⟨some 1, .boxP (.agg [.int .i64, .str, .str, .sl 9, .int .i64, .int .i64, .int .i64, .int .u8, .int .i64, .int .i64, .str, .sl 55, .sl 44, .sl 29]) 29 (.t 0), none, []⟩,
    ⟨some 2, .mov (.c (.one (.int .i64)) [.int 0]), none, []⟩] false 0)
  (.seq (.seq (.region [] [⟨some 3, .ld (.agg [.int .i64, .str, .str, .sl 9, .int .i64, .int .i64, .int .i64, .int .u8, .int .i64, .int .i64, .str, .sl 55, .sl 44, .sl 29]) 29 (.t 1), none, []⟩,
    ⟨some 4, .call 11 [(.agg [.int .i64, .str, .str, .sl 9, .int .i64, .int .i64, .int .i64, .int .u8, .int .i64, .int .i64, .str, .sl 55, .sl 44, .sl 29])] [(.one (.int .i64))] [(.t 3)], none, []⟩,
    ⟨some 5, .icmp .gtr (.t 4) (.c (.one (.int .i64)) [.int 120]), none, []⟩,
    ⟨some 6, .mov (.t 5), none, []⟩,
    ⟨some 7, .ld (.agg [.int .i64, .str, .str, .sl 9, .int .i64, .int .i64, .int .i64, .int .u8, .int .i64, .int .i64, .str, .sl 55, .sl 44, .sl 29]) 29 (.t 1), some (6, false), []⟩,
    ⟨some 8, .call 22 [(.agg [.int .i64, .str, .str, .sl 9, .int .i64, .int .i64, .int .i64, .int .u8, .int .i64, .int .i64, .str, .sl 55, .sl 44, .sl 29])] [(.one (.int .i64))] [(.t 7)], some (6, false), []⟩,
    ⟨some 9, .icmp .gtr (.t 8) (.c (.one (.int .i64)) [.int 40]), some (6, false), []⟩,
    ⟨some 10, .pick (.t 6) (.c (.one (.bool)) [.bool true]) (.t 9), none, []⟩] false 0)
  (.cond (.t 10) (.seq (.region [] [⟨some 2, .mov (.c (.one (.int .i64)) [.int 2]), none, []⟩] false 0)
  .ret)
  .skip))
  (.seq (.region [] [⟨some 11, .ld (.agg [.int .i64, .str, .str, .sl 9, .int .i64, .int .i64, .int .i64, .int .u8, .int .i64, .int .i64, .str, .sl 55, .sl 44, .sl 29]) 29 (.t 1), none, []⟩,
    ⟨some 12, .call 23 [(.agg [.int .i64, .str, .str, .sl 9, .int .i64, .int .i64, .int .i64, .int .u8, .int .i64, .int .i64, .str, .sl 55, .sl 44, .sl 29])] [(.one (.int .i64))] [(.t 11)], none, []⟩,
    ⟨some 2, .mov (.t 12), none, []⟩] false 0)
  .ret))) }
/-- clapperbridge/lens.Check -/
noncomputable def lens_Check (E : Env) (p0 : Row) : Option (List Row) :=
  (E.pc n_lens_Size [p0]).bind fun y1 =>
    if (decide (((at_ (rowsAt y1 0) 0).toI) > 120)) = true then
      some [[.int 2]]
    else
      (E.pc n_lens_Deep [p0]).bind fun y2 =>
        if (decide (((at_ (rowsAt y2 0) 0).toI) > 40)) = true then
          some [[.int 2]]
        else
          (E.pc n_lens_walk [p0]).bind fun y3 =>
            some [[.int ((at_ (rowsAt y3 0) 0).toI)]]
theorem lens_Check_eq (E : Env) (p0 : Row) : runP E lens_Check_a [p0] = lens_Check E p0 := by kernel_rfl

def lens_word_a : AFun := { ps := [(.one (.int .i64))], rs := [(.one (.str))], res := [(false, 2, none)], body := (.seq (.region [] [⟨some 2, .mov (.c (.one (.str)) [.str ([] : List UInt8)]), none, []⟩] false 0)
  (.seq (.region [] [⟨some 3, .bld (.agg [.str, .str, .str, .str, .str, .str, .str, .str, .str, .str, .str, .str, .str, .str, .str, .str, .str, .str, .str]) [.str [], .str [], .str [], .str [], .str [], .str [], .str [], .str [], .str [], .str [], .str [], .str [], .str [], .str [], .str [], .str [], .str [], .str [], .str []] [(0, 1, (.c (.one (.str)) [.str ([115, 97, 109, 101] : List UInt8)])), (1, 1, (.c (.one (.str)) [.str ([116, 104, 101, 110] : List UInt8)])), (2, 1, (.c (.one (.str)) [.str ([97, 116] : List UInt8)])), (3, 1, (.c (.one (.str)) [.str ([114, 101, 110, 97, 109, 101] : List UInt8)])), (4, 1, (.c (.one (.str)) [.str ([100, 114, 111, 112] : List UInt8)])), (5, 1, (.c (.one (.str)) [.str ([97, 100, 100] : List UInt8)])), (6, 1, (.c (.one (.str)) [.str ([110, 101, 115, 116] : List UInt8)])), (7, 1, (.c (.one (.str)) [.str ([102, 108, 97, 116] : List UInt8)])), (8, 1, (.c (.one (.str)) [.str ([109, 111, 118, 101] : List UInt8)])), (9, 1, (.c (.one (.str)) [.str ([115, 112, 108, 105, 116] : List UInt8)])), (10, 1, (.c (.one (.str)) [.str ([103, 108, 117, 101] : List UInt8)])), (11, 1, (.c (.one (.str)) [.str ([108, 111, 111, 107] : List UInt8)])), (12, 1, (.c (.one (.str)) [.str ([110, 117, 109, 98, 101, 114] : List UInt8)])), (13, 1, (.c (.one (.str)) [.str ([101, 97, 99, 104] : List UInt8)])), (14, 1, (.c (.one (.str)) [.str ([99, 97, 115, 101] : List UInt8)])), (15, 1, (.c (.one (.str)) [.str ([115, 101, 108, 101, 99, 116] : List UInt8)])), (16, 1, (.c (.one (.str)) [.str ([116, 97, 103] : List UInt8)])), (17, 1, (.c (.one (.str)) [.str ([117, 110, 116, 97, 103] : List UInt8)])), (18, 1, (.c (.one (.str)) [.str ([102, 105, 108, 108] : List UInt8)]))], none, []⟩,
    ⟨some 4, .mov (.t 0), none, []⟩,
    ⟨some 5, .idxA 19 (.one (.str)) (.t 3) (.t 4), none, []⟩,
    ⟨some 2, .mov (.t 5), none, []⟩] false 0)
  .ret)) }
/-- clapperbridge/lens.word -/
noncomputable def lens_word (E : Env) (p0 : Int) : Option (List Row) :=
  if (0 : Int) ≤ p0 ∧ p0 < (19 : Int) then
    some [[.str ((at_ [.str ([115, 97, 109, 101] : List UInt8), .str ([116, 104, 101, 110] : List UInt8), .str ([97, 116] : List UInt8), .str ([114, 101, 110, 97, 109, 101] : List UInt8), .str ([100, 114, 111, 112] : List UInt8), .str ([97, 100, 100] : List UInt8), .str ([110, 101, 115, 116] : List UInt8), .str ([102, 108, 97, 116] : List UInt8), .str ([109, 111, 118, 101] : List UInt8), .str ([115, 112, 108, 105, 116] : List UInt8), .str ([103, 108, 117, 101] : List UInt8), .str ([108, 111, 111, 107] : List UInt8), .str ([110, 117, 109, 98, 101, 114] : List UInt8), .str ([101, 97, 99, 104] : List UInt8), .str ([99, 97, 115, 101] : List UInt8), .str ([115, 101, 108, 101, 99, 116] : List UInt8), .str ([116, 97, 103] : List UInt8), .str ([117, 110, 116, 97, 103] : List UInt8), .str ([102, 105, 108, 108] : List UInt8)] (p0.toNat * 1)).toS)]]
  else none
theorem lens_word_eq (E : Env) (p0 : Int) : runP E lens_word_a [[.int p0]] = lens_word E p0 := by kernel_rfl

def internal_strconv_small_a : AFun := { ps := [(.one (.int .i64))], rs := [(.one (.str))], res := [(false, 2, none)], body := (.seq (.region [] [⟨some 2, .mov (.c (.one (.str)) [.str ([] : List UInt8)]), none, []⟩] false 0)
  (.seq (.seq (.region [] [⟨some 3, .mov (.t 0), none, []⟩,
    ⟨some 4, .icmp .lss (.t 3) (.c (.one (.int .i64)) [.int 10]), none, []⟩] false 0)
  (.cond (.t 4) (.seq (.region [] [⟨some 5, .mov (.t 0), none, []⟩,
    ⟨some 6, .mov (.t 0), none, []⟩,
    ⟨some 7, .ibin .add (.t 6) (.c (.one (.int .i64)) [.int 1]), none, []⟩,
    ⟨some 8, .slcS (.c (.one (.str)) [.str ([48, 49, 50, 51, 52, 53, 54, 55, 56, 57, 97, 98, 99, 100, 101, 102, 103, 104, 105, 106, 107, 108, 109, 110, 111, 112, 113, 114, 115, 116, 117, 118, 119, 120, 121, 122] : List UInt8)]) (some (.t 5)) (some (.t 7)), none, []⟩,
    ⟨some 2, .mov (.t 8), none, []⟩] false 0)
  .ret)
  .skip))
  (.seq (.region [] [⟨some 9, .mov (.t 0), none, []⟩,
    ⟨some 10, .ibin .mul (.t 9) (.c (.one (.int .i64)) [.int 2]), none, []⟩,
    ⟨some 11, .mov (.t 0), none, []⟩,
    ⟨some 12, .ibin .mul (.t 11) (.c (.one (.int .i64)) [.int 2]), none, []⟩,
    ⟨some 13, .ibin .add (.t 12) (.c (.one (.int .i64)) [.int 2]), none, []⟩,
    ⟨some 14, .slcS (.c (.one (.str)) [.str ([48, 48, 48, 49, 48, 50, 48, 51, 48, 52, 48, 53, 48, 54, 48, 55, 48, 56, 48, 57, 49, 48, 49, 49, 49, 50, 49, 51, 49, 52, 49, 53, 49, 54, 49, 55, 49, 56, 49, 57, 50, 48, 50, 49, 50, 50, 50, 51, 50, 52, 50, 53, 50, 54, 50, 55, 50, 56, 50, 57, 51, 48, 51, 49, 51, 50, 51, 51, 51, 52, 51, 53, 51, 54, 51, 55, 51, 56, 51, 57, 52, 48, 52, 49, 52, 50, 52, 51, 52, 52, 52, 53, 52, 54, 52, 55, 52, 56, 52, 57, 53, 48, 53, 49, 53, 50, 53, 51, 53, 52, 53, 53, 53, 54, 53, 55, 53, 56, 53, 57, 54, 48, 54, 49, 54, 50, 54, 51, 54, 52, 54, 53, 54, 54, 54, 55, 54, 56, 54, 57, 55, 48, 55, 49, 55, 50, 55, 51, 55, 52, 55, 53, 55, 54, 55, 55, 55, 56, 55, 57, 56, 48, 56, 49, 56, 50, 56, 51, 56, 52, 56, 53, 56, 54, 56, 55, 56, 56, 56, 57, 57, 48, 57, 49, 57, 50, 57, 51, 57, 52, 57, 53, 57, 54, 57, 55, 57, 56, 57, 57] : List UInt8)]) (some (.t 10)) (some (.t 13)), none, []⟩,
    ⟨some 2, .mov (.t 14), none, []⟩] false 0)
  .ret))) }
/-- internal/strconv.small -/
noncomputable def internal_strconv_small (E : Env) (p0 : Int) : Option (List Row) :=
  if (decide (p0 < 10)) = true then
    if (0 : Int) ≤ p0 ∧ p0 ≤ (Go.IntKind.i64.wrap (p0 + 1)) ∧ (Go.IntKind.i64.wrap (p0 + 1)) ≤ (([48, 49, 50, 51, 52, 53, 54, 55, 56, 57, 97, 98, 99, 100, 101, 102, 103, 104, 105, 106, 107, 108, 109, 110, 111, 112, 113, 114, 115, 116, 117, 118, 119, 120, 121, 122] : List UInt8).length : Int) then
      some [[.str ((([48, 49, 50, 51, 52, 53, 54, 55, 56, 57, 97, 98, 99, 100, 101, 102, 103, 104, 105, 106, 107, 108, 109, 110, 111, 112, 113, 114, 115, 116, 117, 118, 119, 120, 121, 122] : List UInt8).take ((Go.IntKind.i64.wrap (p0 + 1)).toNat)).drop p0.toNat)]]
    else none
  else
    if (0 : Int) ≤ (Go.IntKind.i64.wrap (p0 * 2)) ∧ (Go.IntKind.i64.wrap (p0 * 2)) ≤ (Go.IntKind.i64.wrap ((Go.IntKind.i64.wrap (p0 * 2)) + 2)) ∧ (Go.IntKind.i64.wrap ((Go.IntKind.i64.wrap (p0 * 2)) + 2)) ≤ (([48, 48, 48, 49, 48, 50, 48, 51, 48, 52, 48, 53, 48, 54, 48, 55, 48, 56, 48, 57, 49, 48, 49, 49, 49, 50, 49, 51, 49, 52, 49, 53, 49, 54, 49, 55, 49, 56, 49, 57, 50, 48, 50, 49, 50, 50, 50, 51, 50, 52, 50, 53, 50, 54, 50, 55, 50, 56, 50, 57, 51, 48, 51, 49, 51, 50, 51, 51, 51, 52, 51, 53, 51, 54, 51, 55, 51, 56, 51, 57, 52, 48, 52, 49, 52, 50, 52, 51, 52, 52, 52, 53, 52, 54, 52, 55, 52, 56, 52, 57, 53, 48, 53, 49, 53, 50, 53, 51, 53, 52, 53, 53, 53, 54, 53, 55, 53, 56, 53, 57, 54, 48, 54, 49, 54, 50, 54, 51, 54, 52, 54, 53, 54, 54, 54, 55, 54, 56, 54, 57, 55, 48, 55, 49, 55, 50, 55, 51, 55, 52, 55, 53, 55, 54, 55, 55, 55, 56, 55, 57, 56, 48, 56, 49, 56, 50, 56, 51, 56, 52, 56, 53, 56, 54, 56, 55, 56, 56, 56, 57, 57, 48, 57, 49, 57, 50, 57, 51, 57, 52, 57, 53, 57, 54, 57, 55, 57, 56, 57, 57] : List UInt8).length : Int) then
      some [[.str ((([48, 48, 48, 49, 48, 50, 48, 51, 48, 52, 48, 53, 48, 54, 48, 55, 48, 56, 48, 57, 49, 48, 49, 49, 49, 50, 49, 51, 49, 52, 49, 53, 49, 54, 49, 55, 49, 56, 49, 57, 50, 48, 50, 49, 50, 50, 50, 51, 50, 52, 50, 53, 50, 54, 50, 55, 50, 56, 50, 57, 51, 48, 51, 49, 51, 50, 51, 51, 51, 52, 51, 53, 51, 54, 51, 55, 51, 56, 51, 57, 52, 48, 52, 49, 52, 50, 52, 51, 52, 52, 52, 53, 52, 54, 52, 55, 52, 56, 52, 57, 53, 48, 53, 49, 53, 50, 53, 51, 53, 52, 53, 53, 53, 54, 53, 55, 53, 56, 53, 57, 54, 48, 54, 49, 54, 50, 54, 51, 54, 52, 54, 53, 54, 54, 54, 55, 54, 56, 54, 57, 55, 48, 55, 49, 55, 50, 55, 51, 55, 52, 55, 53, 55, 54, 55, 55, 55, 56, 55, 57, 56, 48, 56, 49, 56, 50, 56, 51, 56, 52, 56, 53, 56, 54, 56, 55, 56, 56, 56, 57, 57, 48, 57, 49, 57, 50, 57, 51, 57, 52, 57, 53, 57, 54, 57, 55, 57, 56, 57, 57] : List UInt8).take ((Go.IntKind.i64.wrap ((Go.IntKind.i64.wrap (p0 * 2)) + 2)).toNat)).drop ((Go.IntKind.i64.wrap (p0 * 2)).toNat))]]
    else none
theorem internal_strconv_small_eq (E : Env) (p0 : Int) : runP E internal_strconv_small_a [[.int p0]] = internal_strconv_small E p0 := by kernel_rfl

def internal_strconv_log10Pow2_a : AFun := { ps := [(.one (.int .i64))], rs := [(.one (.int .i64))], res := [(false, 2, none)], body := (.seq (.region [] [⟨some 2, .mov (.c (.one (.int .i64)) [.int 0]), none, []⟩] false 0)
  (.seq (.region [] [⟨some 3, .mov (.t 0), none, []⟩,
    ⟨some 4, .ibin .mul (.t 3) (.c (.one (.int .i64)) [.int 78913]), none, []⟩,
    ⟨some 5, .shf .shr (.t 4) (.c (.one (.int .u64)) [.int 18]), none, []⟩,
    ⟨some 2, .mov (.t 5), none, []⟩] false 0)
  .ret)) }
/-- internal/strconv.log10Pow2 -/
noncomputable def internal_strconv_log10Pow2 (E : Env) (p0 : Int) : Option (List Row) :=
  some [[.int ((Go.IntKind.i64.wrap (p0 * 78913)).fdiv (2 ^ (min 18 (Go.IntKind.bits .i64))))]]
theorem internal_strconv_log10Pow2_eq (E : Env) (p0 : Int) : runP E internal_strconv_log10Pow2_a [[.int p0]] = internal_strconv_log10Pow2 E p0 := by kernel_rfl

def math_bits_Len64_a : AFun := { ps := [(.one (.int .u64))], rs := [(.one (.int .i64))], res := [(false, 2, none)], body := (.seq (.region [] [⟨some 2, .mov (.c (.one (.int .i64)) [.int 0]), none, []⟩] false 0)
  (.seq (.seq (.region [] [⟨some 3, .mov (.t 0), none, []⟩,
    ⟨some 4, .icmp .geq (.t 3) (.c (.one (.int .u64)) [.int 4294967296]), none, []⟩] false 0)
  (.join [(.normal, { slots := [(0, .d (.one (.int .u64))), (2, .d (.one (.int .i64)))], objs := [] })] (.cond (.t 4) (.seq (.region [] [⟨some 5, .mov (.t 0), none, []⟩,
    ⟨some 6, .shf .shr (.t 5) (.c (.one (.int .u64)) [.int 32]), none, []⟩,
    ⟨some 0, .mov (.t 6), none, []⟩] false 0)
  (.region [] [⟨some 2, .mov (.c (.one (.int .i64)) [.int 32]), none, []⟩] false 0))
  .skip)))
  (.seq (.seq (.region [] [⟨some 7, .mov (.t 0), none, []⟩,
    ⟨some 8, .icmp .geq (.t 7) (.c (.one (.int .u64)) [.int 65536]), none, []⟩] false 0)
  (.join [(.normal, { slots := [(0, .d (.one (.int .u64))), (2, .d (.one (.int .i64)))], objs := [] })] (.cond (.t 8) (.seq (.region [] [⟨some 9, .mov (.t 0), none, []⟩,
    ⟨some 10, .shf .shr (.t 9) (.c (.one (.int .u64)) [.int 16]), none, []⟩,
    ⟨some 0, .mov (.t 10), none, []⟩] false 0)
  (.region [] [⟨some 11, .mov (.t 2), none, []⟩,
    ⟨some 12, .ibin .add (.t 11) (.c (.one (.int .i64)) [.int 16]), none, []⟩,
    ⟨some 2, .mov (.t 12), none, []⟩] false 0))
  .skip)))
  (.seq (.seq (.region [] [⟨some 13, .mov (.t 0), none, []⟩,
    ⟨some 14, .icmp .geq (.t 13) (.c (.one (.int .u64)) [.int 256]), none, []⟩] false 0)
  (.cond (.t 14) (.seq (.region [] [⟨some 15, .mov (.t 0), none, []⟩,
    ⟨some 16, .shf .shr (.t 15) (.c (.one (.int .u64)) [.int 8]), none, []⟩,
    ⟨some 0, .mov (.t 16), none, []⟩] false 0)
  (.region [] [⟨some 17, .mov (.t 2), none, []⟩,
    ⟨some 18, .ibin .add (.t 17) (.c (.one (.int .i64)) [.int 8]), none, []⟩,
    ⟨some 2, .mov (.t 18), none, []⟩] false 0))
  .skip))
  (.seq (.region [] [⟨some 19, .mov (.t 2), none, []⟩,
    ⟨some 20, .mov (.t 0), none, []⟩,
    ⟨some 21, .i2i .u8 (.t 20), none, []⟩,
    ⟨some 22, .idxS (.c (.one (.str)) [.str ([0, 1, 2, 2, 3, 3, 3, 3, 4, 4, 4, 4, 4, 4, 4, 4, 5, 5, 5, 5, 5, 5, 5, 5, 5, 5, 5, 5, 5, 5, 5, 5, 6, 6, 6, 6, 6, 6, 6, 6, 6, 6, 6, 6, 6, 6, 6, 6, 6, 6, 6, 6, 6, 6, 6, 6, 6, 6, 6, 6, 6, 6, 6, 6, 7, 7, 7, 7, 7, 7, 7, 7, 7, 7, 7, 7, 7, 7, 7, 7, 7, 7, 7, 7, 7, 7, 7, 7, 7, 7, 7, 7, 7, 7, 7, 7, 7, 7, 7, 7, 7, 7, 7, 7, 7, 7, 7, 7, 7, 7, 7, 7, 7, 7, 7, 7, 7, 7, 7, 7, 7, 7, 7, 7, 7, 7, 7, 7, 8, 8, 8, 8, 8, 8, 8, 8, 8, 8, 8, 8, 8, 8, 8, 8, 8, 8, 8, 8, 8, 8, 8, 8, 8, 8, 8, 8, 8, 8, 8, 8, 8, 8, 8, 8, 8, 8, 8, 8, 8, 8, 8, 8, 8, 8, 8, 8, 8, 8, 8, 8, 8, 8, 8, 8, 8, 8, 8, 8, 8, 8, 8, 8, 8, 8, 8, 8, 8, 8, 8, 8, 8, 8, 8, 8, 8, 8, 8, 8, 8, 8, 8, 8, 8, 8, 8, 8, 8, 8, 8, 8, 8, 8, 8, 8, 8, 8, 8, 8, 8, 8, 8, 8, 8, 8, 8, 8, 8, 8, 8, 8, 8, 8, 8, 8, 8, 8, 8, 8, 8, 8, 8, 8, 8, 8, 8, 8] : List UInt8)]) (.t 21), none, []⟩,
    ⟨some 23, .i2i .i64 (.t 22), none, []⟩,
    ⟨some 24, .ibin .add (.t 19) (.t 23), none, []⟩,
    ⟨some 2, .mov (.t 24), none, []⟩] false 0)
  .ret))))) }
/-- math/bits.Len64 -/
noncomputable def math_bits_Len64 (E : Env) (p0 : Int) : Option (List Row) :=
  (if (decide (p0 ≥ 4294967296)) = true then
    some (0, [.r [.int (p0.fdiv (2 ^ (min 32 (Go.IntKind.bits .u64))))], .r [.int 32]])
  else
    some (0, [.r [.int p0], .r [.int 0]])).bind fun x1 =>
    (if (decide (((at_ (hd x1.2) 0).toI) ≥ 65536)) = true then
      some (0, [.r [.int (((at_ (hd x1.2) 0).toI).fdiv (2 ^ (min 16 (Go.IntKind.bits .u64))))], .r [.int (Go.IntKind.i64.wrap (((at_ (hd x1.2.tail) 0).toI) + 16))]])
    else
      some (0, [.r [.int ((at_ (hd x1.2) 0).toI)], .r [.int ((at_ (hd x1.2.tail) 0).toI)]])).bind fun x2 =>
      if (decide (((at_ (hd x2.2) 0).toI) ≥ 256)) = true then
        if (0 : Int) ≤ (Go.IntKind.u8.wrap (((at_ (hd x2.2) 0).toI).fdiv (2 ^ (min 8 (Go.IntKind.bits .u64))))) ∧ (Go.IntKind.u8.wrap (((at_ (hd x2.2) 0).toI).fdiv (2 ^ (min 8 (Go.IntKind.bits .u64))))) < (([0, 1, 2, 2, 3, 3, 3, 3, 4, 4, 4, 4, 4, 4, 4, 4, 5, 5, 5, 5, 5, 5, 5, 5, 5, 5, 5, 5, 5, 5, 5, 5, 6, 6, 6, 6, 6, 6, 6, 6, 6, 6, 6, 6, 6, 6, 6, 6, 6, 6, 6, 6, 6, 6, 6, 6, 6, 6, 6, 6, 6, 6, 6, 6, 7, 7, 7, 7, 7, 7, 7, 7, 7, 7, 7, 7, 7, 7, 7, 7, 7, 7, 7, 7, 7, 7, 7, 7, 7, 7, 7, 7, 7, 7, 7, 7, 7, 7, 7, 7, 7, 7, 7, 7, 7, 7, 7, 7, 7, 7, 7, 7, 7, 7, 7, 7, 7, 7, 7, 7, 7, 7, 7, 7, 7, 7, 7, 7, 8, 8, 8, 8, 8, 8, 8, 8, 8, 8, 8, 8, 8, 8, 8, 8, 8, 8, 8, 8, 8, 8, 8, 8, 8, 8, 8, 8, 8, 8, 8, 8, 8, 8, 8, 8, 8, 8, 8, 8, 8, 8, 8, 8, 8, 8, 8, 8, 8, 8, 8, 8, 8, 8, 8, 8, 8, 8, 8, 8, 8, 8, 8, 8, 8, 8, 8, 8, 8, 8, 8, 8, 8, 8, 8, 8, 8, 8, 8, 8, 8, 8, 8, 8, 8, 8, 8, 8, 8, 8, 8, 8, 8, 8, 8, 8, 8, 8, 8, 8, 8, 8, 8, 8, 8, 8, 8, 8, 8, 8, 8, 8, 8, 8, 8, 8, 8, 8, 8, 8, 8, 8, 8, 8, 8, 8, 8, 8] : List UInt8).length : Int) then
          some [[.int (Go.IntKind.i64.wrap ((Go.IntKind.i64.wrap (((at_ (hd x2.2.tail) 0).toI) + 8)) + (Go.IntKind.i64.wrap ((([0, 1, 2, 2, 3, 3, 3, 3, 4, 4, 4, 4, 4, 4, 4, 4, 5, 5, 5, 5, 5, 5, 5, 5, 5, 5, 5, 5, 5, 5, 5, 5, 6, 6, 6, 6, 6, 6, 6, 6, 6, 6, 6, 6, 6, 6, 6, 6, 6, 6, 6, 6, 6, 6, 6, 6, 6, 6, 6, 6, 6, 6, 6, 6, 7, 7, 7, 7, 7, 7, 7, 7, 7, 7, 7, 7, 7, 7, 7, 7, 7, 7, 7, 7, 7, 7, 7, 7, 7, 7, 7, 7, 7, 7, 7, 7, 7, 7, 7, 7, 7, 7, 7, 7, 7, 7, 7, 7, 7, 7, 7, 7, 7, 7, 7, 7, 7, 7, 7, 7, 7, 7, 7, 7, 7, 7, 7, 7, 8, 8, 8, 8, 8, 8, 8, 8, 8, 8, 8, 8, 8, 8, 8, 8, 8, 8, 8, 8, 8, 8, 8, 8, 8, 8, 8, 8, 8, 8, 8, 8, 8, 8, 8, 8, 8, 8, 8, 8, 8, 8, 8, 8, 8, 8, 8, 8, 8, 8, 8, 8, 8, 8, 8, 8, 8, 8, 8, 8, 8, 8, 8, 8, 8, 8, 8, 8, 8, 8, 8, 8, 8, 8, 8, 8, 8, 8, 8, 8, 8, 8, 8, 8, 8, 8, 8, 8, 8, 8, 8, 8, 8, 8, 8, 8, 8, 8, 8, 8, 8, 8, 8, 8, 8, 8, 8, 8, 8, 8, 8, 8, 8, 8, 8, 8, 8, 8, 8, 8, 8, 8, 8, 8, 8, 8, 8, 8] : List UInt8).getD ((Go.IntKind.u8.wrap (((at_ (hd x2.2) 0).toI).fdiv (2 ^ (min 8 (Go.IntKind.bits .u64))))).toNat) 0).toNat : Int))))]]
        else none
      else
        if (0 : Int) ≤ (Go.IntKind.u8.wrap ((at_ (hd x2.2) 0).toI)) ∧ (Go.IntKind.u8.wrap ((at_ (hd x2.2) 0).toI)) < (([0, 1, 2, 2, 3, 3, 3, 3, 4, 4, 4, 4, 4, 4, 4, 4, 5, 5, 5, 5, 5, 5, 5, 5, 5, 5, 5, 5, 5, 5, 5, 5, 6, 6, 6, 6, 6, 6, 6, 6, 6, 6, 6, 6, 6, 6, 6, 6, 6, 6, 6, 6, 6, 6, 6, 6, 6, 6, 6, 6, 6, 6, 6, 6, 7, 7, 7, 7, 7, 7, 7, 7, 7, 7, 7, 7, 7, 7, 7, 7, 7, 7, 7, 7, 7, 7, 7, 7, 7, 7, 7, 7, 7, 7, 7, 7, 7, 7, 7, 7, 7, 7, 7, 7, 7, 7, 7, 7, 7, 7, 7, 7, 7, 7, 7, 7, 7, 7, 7, 7, 7, 7, 7, 7, 7, 7, 7, 7, 8, 8, 8, 8, 8, 8, 8, 8, 8, 8, 8, 8, 8, 8, 8, 8, 8, 8, 8, 8, 8, 8, 8, 8, 8, 8, 8, 8, 8, 8, 8, 8, 8, 8, 8, 8, 8, 8, 8, 8, 8, 8, 8, 8, 8, 8, 8, 8, 8, 8, 8, 8, 8, 8, 8, 8, 8, 8, 8, 8, 8, 8, 8, 8, 8, 8, 8, 8, 8, 8, 8, 8, 8, 8, 8, 8, 8, 8, 8, 8, 8, 8, 8, 8, 8, 8, 8, 8, 8, 8, 8, 8, 8, 8, 8, 8, 8, 8, 8, 8, 8, 8, 8, 8, 8, 8, 8, 8, 8, 8, 8, 8, 8, 8, 8, 8, 8, 8, 8, 8, 8, 8, 8, 8, 8, 8, 8, 8] : List UInt8).length : Int) then
          some [[.int (Go.IntKind.i64.wrap (((at_ (hd x2.2.tail) 0).toI) + (Go.IntKind.i64.wrap ((([0, 1, 2, 2, 3, 3, 3, 3, 4, 4, 4, 4, 4, 4, 4, 4, 5, 5, 5, 5, 5, 5, 5, 5, 5, 5, 5, 5, 5, 5, 5, 5, 6, 6, 6, 6, 6, 6, 6, 6, 6, 6, 6, 6, 6, 6, 6, 6, 6, 6, 6, 6, 6, 6, 6, 6, 6, 6, 6, 6, 6, 6, 6, 6, 7, 7, 7, 7, 7, 7, 7, 7, 7, 7, 7, 7, 7, 7, 7, 7, 7, 7, 7, 7, 7, 7, 7, 7, 7, 7, 7, 7, 7, 7, 7, 7, 7, 7, 7, 7, 7, 7, 7, 7, 7, 7, 7, 7, 7, 7, 7, 7, 7, 7, 7, 7, 7, 7, 7, 7, 7, 7, 7, 7, 7, 7, 7, 7, 8, 8, 8, 8, 8, 8, 8, 8, 8, 8, 8, 8, 8, 8, 8, 8, 8, 8, 8, 8, 8, 8, 8, 8, 8, 8, 8, 8, 8, 8, 8, 8, 8, 8, 8, 8, 8, 8, 8, 8, 8, 8, 8, 8, 8, 8, 8, 8, 8, 8, 8, 8, 8, 8, 8, 8, 8, 8, 8, 8, 8, 8, 8, 8, 8, 8, 8, 8, 8, 8, 8, 8, 8, 8, 8, 8, 8, 8, 8, 8, 8, 8, 8, 8, 8, 8, 8, 8, 8, 8, 8, 8, 8, 8, 8, 8, 8, 8, 8, 8, 8, 8, 8, 8, 8, 8, 8, 8, 8, 8, 8, 8, 8, 8, 8, 8, 8, 8, 8, 8, 8, 8, 8, 8, 8, 8, 8, 8] : List UInt8).getD ((Go.IntKind.u8.wrap ((at_ (hd x2.2) 0).toI)).toNat) 0).toNat : Int))))]]
        else none
theorem math_bits_Len64_eq (E : Env) (p0 : Int) : runP E math_bits_Len64_a [[.int p0]] = math_bits_Len64 E p0 := by kernel_rfl

def internal_strconv_numDigits_a : AFun := { ps := [(.one (.int .u64))], rs := [(.one (.int .i64))], res := [(false, 2, none)], body := (.seq (.region [] [⟨some 2, .mov (.c (.one (.int .i64)) [.int 0]), none, []⟩] false 0)
  (.seq (.region [] [⟨some 4, .mov (.t 0), none, []⟩,
    ⟨some 5, .call 64 [(.one (.int .u64))] [(.one (.int .i64))] [(.t 4)], none, []⟩,
    ⟨some 6, .call 63 [(.one (.int .i64))] [(.one (.int .i64))] [(.t 5)], none, []⟩,
    ⟨some 3, .mov (.t 6), none, []⟩] false 0)
  (.seq (.region [] [⟨some 7, .mov (.t 3), none, []⟩,
    ⟨some 8, .mov (.t 0), none, []⟩,
    ⟨some 9, .mov (.t 3), none, []⟩,
    ⟨some 10, .bad, none, []⟩,
    ⟨some 11, .bad, none, []⟩,
    ⟨some 12, .bad, none, []⟩,
    ⟨some 13, .bad, none, []⟩,
    ⟨some 14, .bad, none, []⟩,
    ⟨some 2, .bad, none, []⟩] false 0)
  .ret))) }
/-- internal/strconv.numDigits -/
noncomputable def internal_strconv_numDigits (E : Env) (p0 : Int) : Option (List Row) :=
  (E.pc n_math_bits_Len64 [[.int p0]]).bind fun y1 =>
    (E.pc n_internal_strconv_log10Pow2 [[.int ((at_ (rowsAt y1 0) 0).toI)]]).bind fun y2 =>
      none
theorem internal_strconv_numDigits_eq (E : Env) (p0 : Int) : runP E internal_strconv_numDigits_a [[.int p0]] = internal_strconv_numDigits E p0 := by kernel_rfl

def internal_strconv_FormatInt_a : AFun := { ps := [(.one (.int .i64)), (.one (.int .i64))], rs := [(.one (.str))], res := [(false, 4, none)], body := (.seq (.region [] [⟨some 4, .mov (.c (.one (.str)) [.str ([] : List UInt8)]), none, []⟩] false 0)
  (.seq (.seq (.region [] [⟨some 10, .mov (.t 1), none, []⟩,
    ⟨some 11, .icmp .eql (.t 10) (.c (.one (.int .i64)) [.int 10]), none, []⟩] false 0)
  (.cond (.t 11) (.seq (.seq (.join [(.normal, { slots := [(0, .d (.one (.int .i64))), (17, .d (.one (.bool)))], objs := [] })] (.region [] [⟨some 12, .mov (.t 0), none, []⟩,
    ⟨some 13, .icmp .leq (.c (.one (.int .i64)) [.int 0]) (.t 12), none, []⟩,
    ⟨some 14, .mov (.t 13), none, []⟩,
    ⟨some 15, .mov (.t 0), some (14, true), []⟩,
    ⟨some 16, .icmp .lss (.t 15) (.c (.one (.int .i64)) [.int 100]), some (14, true), []⟩,
    ⟨some 17, .pick (.t 14) (.t 16) (.c (.one (.bool)) [.bool false]), none, []⟩] false 0))
  (.cond (.t 17) (.seq (.region [] [⟨some 18, .mov (.t 0), none, []⟩,
    ⟨some 19, .call 54 [(.one (.int .i64))] [(.one (.str))] [(.t 18)], none, []⟩,
    ⟨some 4, .mov (.t 19), none, []⟩] false 0)
  .ret)
  .skip))
  (.seq (.region [] [⟨some 5, .allocO 0 (.agg [.int .u8, .int .u8, .int .u8, .int .u8, .int .u8, .int .u8, .int .u8, .int .u8, .int .u8, .int .u8, .int .u8, .int .u8, .int .u8, .int .u8, .int .u8, .int .u8, .int .u8, .int .u8, .int .u8, .int .u8, .int .u8, .int .u8, .int .u8, .int .u8]) [.int 0, .int 0, .int 0, .int 0, .int 0, .int 0, .int 0, .int 0, .int 0, .int 0, .int 0, .int 0, .int 0, .int 0, .int 0, .int 0, .int 0, .int 0, .int 0, .int 0, .int 0, .int 0, .int 0, .int 0], none, []⟩] false 1)
  (.seq (.region [] [⟨some 20, .mov (.t 0), none, []⟩,
    ⟨some 21, .i2i .u64 (.t 20), none, []⟩,
    ⟨some 6, .mov (.t 21), none, []⟩] false 0)
  (.seq (.seq (.region [] [⟨some 22, .mov (.t 0), none, []⟩,
    ⟨some 23, .icmp .lss (.t 22) (.c (.one (.int .i64)) [.int 0]), none, []⟩] false 0)
  (.join [(.normal, { slots := [(0, .d (.one (.int .i64))), (5, .ptr 0 0), (6, .d (.one (.int .u64)))], objs := [.var (.agg [.int .u8, .int .u8, .int .u8, .int .u8, .int .u8, .int .u8, .int .u8, .int .u8, .int .u8, .int .u8, .int .u8, .int .u8, .int .u8, .int .u8, .int .u8, .int .u8, .int .u8, .int .u8, .int .u8, .int .u8, .int .u8, .int .u8, .int .u8, .int .u8])] })] (.cond (.t 23) (.region [] [⟨some 24, .mov (.t 6), none, []⟩,
    ⟨some 25, .ineg (.t 24), none, []⟩,
    ⟨some 6, .mov (.t 25), none, []⟩] false 0)
  .skip)))
  (.seq (.region [] [⟨some 26, .mov (.t 6), none, []⟩,
    ⟨some 27, .call 55 [(.one (.int .u64))] [(.one (.int .i64))] [(.t 26)], none, []⟩,
    ⟨some 7, .mov (.t 27), none, []⟩] false 0)
  (.seq (.region [] [⟨some 28, .mov (.t 7), none, []⟩,
    ⟨some 29, .ibin .add (.c (.one (.int .i64)) [.int 1]) (.t 28), none, []⟩,
    ⟨some 30, .bad, none, []⟩,
    ⟨some 31, .bad, none, []⟩,
    ⟨some 32, .bad, none, []⟩] false 0)
  (.seq (.seq .bad
  .bad)
  (.seq .bad
  .ret))))))))
  .skip))
  (.seq (.region [] [⟨some 45, .mov (.t 0), none, []⟩,
    ⟨some 46, .i2i .u64 (.t 45), none, []⟩,
    ⟨some 47, .mov (.t 1), none, []⟩,
    ⟨some 48, .mov (.t 0), none, []⟩,
    ⟨some 49, .icmp .lss (.t 48) (.c (.one (.int .i64)) [.int 0]), none, []⟩,
    ⟨some 50, .bad, none, []⟩,
    ⟨some 44, .bad, none, []⟩,
    ⟨some 51, .bad, none, []⟩,
    ⟨some 52, .bad, none, []⟩,
    ⟨some 8, .bad, none, []⟩,
    ⟨some 9, .bad, none, []⟩] false 0)
  (.seq .bad
  .ret)))) }
/-- internal/strconv.FormatInt -/
noncomputable def internal_strconv_FormatInt (E : Env) (p0 : Int) (p1 : Int) : Option (List Row) :=
  if (p1 == 10) = true then
    (if (decide (0 ≤ p0)) = true then
      some (0, [.r [.int p0], .r [.bool (decide (p0 < 100))]])
    else
      some (0, [.r [.int p0], .r [.bool false]])).bind fun x1 =>
      if ((at_ (hd x1.2.tail) 0).toB) = true then
        (E.pc n_internal_strconv_small [[.int ((at_ (hd x1.2) 0).toI)]]).bind fun y2 =>
          some [[.str ((at_ (rowsAt y2 0) 0).toS)]]
      else
        (if (decide (((at_ (hd x1.2) 0).toI) < 0)) = true then
          some (0, [.r [.int ((at_ (hd x1.2) 0).toI)], .r [.int (Go.IntKind.u64.wrap (0 - (Go.IntKind.u64.wrap ((at_ (hd x1.2) 0).toI))))], .r [.int 0, .int 0, .int 0, .int 0, .int 0, .int 0, .int 0, .int 0, .int 0, .int 0, .int 0, .int 0, .int 0, .int 0, .int 0, .int 0, .int 0, .int 0, .int 0, .int 0, .int 0, .int 0, .int 0, .int 0]])
        else
          some (0, [.r [.int ((at_ (hd x1.2) 0).toI)], .r [.int (Go.IntKind.u64.wrap ((at_ (hd x1.2) 0).toI))], .r [.int 0, .int 0, .int 0, .int 0, .int 0, .int 0, .int 0, .int 0, .int 0, .int 0, .int 0, .int 0, .int 0, .int 0, .int 0, .int 0, .int 0, .int 0, .int 0, .int 0, .int 0, .int 0, .int 0, .int 0]])).bind fun x3 =>
          (E.pc n_internal_strconv_numDigits [[.int ((at_ (hd x3.2.tail) 0).toI)]]).bind fun y4 =>
            none
  else
    none
theorem internal_strconv_FormatInt_eq (E : Env) (p0 : Int) (p1 : Int) : runP E internal_strconv_FormatInt_a [[.int p0], [.int p1]] = internal_strconv_FormatInt E p0 p1 := by kernel_rfl

def internal_strconv_Itoa_a : AFun := { ps := [(.one (.int .i64))], rs := [(.one (.str))], res := [(false, 2, none)], body := (.seq (.region [] [⟨some 2, .mov (.c (.one (.str)) [.str ([] : List UInt8)]), none, []⟩] false 0)
  (.seq (.region [] [⟨some 3, .mov (.t 0), none, []⟩,
    ⟨some 4, .call 46 [(.one (.int .i64)), (.one (.int .i64))] [(.one (.str))] [(.t 3), (.c (.one (.int .i64)) [.int 10])], none, []⟩,
    ⟨some 2, .mov (.t 4), none, []⟩] false 0)
  .ret)) }
/-- internal/strconv.Itoa -/
noncomputable def internal_strconv_Itoa (E : Env) (p0 : Int) : Option (List Row) :=
  (E.pc n_internal_strconv_FormatInt [[.int p0], [.int 10]]).bind fun y1 =>
    some [[.str ((at_ (rowsAt y1 0) 0).toS)]]
theorem internal_strconv_Itoa_eq (E : Env) (p0 : Int) : runP E internal_strconv_Itoa_a [[.int p0]] = internal_strconv_Itoa E p0 := by kernel_rfl

def strconv_Itoa_a : AFun := { ps := [(.one (.int .i64))], rs := [(.one (.str))], res := [(false, 2, none)], body := (.seq (.region [] [⟨some 2, .mov (.c (.one (.str)) [.str ([] : List UInt8)]), none, []⟩] false 0)
  (.seq (.region [] [⟨some 3, .mov (.t 0), none, []⟩,
    ⟨some 4, .call 38 [(.one (.int .i64))] [(.one (.str))] [(.t 3)], none, []⟩,
    ⟨some 2, .mov (.t 4), none, []⟩] false 0)
  .ret)) }
/-- strconv.Itoa -/
noncomputable def strconv_Itoa (E : Env) (p0 : Int) : Option (List Row) :=
  (E.pc n_internal_strconv_Itoa [[.int p0]]).bind fun y1 =>
    some [[.str ((at_ (rowsAt y1 0) 0).toS)]]
theorem strconv_Itoa_eq (E : Env) (p0 : Int) : runP E strconv_Itoa_a [[.int p0]] = strconv_Itoa E p0 := by kernel_rfl

def lens_printer_put_i5_h0 : Shape := { slots := [(0, .ptr 0 0), (6, .d (.one (.sl 9))), (7, .d (.one (.int .i64))), (8, .d (.one (.int .i64)))], objs := [.cells false [.sw 1], .sarr 5 (.one (.int .u8))], m := 2 }
def lens_printer_put_i5_o0 : List (Exit' × Shape) := [(.exit 0, { slots := [], objs := [.cells false [.sw 1], .sarr 5 (.one (.int .u8))], m := 2 })]
def lens_printer_put_i5_c0 : ACode := (.seq (.region [] [⟨some 9, .icmp .lss (.t 8) (.t 7), none, []⟩] false 0)
  (.seq (.cond (.t 9) .skip
  (.exit 0))
  (.seq (.block 1 (.seq (.region [] [⟨some 10, .iad 9 (.one (.str)) (.t 6) (.t 8), none, []⟩,
    ⟨some 11, .ld (.one (.str)) 9 (.t 10), none, []⟩,
    ⟨some 5, .mov (.t 11), none, []⟩] false 0)
  (.seq (.seq (.region [] [⟨some 12, .mov (.t 0), none, []⟩,
    ⟨some 13, .nchk (.t 12), none, []⟩,
    ⟨some 14, .fad 0 1 51 49 (.t 13), none, []⟩,
    ⟨some 15, .ldC (.t 14), none, []⟩,
    ⟨some 16, .lenL (.t 15), none, []⟩,
    ⟨some 17, .icmp .gtr (.t 16) (.c (.one (.int .i64)) [.int 0]), none, []⟩] false 0)
  (.join [(.normal, { slots := [(0, .ptr 0 0), (5, .d (.one (.str))), (6, .d (.one (.sl 9))), (7, .d (.one (.int .i64))), (8, .d (.one (.int .i64)))], objs := [.cells false [.sw 1], .sarr 5 (.one (.int .u8))], m := 2 })] (.cond (.t 17) (.region [] [⟨some 18, .mov (.t 0), none, []⟩,
    ⟨some 19, .mov (.t 0), none, []⟩,
    ⟨some 20, .nchk (.t 19), none, []⟩,
    ⟨some 21, .fad 0 1 51 49 (.t 20), none, []⟩,
    ⟨some 22, .ldC (.t 21), none, []⟩,
    ⟨some 23, .bsl 5 (.one (.int .u8)) 1 [.int 0] [(0, (.c (.one (.int .u8)) [.int 32]))], none, []⟩,
    ⟨some 24, .appW 0 5 (.one (.int .u8)) 1 (.t 22) (.t 23), none, []⟩,
    ⟨some 25, .nchk (.t 18), none, []⟩,
    ⟨some 26, .fad 0 1 51 49 (.t 25), none, []⟩,
    ⟨none, .stC (.t 26) (.t 24), none, []⟩] false 1)
  .skip)))
  (.region [] [⟨some 27, .mov (.t 0), none, []⟩,
    ⟨some 28, .mov (.t 0), none, []⟩,
    ⟨some 29, .nchk (.t 28), none, []⟩,
    ⟨some 30, .fad 0 1 51 49 (.t 29), none, []⟩,
    ⟨some 31, .ldC (.t 30), none, []⟩,
    ⟨some 32, .mov (.t 5), none, []⟩,
    ⟨some 33, .appS 0 5 (.t 31) (.t 32), none, []⟩,
    ⟨some 34, .nchk (.t 27), none, []⟩,
    ⟨some 35, .fad 0 1 51 49 (.t 34), none, []⟩,
    ⟨none, .stC (.t 35) (.t 33), none, []⟩] false 1))))
  (.region [] [⟨some 36, .ibin .add (.t 8) (.c (.one (.int .i64)) [.int 1]), none, []⟩,
    ⟨some 8, .mov (.t 36), none, []⟩] false 0))))
noncomputable def lens_printer_put_i5_l0 (E : Env) (v0 : C) (v1 : Int) (v2 : Int) (v3 : C) : Option (Nat × List PV) := E.fix (stepOf E lens_printer_put_i5_c0 lens_printer_put_i5_h0 lens_printer_put_i5_o0) [.r [v0], .r [.int v1], .r [.int v2], .r [v3]]
noncomputable def lens_printer_put_i5_b0 (E : Env) (X : C → Int → Int → C → Option (Nat × List PV)) (v0 : C) (v1 : Int) (v2 : Int) (v3 : C) : Option (Nat × List PV) :=
  if (decide (v2 < v1)) = true then
    if (0 : Int) ≤ v2 ∧ v2 < (v0.rows.length : Int) then
      (if (decide ((v3.rows.length : Int) > 0)) = true then
        if (v3.rows.length + ([[.int 32]] : List Row).length) * 1 ≤ 140737488355328 then
          some (0, [.r [.str ((at_ (rowsAt v0.rows v2.toNat) 0).toS)], .r [v0], .r [.int v1], .r [.int v2], .r [appC v3 ([[.int 32]] : List Row)]])
        else none
      else
        some (0, [.r [.str ((at_ (rowsAt v0.rows v2.toNat) 0).toS)], .r [v0], .r [.int v1], .r [.int v2], .r [v3]])).bind fun x1 =>
        if ((at_ (hd x1.2.tail.tail.tail.tail) 0).rows).length + ((at_ (hd x1.2) 0).toS).length ≤ 1099511627776 then
          X (at_ (hd x1.2.tail) 0) ((at_ (hd x1.2.tail.tail) 0).toI) (Go.IntKind.i64.wrap (((at_ (hd x1.2.tail.tail.tail) 0).toI) + 1)) (appC (at_ (hd x1.2.tail.tail.tail.tail) 0) (((at_ (hd x1.2) 0).toS).map byteRow))
        else none
    else none
  else
    some (0, [.r [v3]])
theorem lens_printer_put_i5_s0 (E : Env) (X : List PV → Option (Nat × List PV)) (v0 : C) (v1 : Int) (v2 : Int) (v3 : C) : stepOf E lens_printer_put_i5_c0 lens_printer_put_i5_h0 lens_printer_put_i5_o0 X [.r [v0], .r [.int v1], .r [.int v2], .r [v3]] = lens_printer_put_i5_b0 E (fun (v0 : C) (v1 : Int) (v2 : Int) (v3 : C) => X [.r [v0], .r [.int v1], .r [.int v2], .r [v3]]) v0 v1 v2 v3 := by kernel_rfl
def lens_printer_put_i5_a : AImp := { fn := 26, entry := lens_printer_put_i5_en, res := [], exit := lens_printer_put_i5_ex, body := (.seq (.region [] [⟨some 6, .mov (.t 1), none, []⟩,
    ⟨some 7, .lenL (.t 6), none, []⟩,
    ⟨some 8, .mov (.c (.one (.int .i64)) [.int 0]), none, []⟩] false 0)
  (.block 0 (.loop lens_printer_put_i5_h0 lens_printer_put_i5_o0 lens_printer_put_i5_c0))) }
/-- (*clapperbridge/lens.printer).put, to which objects are handed -/
noncomputable def lens_printer_put_i5 (E : Env) (p0 : C) (p1 : C) : Option (List PV) :=
  (lens_printer_put_i5_l0 E p0 (p0.rows.length : Int) 0 p1).bind fun x2 =>
    some [.r [at_ (hd x2.2) 0]]
theorem lens_printer_put_i5_eq (E : Env) (p0 : C) (p1 : C) : runI E lens_printer_put_i5_a [.r [p0], .r [p1]] = lens_printer_put_i5 E p0 p1 := by kernel_rfl

def lens_quote_h0 : Shape := { slots := [(0, .d (.one (.str))), (3, .sw 0), (8, .d (.one (.int .i64))), (9, .d (.one (.int .i64)))], objs := [.sarr 5 (.one (.int .u8))] }
def lens_quote_o0 : List (Exit' × Shape) := [(.exit 0, { slots := [(3, .sw 0)], objs := [.sarr 5 (.one (.int .u8))] })]
def lens_quote_c0 : ACode := (.seq (.region [] [⟨some 10, .icmp .lss (.t 9) (.t 8), none, []⟩] false 0)
  (.seq (.cond (.t 10) .skip
  (.exit 0))
  (.seq (.join [(.normal, { slots := [(0, .d (.one (.str))), (3, .sw 0), (8, .d (.one (.int .i64))), (9, .d (.one (.int .i64)))], objs := [.sarr 5 (.one (.int .u8))] })] (.block 1 (.seq (.region [] [⟨some 11, .mov (.t 9), none, []⟩,
    ⟨some 4, .mov (.t 11), none, []⟩] false 0)
  (.seq (.region [] [⟨some 12, .mov (.t 0), none, []⟩,
    ⟨some 13, .mov (.t 4), none, []⟩,
    ⟨some 14, .idxS (.t 12) (.t 13), none, []⟩,
    ⟨some 5, .mov (.t 14), none, []⟩] false 0)
  (.seq (.join [(.normal, { slots := [(0, .d (.one (.str))), (3, .sw 0), (5, .d (.one (.int .u8))), (8, .d (.one (.int .i64))), (9, .d (.one (.int .i64))), (28, .d (.one (.bool)))], objs := [.sarr 5 (.one (.int .u8))] })] (.region [] [⟨some 15, .mov (.t 5), none, []⟩,
    ⟨some 16, .icmp .lss (.t 15) (.c (.one (.int .u8)) [.int 33]), none, []⟩,
    ⟨some 17, .mov (.t 16), none, []⟩,
    ⟨some 18, .mov (.t 5), some (17, false), []⟩,
    ⟨some 19, .icmp .gtr (.t 18) (.c (.one (.int .u8)) [.int 126]), some (17, false), []⟩,
    ⟨some 20, .pick (.t 17) (.c (.one (.bool)) [.bool true]) (.t 19), none, []⟩,
    ⟨some 21, .mov (.t 20), none, []⟩,
    ⟨some 22, .mov (.t 5), some (21, false), []⟩,
    ⟨some 23, .icmp .eql (.t 22) (.c (.one (.int .u8)) [.int 34]), some (21, false), []⟩,
    ⟨some 24, .pick (.t 21) (.c (.one (.bool)) [.bool true]) (.t 23), none, []⟩,
    ⟨some 25, .mov (.t 24), none, []⟩,
    ⟨some 26, .mov (.t 5), some (25, false), []⟩,
    ⟨some 27, .icmp .eql (.t 26) (.c (.one (.int .u8)) [.int 92]), some (25, false), []⟩,
    ⟨some 28, .pick (.t 25) (.c (.one (.bool)) [.bool true]) (.t 27), none, []⟩] false 0))
  (.cond (.t 28) (.region [] [⟨some 29, .mov (.t 3), none, []⟩,
    ⟨some 30, .mov (.t 5), none, []⟩,
    ⟨some 31, .shf .shr (.t 30) (.c (.one (.int .u64)) [.int 4]), none, [1]⟩,
    ⟨some 32, .idxS (.c (.one (.str)) [.str ([48, 49, 50, 51, 52, 53, 54, 55, 56, 57, 97, 98, 99, 100, 101, 102] : List UInt8)]) (.t 31), none, [1, 2]⟩,
    ⟨some 33, .mov (.t 5), none, []⟩,
    ⟨some 34, .ibin .and (.t 33) (.c (.one (.int .u8)) [.int 15]), none, [4]⟩,
    ⟨some 35, .idxS (.c (.one (.str)) [.str ([48, 49, 50, 51, 52, 53, 54, 55, 56, 57, 97, 98, 99, 100, 101, 102] : List UInt8)]) (.t 34), none, [4, 5]⟩,
    ⟨some 36, .bsl 5 (.one (.int .u8)) 3 [.int 0] [(0, (.c (.one (.int .u8)) [.int 92])), (1, (.t 32)), (2, (.t 35))], none, [1, 2, 3, 4, 5, 6]⟩,
    ⟨some 37, .appW 0 5 (.one (.int .u8)) 1 (.t 29) (.t 36), none, [0, 1, 2, 3, 4, 5, 6, 7]⟩,
    ⟨some 3, .mov (.t 37), none, [0, 1, 2, 3, 4, 5, 6, 7, 8]⟩] true 1)
  (.region [] [⟨some 38, .mov (.t 3), none, []⟩,
    ⟨some 39, .mov (.t 5), none, []⟩,
    ⟨some 40, .bsl 5 (.one (.int .u8)) 1 [.int 0] [(0, (.t 39))], none, []⟩,
    ⟨some 41, .appW 0 5 (.one (.int .u8)) 1 (.t 38) (.t 40), none, []⟩,
    ⟨some 3, .mov (.t 41), none, []⟩] false 1)))))))
  (.region [] [⟨some 42, .ibin .add (.t 9) (.c (.one (.int .i64)) [.int 1]), none, []⟩,
    ⟨some 9, .mov (.t 42), none, []⟩] false 0))))
noncomputable def lens_quote_l0 (E : Env) (v0 : List UInt8) (v1 : Int) (v2 : Int) (v3 : C) : Option (Nat × List PV) := E.fix (stepOf E lens_quote_c0 lens_quote_h0 lens_quote_o0) [.r [.str v0], .r [.int v1], .r [.int v2], .r [v3]]
noncomputable def lens_quote_b0 (E : Env) (X : List UInt8 → Int → Int → C → Option (Nat × List PV)) (v0 : List UInt8) (v1 : Int) (v2 : Int) (v3 : C) : Option (Nat × List PV) :=
  if (decide (v2 < v1)) = true then
    (if (0 : Int) ≤ v2 ∧ v2 < (v0.length : Int) then
      (if (decide (((v0.getD v2.toNat 0).toNat : Int) < 33)) = true then
        some (0, [.r [.str v0], .r [.int ((v0.getD v2.toNat 0).toNat : Int)], .r [.int v1], .r [.int v2], .r [.bool true], .r [v3]])
      else
        if (decide (((v0.getD v2.toNat 0).toNat : Int) > 126)) = true then
          some (0, [.r [.str v0], .r [.int ((v0.getD v2.toNat 0).toNat : Int)], .r [.int v1], .r [.int v2], .r [.bool true], .r [v3]])
        else
          if (((v0.getD v2.toNat 0).toNat : Int) == 34) = true then
            some (0, [.r [.str v0], .r [.int ((v0.getD v2.toNat 0).toNat : Int)], .r [.int v1], .r [.int v2], .r [.bool true], .r [v3]])
          else
            some (0, [.r [.str v0], .r [.int ((v0.getD v2.toNat 0).toNat : Int)], .r [.int v1], .r [.int v2], .r [.bool (((v0.getD v2.toNat 0).toNat : Int) == 92)], .r [v3]])).bind fun x1 =>
        if ((at_ (hd x1.2.tail.tail.tail.tail) 0).toB) = true then
          if (0 : Int) ≤ (((at_ (hd x1.2.tail) 0).toI).fdiv (2 ^ (min 4 (Go.IntKind.bits .u8)))) ∧ (((at_ (hd x1.2.tail) 0).toI).fdiv (2 ^ (min 4 (Go.IntKind.bits .u8)))) < (([48, 49, 50, 51, 52, 53, 54, 55, 56, 57, 97, 98, 99, 100, 101, 102] : List UInt8).length : Int) then
            if (0 : Int) ≤ (bitsOf .and .u8 ((at_ (hd x1.2.tail) 0).toI) 15) ∧ (bitsOf .and .u8 ((at_ (hd x1.2.tail) 0).toI) 15) < (([48, 49, 50, 51, 52, 53, 54, 55, 56, 57, 97, 98, 99, 100, 101, 102] : List UInt8).length : Int) then
              if (((at_ (hd x1.2.tail.tail.tail.tail.tail) 0).rows).length + ([[.int 92], [.int ((([48, 49, 50, 51, 52, 53, 54, 55, 56, 57, 97, 98, 99, 100, 101, 102] : List UInt8).getD ((((at_ (hd x1.2.tail) 0).toI).fdiv (2 ^ (min 4 (Go.IntKind.bits .u8)))).toNat) 0).toNat : Int)], [.int ((([48, 49, 50, 51, 52, 53, 54, 55, 56, 57, 97, 98, 99, 100, 101, 102] : List UInt8).getD ((bitsOf .and .u8 ((at_ (hd x1.2.tail) 0).toI) 15).toNat) 0).toNat : Int)]] : List Row).length) * 1 ≤ 140737488355328 then
                some (0, [.r [.str ((at_ (hd x1.2) 0).toS)], .r [.int ((at_ (hd x1.2.tail.tail) 0).toI)], .r [.int ((at_ (hd x1.2.tail.tail.tail) 0).toI)], .r [appC (at_ (hd x1.2.tail.tail.tail.tail.tail) 0) ([[.int 92], [.int ((([48, 49, 50, 51, 52, 53, 54, 55, 56, 57, 97, 98, 99, 100, 101, 102] : List UInt8).getD ((((at_ (hd x1.2.tail) 0).toI).fdiv (2 ^ (min 4 (Go.IntKind.bits .u8)))).toNat) 0).toNat : Int)], [.int ((([48, 49, 50, 51, 52, 53, 54, 55, 56, 57, 97, 98, 99, 100, 101, 102] : List UInt8).getD ((bitsOf .and .u8 ((at_ (hd x1.2.tail) 0).toI) 15).toNat) 0).toNat : Int)]] : List Row)]])
              else none
            else none
          else none
        else
          if (((at_ (hd x1.2.tail.tail.tail.tail.tail) 0).rows).length + ([[.int ((at_ (hd x1.2.tail) 0).toI)]] : List Row).length) * 1 ≤ 140737488355328 then
            some (0, [.r [.str ((at_ (hd x1.2) 0).toS)], .r [.int ((at_ (hd x1.2.tail.tail) 0).toI)], .r [.int ((at_ (hd x1.2.tail.tail.tail) 0).toI)], .r [appC (at_ (hd x1.2.tail.tail.tail.tail.tail) 0) ([[.int ((at_ (hd x1.2.tail) 0).toI)]] : List Row)]])
          else none
    else none).bind fun x2 =>
      X ((at_ (hd x2.2) 0).toS) ((at_ (hd x2.2.tail) 0).toI) (Go.IntKind.i64.wrap (((at_ (hd x2.2.tail.tail) 0).toI) + 1)) (at_ (hd x2.2.tail.tail.tail) 0)
  else
    some (0, [.r [v3]])
theorem lens_quote_s0 (E : Env) (X : List PV → Option (Nat × List PV)) (v0 : List UInt8) (v1 : Int) (v2 : Int) (v3 : C) : stepOf E lens_quote_c0 lens_quote_h0 lens_quote_o0 X [.r [.str v0], .r [.int v1], .r [.int v2], .r [v3]] = lens_quote_b0 E (fun (v0 : List UInt8) (v1 : Int) (v2 : Int) (v3 : C) => X [.r [.str v0], .r [.int v1], .r [.int v2], .r [v3]]) v0 v1 v2 v3 := by kernel_rfl
def lens_quote_a : AFun := { ps := [(.one (.str))], rs := [(.one (.str))], res := [(false, 2, none)], body := (.seq (.region [] [⟨some 2, .mov (.c (.one (.str)) [.str ([] : List UInt8)]), none, []⟩] false 0)
  (.seq (.region [] [⟨some 6, .bslS 0 5 (.one (.int .u8)) 1 [.int 0] [(0, (.c (.one (.int .u8)) [.int 34]))], none, []⟩,
    ⟨some 3, .mov (.t 6), none, []⟩] false 1)
  (.seq (.seq (.region [] [⟨some 7, .mov (.t 0), none, []⟩,
    ⟨some 8, .lenS (.t 7), none, []⟩,
    ⟨some 9, .mov (.c (.one (.int .i64)) [.int 0]), none, []⟩] false 0)
  (.block 0 (.loop lens_quote_h0 lens_quote_o0 lens_quote_c0)))
  (.seq (.region [] [⟨some 43, .mov (.t 3), none, []⟩,
    ⟨some 44, .bsl 5 (.one (.int .u8)) 1 [.int 0] [(0, (.c (.one (.int .u8)) [.int 34]))], none, []⟩,
    ⟨some 45, .appW 0 5 (.one (.int .u8)) 1 (.t 43) (.t 44), none, []⟩,
    ⟨some 46, .b2s 5 (.t 45), none, []⟩,
    ⟨some 2, .mov (.t 46), none, []⟩] false 1)
  .ret)))) }
/-- clapperbridge/lens.quote -/
noncomputable def lens_quote (E : Env) (p0 : List UInt8) : Option (List Row) :=
  (lens_quote_l0 E p0 (p0.length : Int) 0 (.sl ([[.int 34]] : List Row))).bind fun x3 =>
    if (((at_ (hd x3.2) 0).rows).length + ([[.int 34]] : List Row).length) * 1 ≤ 140737488355328 then
      some [[.str (bytesOf ((appC (at_ (hd x3.2) 0) ([[.int 34]] : List Row)).rows))]]
    else none
theorem lens_quote_eq (E : Env) (p0 : List UInt8) : runP E lens_quote_a [[.str p0]] = lens_quote E p0 := by kernel_rfl

def lens_printer_value_i7_h0 : Shape := { slots := [(0, .ptr 0 0), (3, .d (.one (.ref 25))), (4, .whole 2), (74, .d (.one (.int .i64))), (75, .d (.one (.int .i64)))], objs := [.cells false [.sw 1], .sarr 5 (.one (.int .u8)), .arr (.one (.int .u8))], m := 2 }
def lens_printer_value_i7_o0 : List (Exit' × Shape) := [(.exit 4, { slots := [(0, .ptr 0 0), (4, .whole 2)], objs := [.cells false [.sw 1], .sarr 5 (.one (.int .u8)), .arr (.one (.int .u8))], m := 2 })]
def lens_printer_value_i7_c0 : ACode := (.seq (.region [] [⟨some 76, .icmp .lss (.t 75) (.t 74), none, []⟩] false 0)
  (.seq (.cond (.t 76) .skip
  (.exit 4))
  (.seq (.block 5 (.seq (.region [] [⟨some 77, .mov (.t 75), none, []⟩,
    ⟨some 5, .mov (.t 77), none, []⟩] false 0)
  (.region [] [⟨some 78, .mov (.t 4), none, []⟩,
    ⟨some 79, .mov (.t 5), none, []⟩,
    ⟨some 80, .fad 1 1 25 3 (.t 3), none, []⟩,
    ⟨some 81, .ld (.one (.int .i64)) 3 (.t 80), none, []⟩,
    ⟨some 82, .i2i .u64 (.t 81), none, []⟩,
    ⟨some 83, .mov (.t 5), none, []⟩,
    ⟨some 84, .ibin .mul (.c (.one (.int .i64)) [.int 4]) (.t 83), none, []⟩,
    ⟨some 85, .ibin .sub (.c (.one (.int .i64)) [.int 60]) (.t 84), none, []⟩,
    ⟨some 86, .shf .shr (.t 82) (.t 85), none, []⟩,
    ⟨some 87, .ibin .and (.t 86) (.c (.one (.int .u64)) [.int 15]), none, []⟩,
    ⟨some 88, .idxS (.c (.one (.str)) [.str ([48, 49, 50, 51, 52, 53, 54, 55, 56, 57, 97, 98, 99, 100, 101, 102] : List UInt8)]) (.t 87), none, []⟩,
    ⟨some 89, .iad 5 (.one (.int .u8)) (.t 78) (.t 79), none, []⟩,
    ⟨none, .st (.one (.int .u8)) (.t 89) (.t 88), none, []⟩] false 0)))
  (.region [] [⟨some 90, .ibin .add (.t 75) (.c (.one (.int .i64)) [.int 1]), none, []⟩,
    ⟨some 75, .mov (.t 90), none, []⟩] false 0))))
noncomputable def lens_printer_value_i7_l0 (E : Env) (v0 : C) (v1 : Int) (v2 : Int) (v3 : C) (v4 : C) : Option (Nat × List PV) := E.fix (stepOf E lens_printer_value_i7_c0 lens_printer_value_i7_h0 lens_printer_value_i7_o0) [.r [v0], .r [.int v1], .r [.int v2], .r [v3], .r [v4]]
noncomputable def lens_printer_value_i7_b0 (E : Env) (X : C → Int → Int → C → C → Option (Nat × List PV)) (v0 : C) (v1 : Int) (v2 : Int) (v3 : C) (v4 : C) : Option (Nat × List PV) :=
  if (decide (v2 < v1)) = true then
    if v0.isDp = true then
      if Go.IntKind.i64.wrap (60 - (Go.IntKind.i64.wrap (4 * v2))) < 0 then none else   if (0 : Int) ≤ (bitsOf .and .u64 ((Go.IntKind.u64.wrap ((at_ v0.dpRow 1).toI)).fdiv (2 ^ (min ((Go.IntKind.i64.wrap (60 - (Go.IntKind.i64.wrap (4 * v2)))).toNat) (Go.IntKind.bits .u64)))) 15) ∧ (bitsOf .and .u64 ((Go.IntKind.u64.wrap ((at_ v0.dpRow 1).toI)).fdiv (2 ^ (min ((Go.IntKind.i64.wrap (60 - (Go.IntKind.i64.wrap (4 * v2)))).toNat) (Go.IntKind.bits .u64)))) 15) < (([48, 49, 50, 51, 52, 53, 54, 55, 56, 57, 97, 98, 99, 100, 101, 102] : List UInt8).length : Int) then
          if (0 : Int) ≤ v2 ∧ v2 < (v4.rows.length : Int) then
            if v2.toNat < v4.rows.length then
              X v0 v1 (Go.IntKind.i64.wrap (v2 + 1)) v3 (.sl (v4.rows.set v2.toNat [.int ((([48, 49, 50, 51, 52, 53, 54, 55, 56, 57, 97, 98, 99, 100, 101, 102] : List UInt8).getD ((bitsOf .and .u64 ((Go.IntKind.u64.wrap ((at_ v0.dpRow 1).toI)).fdiv (2 ^ (min ((Go.IntKind.i64.wrap (60 - (Go.IntKind.i64.wrap (4 * v2)))).toNat) (Go.IntKind.bits .u64)))) 15).toNat) 0).toNat : Int)]))
            else none
          else none
        else none
    else none
  else
    some (0, [.r [v3], .r [v4]])
theorem lens_printer_value_i7_s0 (E : Env) (X : List PV → Option (Nat × List PV)) (v0 : C) (v1 : Int) (v2 : Int) (v3 : C) (v4 : C) : stepOf E lens_printer_value_i7_c0 lens_printer_value_i7_h0 lens_printer_value_i7_o0 X [.r [v0], .r [.int v1], .r [.int v2], .r [v3], .r [v4]] = lens_printer_value_i7_b0 E (fun (v0 : C) (v1 : Int) (v2 : Int) (v3 : C) (v4 : C) => X [.r [v0], .r [.int v1], .r [.int v2], .r [v3], .r [v4]]) v0 v1 v2 v3 v4 := by kernel_rfl
def lens_printer_value_i7_h1 : Shape := { slots := [(0, .ptr 0 0), (3, .d (.one (.ref 25))), (18, .d (.one (.sl 55))), (19, .d (.one (.int .i64))), (20, .d (.one (.int .i64)))], objs := [.cells false [.sw 1], .sarr 5 (.one (.int .u8))], m := 2 }
def lens_printer_value_i7_o1 : List (Exit' × Shape) := [(.exit 1, { slots := [(0, .ptr 0 0)], objs := [.cells false [.sw 1], .sarr 5 (.one (.int .u8))], m := 2 })]
def lens_printer_value_i7_c1 : ACode := (.seq (.region [] [⟨some 21, .icmp .lss (.t 20) (.t 19), none, []⟩] false 0)
  (.seq (.cond (.t 21) .skip
  (.exit 1))
  (.seq (.join [(.normal, { slots := [(0, .ptr 0 0), (3, .d (.one (.ref 25))), (18, .d (.one (.sl 55))), (19, .d (.one (.int .i64))), (20, .d (.one (.int .i64)))], objs := [.cells false [.sw 1], .sarr 5 (.one (.int .u8))], m := 2 })] (.block 2 (.seq (.region [] [⟨some 22, .iad 55 (.agg [.str, .int .i64, .int .i64, .str, .sl 55]) (.t 18) (.t 20), none, []⟩,
    ⟨some 23, .ld (.agg [.str, .int .i64, .int .i64, .str, .sl 55]) 55 (.t 22), none, []⟩,
    ⟨some 7, .allocO 0 (.agg [.str, .int .i64, .int .i64, .str, .sl 55]) [.str [], .int 0, .int 0, .str [], .nils], none, []⟩,
    ⟨none, .st (.agg [.str, .int .i64, .int .i64, .str, .sl 55]) (.t 7) (.t 23), none, []⟩] false 1)
  (.seq (.seq (.region [] [⟨some 24, .fad 0 1 25 3 (.t 3), none, []⟩,
    ⟨some 25, .ld (.one (.int .i64)) 3 (.t 24), none, []⟩] false 0)
  (.join [(.normal, { slots := [(0, .ptr 0 0), (3, .d (.one (.ref 25))), (7, .ptr 2 0), (18, .d (.one (.sl 55))), (19, .d (.one (.int .i64))), (20, .d (.one (.int .i64)))], objs := [.cells false [.sw 1], .sarr 5 (.one (.int .u8)), .var (.agg [.str, .int .i64, .int .i64, .str, .sl 55])], m := 2 })] (.block 3 (.seq (.seq (.region [] [⟨some 27, .icmp .eql (.t 25) (.c (.one (.int .i64)) [.int 6]), none, []⟩,
    ⟨some 26, .mov (.t 27), none, []⟩] false 0)
  (.join [(.normal, { slots := [(0, .ptr 0 0), (3, .d (.one (.ref 25))), (7, .ptr 2 0), (18, .d (.one (.sl 55))), (19, .d (.one (.int .i64))), (20, .d (.one (.int .i64))), (25, .d (.one (.int .i64))), (26, .d (.one (.bool)))], objs := [.cells false [.sw 1], .sarr 5 (.one (.int .u8)), .var (.agg [.str, .int .i64, .int .i64, .str, .sl 55])], m := 2 })] (.cond (.t 26) .skip
  (.region [] [⟨some 28, .icmp .eql (.t 25) (.c (.one (.int .i64)) [.int 7]), none, []⟩,
    ⟨some 26, .mov (.t 28), none, []⟩] false 0))))
  (.cond (.t 26) (.region [] [⟨some 29, .mov (.t 0), none, []⟩,
    ⟨some 30, .fad 0 1 55 9 (.t 7), none, []⟩,
    ⟨some 31, .ld (.one (.str)) 9 (.t 30), none, []⟩,
    ⟨some 32, .bsl 9 (.one (.str)) 1 [.str []] [(0, (.t 31))], none, []⟩,
    ⟨some 33, .icall 127 26 (lens_printer_put_i5_en) (lens_printer_put_i5_ex) [0, 1] 0 none [(.t 29), (.t 32)], none, []⟩] false 0)
  (.seq (.region [] [⟨some 35, .icmp .eql (.t 25) (.c (.one (.int .i64)) [.int 9]), none, []⟩,
    ⟨some 34, .mov (.t 35), none, []⟩] false 0)
  (.cond (.t 34) (.region [] [⟨some 36, .mov (.t 0), none, []⟩,
    ⟨some 37, .fad 0 1 55 9 (.t 7), none, []⟩,
    ⟨some 38, .ld (.one (.str)) 9 (.t 37), none, []⟩,
    ⟨some 39, .call 39 [(.one (.str))] [(.one (.str))] [(.t 38)], none, []⟩,
    ⟨some 40, .bsl 9 (.one (.str)) 1 [.str []] [(0, (.t 39))], none, []⟩,
    ⟨some 41, .icall 127 26 (lens_printer_put_i5_en) (lens_printer_put_i5_ex) [0, 1] 0 none [(.t 36), (.t 40)], none, []⟩] false 0)
  .skip)))))))
  (.region [] [⟨some 42, .mov (.t 0), none, []⟩,
    ⟨some 43, .fad 1 4 55 25 (.t 7), none, []⟩,
    ⟨some 44, .ld (.agg [.int .i64, .int .i64, .str, .sl 55]) 25 (.t 43), none, []⟩,
    ⟨some 45, .icall 129 40 (lens_printer_value_i7_en) (lens_printer_value_i7_ex) [0, 1] 0 none [(.t 42), (.t 44)], none, []⟩] false 0)))))
  (.region [] [⟨some 46, .ibin .add (.t 20) (.c (.one (.int .i64)) [.int 1]), none, []⟩,
    ⟨some 20, .mov (.t 46), none, []⟩] false 0))))
noncomputable def lens_printer_value_i7_l1 (E : Env) (v0 : C) (v1 : C) (v2 : Int) (v3 : Int) (v4 : C) : Option (Nat × List PV) := E.fix (stepOf E lens_printer_value_i7_c1 lens_printer_value_i7_h1 lens_printer_value_i7_o1) [.r [v0], .r [v1], .r [.int v2], .r [.int v3], .r [v4]]
noncomputable def lens_printer_value_i7_b1 (E : Env) (X : C → C → Int → Int → C → Option (Nat × List PV)) (v0 : C) (v1 : C) (v2 : Int) (v3 : Int) (v4 : C) : Option (Nat × List PV) :=
  if (decide (v3 < v2)) = true then
    (if (0 : Int) ≤ v3 ∧ v3 < (v1.rows.length : Int) then
      if v0.isDp = true then
        ((if (((at_ v0.dpRow 0).toI) == 6) = true then
          some (0, [.r [v0], .r [v1], .r [.int v2], .r [.int v3], .r [.int ((at_ v0.dpRow 0).toI)], .r [.bool (((at_ v0.dpRow 0).toI) == 6)], .r [v4], .r (rowsAt v1.rows v3.toNat)])
        else
          some (0, [.r [v0], .r [v1], .r [.int v2], .r [.int v3], .r [.int ((at_ v0.dpRow 0).toI)], .r [.bool (((at_ v0.dpRow 0).toI) == 7)], .r [v4], .r (rowsAt v1.rows v3.toNat)])).bind fun x10 =>
          if ((at_ (hd x10.2.tail.tail.tail.tail.tail) 0).toB) = true then
            (E.ic lens_printer_put_i5_n [.r [.sl ([[.str ((at_ (hd x10.2.tail.tail.tail.tail.tail.tail.tail) 0).toS)]] : List Row)], .r [at_ (hd x10.2.tail.tail.tail.tail.tail.tail) 0]]).bind fun y11 =>
              some (0, [.r [at_ (hd x10.2) 0], .r [at_ (hd x10.2.tail) 0], .r [.int ((at_ (hd x10.2.tail.tail) 0).toI)], .r [.int ((at_ (hd x10.2.tail.tail.tail) 0).toI)], .r [at_ (hd y11) 0], .r (hd x10.2.tail.tail.tail.tail.tail.tail.tail)])
          else
            if (((at_ (hd x10.2.tail.tail.tail.tail) 0).toI) == 9) = true then
              (E.pc n_lens_quote [[.str ((at_ (hd x10.2.tail.tail.tail.tail.tail.tail.tail) 0).toS)]]).bind fun y12 =>
                (E.ic lens_printer_put_i5_n [.r [.sl ([[.str ((at_ (rowsAt y12 0) 0).toS)]] : List Row)], .r [at_ (hd x10.2.tail.tail.tail.tail.tail.tail) 0]]).bind fun y13 =>
                  some (0, [.r [at_ (hd x10.2) 0], .r [at_ (hd x10.2.tail) 0], .r [.int ((at_ (hd x10.2.tail.tail) 0).toI)], .r [.int ((at_ (hd x10.2.tail.tail.tail) 0).toI)], .r [at_ (hd y13) 0], .r (hd x10.2.tail.tail.tail.tail.tail.tail.tail)])
            else
              some (0, [.r [at_ (hd x10.2) 0], .r [at_ (hd x10.2.tail) 0], .r [.int ((at_ (hd x10.2.tail.tail) 0).toI)], .r [.int ((at_ (hd x10.2.tail.tail.tail) 0).toI)], .r [at_ (hd x10.2.tail.tail.tail.tail.tail.tail) 0], .r (hd x10.2.tail.tail.tail.tail.tail.tail.tail)])).bind fun x14 =>
          (E.ic lens_printer_value_i7_n [.r [at_ (hd x14.2.tail.tail.tail.tail.tail) 1, at_ (hd x14.2.tail.tail.tail.tail.tail) 2, at_ (hd x14.2.tail.tail.tail.tail.tail) 3, at_ (hd x14.2.tail.tail.tail.tail.tail) 4], .r [at_ (hd x14.2.tail.tail.tail.tail) 0]]).bind fun y15 =>
            some (0, [.r [at_ (hd x14.2) 0], .r [at_ (hd x14.2.tail) 0], .r [.int ((at_ (hd x14.2.tail.tail) 0).toI)], .r [.int ((at_ (hd x14.2.tail.tail.tail) 0).toI)], .r [at_ (hd y15) 0]])
      else none
    else none).bind fun x16 =>
      X (at_ (hd x16.2) 0) (at_ (hd x16.2.tail) 0) ((at_ (hd x16.2.tail.tail) 0).toI) (Go.IntKind.i64.wrap (((at_ (hd x16.2.tail.tail.tail) 0).toI) + 1)) (at_ (hd x16.2.tail.tail.tail.tail) 0)
  else
    some (0, [.r [v4]])
theorem lens_printer_value_i7_s1 (E : Env) (X : List PV → Option (Nat × List PV)) (v0 : C) (v1 : C) (v2 : Int) (v3 : Int) (v4 : C) : stepOf E lens_printer_value_i7_c1 lens_printer_value_i7_h1 lens_printer_value_i7_o1 X [.r [v0], .r [v1], .r [.int v2], .r [.int v3], .r [v4]] = lens_printer_value_i7_b1 E (fun (v0 : C) (v1 : C) (v2 : Int) (v3 : Int) (v4 : C) => X [.r [v0], .r [v1], .r [.int v2], .r [.int v3], .r [v4]]) v0 v1 v2 v3 v4 := by kernel_rfl
def lens_printer_value_i7_a : AImp := { fn := 40, entry := lens_printer_value_i7_en, res := [], exit := lens_printer_value_i7_ex, body := (.seq (.region [] [⟨some 3, .boxP (.agg [.int .i64, .int .i64, .str, .sl 55]) 25 (.t 1), none, []⟩] false 0)
  (.seq (.region [] [⟨some 8, .fad 0 1 25 3 (.t 3), none, []⟩,
    ⟨some 9, .ld (.one (.int .i64)) 3 (.t 8), none, []⟩] false 0)
  (.block 0 (.seq (.region [] [⟨some 51, .icmp .eql (.t 9) (.c (.one (.int .i64)) [.int 0]), none, []⟩,
    ⟨some 50, .mov (.t 51), none, []⟩] false 0)
  (.cond (.t 50) (.region [] [⟨some 52, .mov (.t 0), none, []⟩,
    ⟨some 53, .bsl 9 (.one (.str)) 1 [.str []] [(0, (.c (.one (.str)) [.str ([117, 110, 105, 116] : List UInt8)]))], none, []⟩,
    ⟨some 54, .icall 127 26 (lens_printer_put_i5_en) (lens_printer_put_i5_ex) [0, 1] 0 none [(.t 52), (.t 53)], none, []⟩] false 0)
  (.seq (.seq (.region [] [⟨some 56, .icmp .eql (.t 9) (.c (.one (.int .i64)) [.int 1]), none, []⟩,
    ⟨some 55, .mov (.t 56), none, []⟩] false 0)
  (.join [(.normal, { slots := [(0, .ptr 0 0), (3, .d (.one (.ref 25))), (9, .d (.one (.int .i64))), (55, .d (.one (.bool)))], objs := [.cells false [.sw 1], .sarr 5 (.one (.int .u8))], m := 2 })] (.cond (.t 55) .skip
  (.seq (.region [] [⟨some 57, .icmp .eql (.t 9) (.c (.one (.int .i64)) [.int 2]), none, []⟩,
    ⟨some 55, .mov (.t 57), none, []⟩] false 0)
  (.cond (.t 55) .skip
  (.seq (.region [] [⟨some 58, .icmp .eql (.t 9) (.c (.one (.int .i64)) [.int 4]), none, []⟩,
    ⟨some 55, .mov (.t 58), none, []⟩] false 0)
  (.cond (.t 55) .skip
  (.region [] [⟨some 59, .icmp .eql (.t 9) (.c (.one (.int .i64)) [.int 11]), none, []⟩,
    ⟨some 55, .mov (.t 59), none, []⟩] false 0))))))))
  (.cond (.t 55) (.region [] [⟨some 60, .mov (.t 0), none, []⟩,
    ⟨some 61, .bld (.agg [.str, .str, .str, .str, .str, .str, .str, .str, .str, .str, .str, .str]) [.str [], .str [], .str [], .str [], .str [], .str [], .str [], .str [], .str [], .str [], .str [], .str []] [(1, 1, (.c (.one (.str)) [.str ([98, 111, 111, 108] : List UInt8)])), (2, 1, (.c (.one (.str)) [.str ([105, 110, 116] : List UInt8)])), (4, 1, (.c (.one (.str)) [.str ([100, 97, 121] : List UInt8)])), (11, 1, (.c (.one (.str)) [.str ([109, 97, 114, 107] : List UInt8)]))], none, []⟩,
    ⟨some 62, .fad 0 1 25 3 (.t 3), none, []⟩,
    ⟨some 63, .ld (.one (.int .i64)) 3 (.t 62), none, [2]⟩,
    ⟨some 64, .idxA 12 (.one (.str)) (.t 61) (.t 63), none, [1, 2, 3]⟩,
    ⟨some 65, .fad 1 1 25 3 (.t 3), none, []⟩,
    ⟨some 66, .ld (.one (.int .i64)) 3 (.t 65), none, [5]⟩,
    ⟨some 67, .call 29 [(.one (.int .i64))] [(.one (.str))] [(.t 66)], none, [5, 6]⟩,
    ⟨some 68, .bsl 9 (.one (.str)) 2 [.str []] [(0, (.t 64)), (1, (.t 67))], none, [1, 2, 3, 4, 5, 6, 7]⟩,
    ⟨some 69, .icall 127 26 (lens_printer_put_i5_en) (lens_printer_put_i5_ex) [0, 1] 0 none [(.t 60), (.t 68)], none, [0, 1, 2, 3, 4, 5, 6, 7, 8]⟩] true 0)
  (.seq (.region [] [⟨some 71, .icmp .eql (.t 9) (.c (.one (.int .i64)) [.int 3]), none, []⟩,
    ⟨some 70, .mov (.t 71), none, []⟩] false 0)
  (.cond (.t 70) (.seq (.region [] [⟨some 72, .mk 0 5 (.one (.int .u8)) [.int 0] 1 (.c (.one (.int .i64)) [.int 16]) (.c (.one (.int .i64)) [.int 16]), none, []⟩,
    ⟨some 4, .mov (.t 72), none, []⟩] false 1)
  (.seq (.seq (.region [] [⟨some 73, .mov (.t 4), none, []⟩,
    ⟨some 74, .lenL (.t 73), none, []⟩,
    ⟨some 75, .mov (.c (.one (.int .i64)) [.int 0]), none, []⟩] false 0)
  (.block 4 (.loop lens_printer_value_i7_h0 lens_printer_value_i7_o0 lens_printer_value_i7_c0)))
  (.region [] [⟨some 91, .mov (.t 0), none, []⟩,
    ⟨some 92, .mov (.t 4), none, []⟩,
    ⟨some 93, .b2s 5 (.t 92), none, []⟩,
    ⟨some 94, .bsl 9 (.one (.str)) 2 [.str []] [(0, (.c (.one (.str)) [.str ([102, 108, 111, 97, 116] : List UInt8)])), (1, (.t 93))], none, []⟩,
    ⟨some 95, .icall 127 26 (lens_printer_put_i5_en) (lens_printer_put_i5_ex) [0, 1] 0 none [(.t 91), (.t 94)], none, []⟩] false 0)))
  (.seq (.region [] [⟨some 97, .icmp .eql (.t 9) (.c (.one (.int .i64)) [.int 5]), none, []⟩,
    ⟨some 96, .mov (.t 97), none, []⟩] false 0)
  (.cond (.t 96) (.region [] [⟨some 98, .mov (.t 0), none, []⟩,
    ⟨some 99, .fad 2 1 25 9 (.t 3), none, []⟩,
    ⟨some 100, .ld (.one (.str)) 9 (.t 99), none, []⟩,
    ⟨some 101, .call 39 [(.one (.str))] [(.one (.str))] [(.t 100)], none, []⟩,
    ⟨some 102, .bsl 9 (.one (.str)) 2 [.str []] [(0, (.c (.one (.str)) [.str ([116, 101, 120, 116] : List UInt8)])), (1, (.t 101))], none, []⟩,
    ⟨some 103, .icall 127 26 (lens_printer_put_i5_en) (lens_printer_put_i5_ex) [0, 1] 0 none [(.t 98), (.t 102)], none, []⟩] false 0)
  (.seq (.region [] [⟨some 10, .mov (.t 0), none, []⟩,
    ⟨some 11, .bld (.agg [.str, .str, .str, .str, .str, .str, .str, .str, .str, .str]) [.str [], .str [], .str [], .str [], .str [], .str [], .str [], .str [], .str [], .str []] [(6, 1, (.c (.one (.str)) [.str ([114, 101, 99, 111, 114, 100] : List UInt8)])), (7, 1, (.c (.one (.str)) [.str ([99, 104, 111, 105, 99, 101] : List UInt8)])), (8, 1, (.c (.one (.str)) [.str ([108, 105, 115, 116] : List UInt8)])), (9, 1, (.c (.one (.str)) [.str ([109, 97, 112] : List UInt8)]))], none, []⟩,
    ⟨some 12, .fad 0 1 25 3 (.t 3), none, []⟩,
    ⟨some 13, .ld (.one (.int .i64)) 3 (.t 12), none, []⟩,
    ⟨some 14, .idxA 10 (.one (.str)) (.t 11) (.t 13), none, []⟩,
    ⟨some 15, .bsl 9 (.one (.str)) 2 [.str []] [(0, (.t 14)), (1, (.c (.one (.str)) [.str ([40] : List UInt8)]))], none, []⟩,
    ⟨some 16, .icall 127 26 (lens_printer_put_i5_en) (lens_printer_put_i5_ex) [0, 1] 0 none [(.t 10), (.t 15)], none, []⟩] false 0)
  (.seq (.seq (.region [] [⟨some 17, .fad 3 1 25 23 (.t 3), none, []⟩,
    ⟨some 18, .ld (.one (.sl 55)) 23 (.t 17), none, []⟩,
    ⟨some 19, .lenL (.t 18), none, []⟩,
    ⟨some 20, .mov (.c (.one (.int .i64)) [.int 0]), none, []⟩] false 0)
  (.block 1 (.loop lens_printer_value_i7_h1 lens_printer_value_i7_o1 lens_printer_value_i7_c1)))
  (.region [] [⟨some 47, .mov (.t 0), none, []⟩,
    ⟨some 48, .bsl 9 (.one (.str)) 1 [.str []] [(0, (.c (.one (.str)) [.str ([41] : List UInt8)]))], none, []⟩,
    ⟨some 49, .icall 127 26 (lens_printer_put_i5_en) (lens_printer_put_i5_ex) [0, 1] 0 none [(.t 47), (.t 48)], none, []⟩] false 0)))))))))))))) }
/-- (*clapperbridge/lens.printer).value, to which objects are handed -/
noncomputable def lens_printer_value_i7 (E : Env) (p0 : Row) (p1 : C) : Option (List PV) :=
  if (((at_ p0 0).toI) == 0) = true then
    (E.ic lens_printer_put_i5_n [.r [.sl ([[.str ([117, 110, 105, 116] : List UInt8)]] : List Row)], .r [p1]]).bind fun y1 =>
      some [.r [at_ (hd y1) 0]]
  else
    (if (((at_ p0 0).toI) == 1) = true then
      some (0, [.r [.dp p0], .r [.int ((at_ p0 0).toI)], .r [.bool (((at_ p0 0).toI) == 1)], .r [p1]])
    else
      if (((at_ p0 0).toI) == 2) = true then
        some (0, [.r [.dp p0], .r [.int ((at_ p0 0).toI)], .r [.bool (((at_ p0 0).toI) == 2)], .r [p1]])
      else
        if (((at_ p0 0).toI) == 4) = true then
          some (0, [.r [.dp p0], .r [.int ((at_ p0 0).toI)], .r [.bool (((at_ p0 0).toI) == 4)], .r [p1]])
        else
          some (0, [.r [.dp p0], .r [.int ((at_ p0 0).toI)], .r [.bool (((at_ p0 0).toI) == 11)], .r [p1]])).bind fun x2 =>
      if ((at_ (hd x2.2.tail.tail) 0).toB) = true then
        if (at_ (hd x2.2) 0).isDp = true then
          if (0 : Int) ≤ ((at_ ((at_ (hd x2.2) 0).dpRow) 0).toI) ∧ ((at_ ((at_ (hd x2.2) 0).dpRow) 0).toI) < (12 : Int) then
            if (at_ (hd x2.2) 0).isDp = true then
              (E.pc n_strconv_Itoa [[.int ((at_ ((at_ (hd x2.2) 0).dpRow) 1).toI)]]).bind fun y3 =>
                (E.ic lens_printer_put_i5_n [.r [.sl ([[.str ((at_ [.str [], .str ([98, 111, 111, 108] : List UInt8), .str ([105, 110, 116] : List UInt8), .str [], .str ([100, 97, 121] : List UInt8), .str [], .str [], .str [], .str [], .str [], .str [], .str ([109, 97, 114, 107] : List UInt8)] ((((at_ ((at_ (hd x2.2) 0).dpRow) 0).toI).toNat) * 1)).toS)], [.str ((at_ (rowsAt y3 0) 0).toS)]] : List Row)], .r [at_ (hd x2.2.tail.tail.tail) 0]]).bind fun y4 =>
                  some [.r [at_ (hd y4) 0]]
            else none
          else none
        else none
      else
        if (((at_ (hd x2.2.tail) 0).toI) == 3) = true then
          if (0 : Int) ≤ 16 ∧ 16 ≤ 16 ∧ 16 * 1 ≤ 140737488355328 ∧ 16 ≤ 1099511627776 then
            (lens_printer_value_i7_l0 E (at_ (hd x2.2) 0) ((List.replicate 16 ([.int 0] : Row)).length : Int) 0 (at_ (hd x2.2.tail.tail.tail) 0) (.sl (List.replicate 16 ([.int 0] : Row)))).bind fun x5 =>
              (E.ic lens_printer_put_i5_n [.r [.sl ([[.str ([102, 108, 111, 97, 116] : List UInt8)], [.str (bytesOf ((at_ (hd x5.2.tail) 0).rows))]] : List Row)], .r [at_ (hd x5.2) 0]]).bind fun y6 =>
                some [.r [at_ (hd y6) 0]]
          else none
        else
          if (((at_ (hd x2.2.tail) 0).toI) == 5) = true then
            if (at_ (hd x2.2) 0).isDp = true then
              (E.pc n_lens_quote [[.str ((at_ ((at_ (hd x2.2) 0).dpRow) 2).toS)]]).bind fun y7 =>
                (E.ic lens_printer_put_i5_n [.r [.sl ([[.str ([116, 101, 120, 116] : List UInt8)], [.str ((at_ (rowsAt y7 0) 0).toS)]] : List Row)], .r [at_ (hd x2.2.tail.tail.tail) 0]]).bind fun y8 =>
                  some [.r [at_ (hd y8) 0]]
            else none
          else
            if (at_ (hd x2.2) 0).isDp = true then
              if (0 : Int) ≤ ((at_ ((at_ (hd x2.2) 0).dpRow) 0).toI) ∧ ((at_ ((at_ (hd x2.2) 0).dpRow) 0).toI) < (10 : Int) then
                (E.ic lens_printer_put_i5_n [.r [.sl ([[.str ((at_ [.str [], .str [], .str [], .str [], .str [], .str [], .str ([114, 101, 99, 111, 114, 100] : List UInt8), .str ([99, 104, 111, 105, 99, 101] : List UInt8), .str ([108, 105, 115, 116] : List UInt8), .str ([109, 97, 112] : List UInt8)] ((((at_ ((at_ (hd x2.2) 0).dpRow) 0).toI).toNat) * 1)).toS)], [.str ([40] : List UInt8)]] : List Row)], .r [at_ (hd x2.2.tail.tail.tail) 0]]).bind fun y9 =>
                  if (at_ (hd x2.2) 0).isDp = true then
                    (lens_printer_value_i7_l1 E (at_ (hd x2.2) 0) (at_ ((at_ (hd x2.2) 0).dpRow) 3) (((at_ ((at_ (hd x2.2) 0).dpRow) 3).rows).length : Int) 0 (at_ (hd y9) 0)).bind fun x17 =>
                      (E.ic lens_printer_put_i5_n [.r [.sl ([[.str ([41] : List UInt8)]] : List Row)], .r [at_ (hd x17.2) 0]]).bind fun y18 =>
                        some [.r [at_ (hd y18) 0]]
                  else none
              else none
            else none
theorem lens_printer_value_i7_eq (E : Env) (p0 : Row) (p1 : C) : runI E lens_printer_value_i7_a [.r p0, .r [p1]] = lens_printer_value_i7 E p0 p1 := by kernel_rfl

def lens_printer_rest_i6_h0 : Shape := { slots := [(0, .ptr 0 0), (4, .d (.one (.ref 29))), (5, .d (.one (.ref 61))), (18, .d (.one (.sl 9))), (19, .d (.one (.int .i64))), (20, .d (.one (.int .i64)))], objs := [.cells false [.sw 1], .sarr 5 (.one (.int .u8))], m := 2 }
def lens_printer_rest_i6_o0 : List (Exit' × Shape) := [(.exit 0, { slots := [(0, .ptr 0 0), (4, .d (.one (.ref 29))), (5, .d (.one (.ref 61)))], objs := [.cells false [.sw 1], .sarr 5 (.one (.int .u8))], m := 2 })]
def lens_printer_rest_i6_c0 : ACode := (.seq (.region [] [⟨some 21, .icmp .lss (.t 20) (.t 19), none, []⟩] false 0)
  (.seq (.cond (.t 21) .skip
  (.exit 0))
  (.seq (.block 1 (.seq (.region [] [⟨some 22, .iad 9 (.one (.str)) (.t 18) (.t 20), none, []⟩,
    ⟨some 23, .ld (.one (.str)) 9 (.t 22), none, []⟩,
    ⟨some 7, .mov (.t 23), none, []⟩] false 0)
  (.seq (.region [] [⟨some 24, .fad 0 1 29 3 (.t 4), none, []⟩,
    ⟨some 25, .ld (.one (.int .i64)) 3 (.t 24), none, []⟩,
    ⟨some 26, .icmp .eql (.t 25) (.c (.one (.int .i64)) [.int 9]), none, []⟩] false 0)
  (.cond (.t 26) (.region [] [⟨some 27, .mov (.t 0), none, []⟩,
    ⟨some 28, .mov (.t 7), none, []⟩,
    ⟨some 29, .call 39 [(.one (.str))] [(.one (.str))] [(.t 28)], none, []⟩,
    ⟨some 30, .bsl 9 (.one (.str)) 1 [.str []] [(0, (.t 29))], none, []⟩,
    ⟨some 31, .icall 127 26 (lens_printer_put_i5_en) (lens_printer_put_i5_ex) [0, 1] 0 none [(.t 27), (.t 30)], none, []⟩] false 0)
  (.region [] [⟨some 32, .mov (.t 0), none, []⟩,
    ⟨some 33, .mov (.t 7), none, []⟩,
    ⟨some 34, .bsl 9 (.one (.str)) 1 [.str []] [(0, (.t 33))], none, []⟩,
    ⟨some 35, .icall 127 26 (lens_printer_put_i5_en) (lens_printer_put_i5_ex) [0, 1] 0 none [(.t 32), (.t 34)], none, []⟩] false 0)))))
  (.region [] [⟨some 36, .ibin .add (.t 20) (.c (.one (.int .i64)) [.int 1]), none, []⟩,
    ⟨some 20, .mov (.t 36), none, []⟩] false 0))))
noncomputable def lens_printer_rest_i6_l0 (E : Env) (v0 : C) (v1 : C) (v2 : C) (v3 : Int) (v4 : Int) (v5 : C) : Option (Nat × List PV) := E.fix (stepOf E lens_printer_rest_i6_c0 lens_printer_rest_i6_h0 lens_printer_rest_i6_o0) [.r [v0], .r [v1], .r [v2], .r [.int v3], .r [.int v4], .r [v5]]
noncomputable def lens_printer_rest_i6_b0 (E : Env) (X : C → C → C → Int → Int → C → Option (Nat × List PV)) (v0 : C) (v1 : C) (v2 : C) (v3 : Int) (v4 : Int) (v5 : C) : Option (Nat × List PV) :=
  if (decide (v4 < v3)) = true then
    if (0 : Int) ≤ v4 ∧ v4 < (v2.rows.length : Int) then
      if v0.isDp = true then
        if (((at_ v0.dpRow 0).toI) == 9) = true then
          (E.pc n_lens_quote [[.str ((at_ (rowsAt v2.rows v4.toNat) 0).toS)]]).bind fun y2 =>
            (E.ic lens_printer_put_i5_n [.r [.sl ([[.str ((at_ (rowsAt y2 0) 0).toS)]] : List Row)], .r [v5]]).bind fun y3 =>
              X v0 v1 v2 v3 (Go.IntKind.i64.wrap (v4 + 1)) (at_ (hd y3) 0)
        else
          (E.ic lens_printer_put_i5_n [.r [.sl ([[.str ((at_ (rowsAt v2.rows v4.toNat) 0).toS)]] : List Row)], .r [v5]]).bind fun y4 =>
            X v0 v1 v2 v3 (Go.IntKind.i64.wrap (v4 + 1)) (at_ (hd y4) 0)
      else none
    else none
  else
    some (0, [.r [v0], .r [v1], .r [v5]])
theorem lens_printer_rest_i6_s0 (E : Env) (X : List PV → Option (Nat × List PV)) (v0 : C) (v1 : C) (v2 : C) (v3 : Int) (v4 : Int) (v5 : C) : stepOf E lens_printer_rest_i6_c0 lens_printer_rest_i6_h0 lens_printer_rest_i6_o0 X [.r [v0], .r [v1], .r [v2], .r [.int v3], .r [.int v4], .r [v5]] = lens_printer_rest_i6_b0 E (fun (v0 : C) (v1 : C) (v2 : C) (v3 : Int) (v4 : Int) (v5 : C) => X [.r [v0], .r [v1], .r [v2], .r [.int v3], .r [.int v4], .r [v5]]) v0 v1 v2 v3 v4 v5 := by kernel_rfl
def lens_printer_rest_i6_h1 : Shape := { slots := [(0, .ptr 0 0), (4, .d (.one (.ref 29))), (5, .d (.one (.ref 61))), (52, .d (.one (.sl 44))), (53, .d (.one (.int .i64))), (54, .d (.one (.int .i64)))], objs := [.cells false [.sw 1], .sarr 5 (.one (.int .u8))], m := 2 }
def lens_printer_rest_i6_o1 : List (Exit' × Shape) := [(.exit 2, { slots := [(0, .ptr 0 0), (4, .d (.one (.ref 29))), (5, .d (.one (.ref 61)))], objs := [.cells false [.sw 1], .sarr 5 (.one (.int .u8))], m := 2 })]
def lens_printer_rest_i6_c1 : ACode := (.seq (.region [] [⟨some 55, .icmp .lss (.t 54) (.t 53), none, []⟩] false 0)
  (.seq (.cond (.t 55) .skip
  (.exit 2))
  (.seq (.block 3 (.seq (.region [] [⟨some 56, .iad 44 (.agg [.int .i64, .int .i64, .str, .sl 55, .int .i64, .int .i64, .str, .sl 55]) (.t 52) (.t 54), none, []⟩,
    ⟨some 57, .ld (.agg [.int .i64, .int .i64, .str, .sl 55, .int .i64, .int .i64, .str, .sl 55]) 44 (.t 56), none, []⟩,
    ⟨some 9, .allocO 0 (.agg [.int .i64, .int .i64, .str, .sl 55, .int .i64, .int .i64, .str, .sl 55]) [.int 0, .int 0, .str [], .nils, .int 0, .int 0, .str [], .nils], none, []⟩,
    ⟨none, .st (.agg [.int .i64, .int .i64, .str, .sl 55, .int .i64, .int .i64, .str, .sl 55]) (.t 9) (.t 57), none, []⟩] false 1)
  (.seq (.region [] [⟨some 58, .mov (.t 0), none, []⟩,
    ⟨some 59, .iadA 2 44 25 (.agg [.int .i64, .int .i64, .str, .sl 55]) (.t 9) (.c (.one (.int .i64)) [.int 0]), none, []⟩,
    ⟨some 60, .ld (.agg [.int .i64, .int .i64, .str, .sl 55]) 25 (.t 59), none, []⟩,
    ⟨some 61, .icall 129 40 (lens_printer_value_i7_en) (lens_printer_value_i7_ex) [0, 1] 0 none [(.t 58), (.t 60)], none, []⟩] false 0)
  (.region [] [⟨some 62, .mov (.t 0), none, []⟩,
    ⟨some 63, .iadA 2 44 25 (.agg [.int .i64, .int .i64, .str, .sl 55]) (.t 9) (.c (.one (.int .i64)) [.int 1]), none, []⟩,
    ⟨some 64, .ld (.agg [.int .i64, .int .i64, .str, .sl 55]) 25 (.t 63), none, []⟩,
    ⟨some 65, .icall 129 40 (lens_printer_value_i7_en) (lens_printer_value_i7_ex) [0, 1] 0 none [(.t 62), (.t 64)], none, []⟩] false 0))))
  (.region [] [⟨some 66, .ibin .add (.t 54) (.c (.one (.int .i64)) [.int 1]), none, []⟩,
    ⟨some 54, .mov (.t 66), none, []⟩] false 0))))
noncomputable def lens_printer_rest_i6_l1 (E : Env) (v0 : C) (v1 : C) (v2 : C) (v3 : Int) (v4 : Int) (v5 : C) : Option (Nat × List PV) := E.fix (stepOf E lens_printer_rest_i6_c1 lens_printer_rest_i6_h1 lens_printer_rest_i6_o1) [.r [v0], .r [v1], .r [v2], .r [.int v3], .r [.int v4], .r [v5]]
noncomputable def lens_printer_rest_i6_b1 (E : Env) (X : C → C → C → Int → Int → C → Option (Nat × List PV)) (v0 : C) (v1 : C) (v2 : C) (v3 : Int) (v4 : Int) (v5 : C) : Option (Nat × List PV) :=
  if (decide (v4 < v3)) = true then
    if (0 : Int) ≤ v4 ∧ v4 < (v2.rows.length : Int) then
      (E.ic lens_printer_value_i7_n [.r [at_ (rowsAt v2.rows v4.toNat) 0, at_ (rowsAt v2.rows v4.toNat) 1, at_ (rowsAt v2.rows v4.toNat) 2, at_ (rowsAt v2.rows v4.toNat) 3], .r [v5]]).bind fun y11 =>
        (E.ic lens_printer_value_i7_n [.r [at_ (rowsAt v2.rows v4.toNat) 4, at_ (rowsAt v2.rows v4.toNat) 5, at_ (rowsAt v2.rows v4.toNat) 6, at_ (rowsAt v2.rows v4.toNat) 7], .r [at_ (hd y11) 0]]).bind fun y12 =>
          X v0 v1 v2 v3 (Go.IntKind.i64.wrap (v4 + 1)) (at_ (hd y12) 0)
    else none
  else
    some (0, [.r [v0], .r [v1], .r [v5]])
theorem lens_printer_rest_i6_s1 (E : Env) (X : List PV → Option (Nat × List PV)) (v0 : C) (v1 : C) (v2 : C) (v3 : Int) (v4 : Int) (v5 : C) : stepOf E lens_printer_rest_i6_c1 lens_printer_rest_i6_h1 lens_printer_rest_i6_o1 X [.r [v0], .r [v1], .r [v2], .r [.int v3], .r [.int v4], .r [v5]] = lens_printer_rest_i6_b1 E (fun (v0 : C) (v1 : C) (v2 : C) (v3 : Int) (v4 : Int) (v5 : C) => X [.r [v0], .r [v1], .r [v2], .r [.int v3], .r [.int v4], .r [v5]]) v0 v1 v2 v3 v4 v5 := by kernel_rfl
def lens_printer_rest_i6_h2 : Shape := { slots := [(0, .ptr 0 0), (77, .d (.one (.sl 29))), (78, .d (.one (.int .i64))), (79, .d (.one (.int .i64)))], objs := [.cells false [.sw 1], .sarr 5 (.one (.int .u8))], m := 2 }
def lens_printer_rest_i6_o2 : List (Exit' × Shape) := [(.exit 4, { slots := [(0, .ptr 0 0)], objs := [.cells false [.sw 1], .sarr 5 (.one (.int .u8))], m := 2 })]
def lens_printer_rest_i6_c2 : ACode := (.seq (.region [] [⟨some 80, .icmp .lss (.t 79) (.t 78), none, []⟩] false 0)
  (.seq (.cond (.t 80) .skip
  (.exit 4))
  (.seq (.block 5 (.seq (.region [] [⟨some 81, .iad 29 (.agg [.int .i64, .str, .str, .sl 9, .int .i64, .int .i64, .int .i64, .int .u8, .int .i64, .int .i64, .str, .sl 55, .sl 44, .sl 29]) (.t 77) (.t 79), none, []⟩,
    ⟨some 82, .ld (.agg [.int .i64, .str, .str, .sl 9, .int .i64, .int .i64, .int .i64, .int .u8, .int .i64, .int .i64, .str, .sl 55, .sl 44, .sl 29]) 29 (.t 81), none, []⟩,
    ⟨some 11, .allocO 0 (.agg [.int .i64, .str, .str, .sl 9, .int .i64, .int .i64, .int .i64, .int .u8, .int .i64, .int .i64, .str, .sl 55, .sl 44, .sl 29]) [.int 0, .str [], .str [], .nils, .int 0, .int 0, .int 0, .int 0, .int 0, .int 0, .str [], .nils, .nils, .nils], none, []⟩,
    ⟨none, .st (.agg [.int .i64, .str, .str, .sl 9, .int .i64, .int .i64, .int .i64, .int .u8, .int .i64, .int .i64, .str, .sl 55, .sl 44, .sl 29]) (.t 11) (.t 82), none, []⟩] false 1)
  (.region [] [⟨some 83, .mov (.t 0), none, []⟩,
    ⟨some 84, .ld (.agg [.int .i64, .str, .str, .sl 9, .int .i64, .int .i64, .int .i64, .int .u8, .int .i64, .int .i64, .str, .sl 55, .sl 44, .sl 29]) 29 (.t 11), none, []⟩,
    ⟨some 85, .icall 126 21 (lens_printer_lens_i4_en) (lens_printer_lens_i4_ex) [0, 1] 0 none [(.t 83), (.t 84)], none, []⟩] false 0)))
  (.region [] [⟨some 86, .ibin .add (.t 79) (.c (.one (.int .i64)) [.int 1]), none, []⟩,
    ⟨some 79, .mov (.t 86), none, []⟩] false 0))))
noncomputable def lens_printer_rest_i6_l2 (E : Env) (v0 : C) (v1 : Int) (v2 : Int) (v3 : C) : Option (Nat × List PV) := E.fix (stepOf E lens_printer_rest_i6_c2 lens_printer_rest_i6_h2 lens_printer_rest_i6_o2) [.r [v0], .r [.int v1], .r [.int v2], .r [v3]]
noncomputable def lens_printer_rest_i6_b2 (E : Env) (X : C → Int → Int → C → Option (Nat × List PV)) (v0 : C) (v1 : Int) (v2 : Int) (v3 : C) : Option (Nat × List PV) :=
  if (decide (v2 < v1)) = true then
    if (0 : Int) ≤ v2 ∧ v2 < (v0.rows.length : Int) then
      (E.ic lens_printer_lens_i4_n [.r (rowsAt v0.rows v2.toNat), .r [v3]]).bind fun y17 =>
        X v0 v1 (Go.IntKind.i64.wrap (v2 + 1)) (at_ (hd y17) 0)
    else none
  else
    some (0, [.r [v3]])
theorem lens_printer_rest_i6_s2 (E : Env) (X : List PV → Option (Nat × List PV)) (v0 : C) (v1 : Int) (v2 : Int) (v3 : C) : stepOf E lens_printer_rest_i6_c2 lens_printer_rest_i6_h2 lens_printer_rest_i6_o2 X [.r [v0], .r [.int v1], .r [.int v2], .r [v3]] = lens_printer_rest_i6_b2 E (fun (v0 : C) (v1 : Int) (v2 : Int) (v3 : C) => X [.r [v0], .r [.int v1], .r [.int v2], .r [v3]]) v0 v1 v2 v3 := by kernel_rfl
def lens_printer_rest_i6_a : AImp := { fn := 30, entry := lens_printer_rest_i6_en, res := [], exit := lens_printer_rest_i6_ex, body := (.seq (.region [] [⟨some 4, .boxP (.agg [.int .i64, .str, .str, .sl 9, .int .i64, .int .i64, .int .i64, .int .u8, .int .i64, .int .i64, .str, .sl 55, .sl 44, .sl 29]) 29 (.t 1), none, []⟩,
    ⟨some 5, .boxP (.agg [.bool, .bool, .bool, .bool, .bool, .bool, .bool, .bool, .int .i64]) 61 (.t 2), none, []⟩] false 0)
  (.seq (.seq (.region [] [⟨some 12, .fad 2 1 61 4 (.t 5), none, []⟩,
    ⟨some 13, .ld (.one (.bool)) 4 (.t 12), none, []⟩] false 0)
  (.join [(.normal, { slots := [(0, .ptr 0 0), (4, .d (.one (.ref 29))), (5, .d (.one (.ref 61)))], objs := [.cells false [.sw 1], .sarr 5 (.one (.int .u8))], m := 2 })] (.cond (.t 13) (.seq (.region [] [⟨some 14, .mov (.t 0), none, []⟩,
    ⟨some 15, .bsl 9 (.one (.str)) 1 [.str []] [(0, (.c (.one (.str)) [.str ([40] : List UInt8)]))], none, []⟩,
    ⟨some 16, .icall 127 26 (lens_printer_put_i5_en) (lens_printer_put_i5_ex) [0, 1] 0 none [(.t 14), (.t 15)], none, []⟩] false 0)
  (.seq (.seq (.region [] [⟨some 17, .fad 3 1 29 22 (.t 4), none, []⟩,
    ⟨some 18, .ld (.one (.sl 9)) 22 (.t 17), none, []⟩,
    ⟨some 19, .lenL (.t 18), none, []⟩,
    ⟨some 20, .mov (.c (.one (.int .i64)) [.int 0]), none, []⟩] false 0)
  (.block 0 (.loop lens_printer_rest_i6_h0 lens_printer_rest_i6_o0 lens_printer_rest_i6_c0)))
  (.region [] [⟨some 37, .mov (.t 0), none, []⟩,
    ⟨some 38, .bsl 9 (.one (.str)) 1 [.str []] [(0, (.c (.one (.str)) [.str ([41] : List UInt8)]))], none, []⟩,
    ⟨some 39, .icall 127 26 (lens_printer_put_i5_en) (lens_printer_put_i5_ex) [0, 1] 0 none [(.t 37), (.t 38)], none, []⟩] false 0)))
  .skip)))
  (.seq (.seq (.region [] [⟨some 40, .fad 6 1 61 4 (.t 5), none, []⟩,
    ⟨some 41, .ld (.one (.bool)) 4 (.t 40), none, []⟩] false 0)
  (.join [(.normal, { slots := [(0, .ptr 0 0), (4, .d (.one (.ref 29))), (5, .d (.one (.ref 61)))], objs := [.cells false [.sw 1], .sarr 5 (.one (.int .u8))], m := 2 })] (.cond (.t 41) (.region [] [⟨some 42, .mov (.t 0), none, []⟩,
    ⟨some 43, .fad 8 4 29 25 (.t 4), none, []⟩,
    ⟨some 44, .ld (.agg [.int .i64, .int .i64, .str, .sl 55]) 25 (.t 43), none, []⟩,
    ⟨some 45, .icall 129 40 (lens_printer_value_i7_en) (lens_printer_value_i7_ex) [0, 1] 0 none [(.t 42), (.t 44)], none, []⟩] false 0)
  .skip)))
  (.seq (.seq (.region [] [⟨some 46, .fad 7 1 61 4 (.t 5), none, []⟩,
    ⟨some 47, .ld (.one (.bool)) 4 (.t 46), none, []⟩] false 0)
  (.join [(.normal, { slots := [(0, .ptr 0 0), (4, .d (.one (.ref 29))), (5, .d (.one (.ref 61)))], objs := [.cells false [.sw 1], .sarr 5 (.one (.int .u8))], m := 2 })] (.cond (.t 47) (.seq (.region [] [⟨some 48, .mov (.t 0), none, []⟩,
    ⟨some 49, .bsl 9 (.one (.str)) 1 [.str []] [(0, (.c (.one (.str)) [.str ([40] : List UInt8)]))], none, []⟩,
    ⟨some 50, .icall 127 26 (lens_printer_put_i5_en) (lens_printer_put_i5_ex) [0, 1] 0 none [(.t 48), (.t 49)], none, []⟩] false 0)
  (.seq (.seq (.region [] [⟨some 51, .fad 12 1 29 26 (.t 4), none, []⟩,
    ⟨some 52, .ld (.one (.sl 44)) 26 (.t 51), none, []⟩,
    ⟨some 53, .lenL (.t 52), none, []⟩,
    ⟨some 54, .mov (.c (.one (.int .i64)) [.int 0]), none, []⟩] false 0)
  (.block 2 (.loop lens_printer_rest_i6_h1 lens_printer_rest_i6_o1 lens_printer_rest_i6_c1)))
  (.region [] [⟨some 67, .mov (.t 0), none, []⟩,
    ⟨some 68, .bsl 9 (.one (.str)) 1 [.str []] [(0, (.c (.one (.str)) [.str ([41] : List UInt8)]))], none, []⟩,
    ⟨some 69, .icall 127 26 (lens_printer_put_i5_en) (lens_printer_put_i5_ex) [0, 1] 0 none [(.t 67), (.t 68)], none, []⟩] false 0)))
  .skip)))
  (.seq (.region [] [⟨some 70, .fad 8 1 61 3 (.t 5), none, []⟩,
    ⟨some 71, .ld (.one (.int .i64)) 3 (.t 70), none, []⟩,
    ⟨some 72, .icmp .neq (.t 71) (.c (.one (.int .i64)) [.int 0]), none, []⟩] false 0)
  (.cond (.t 72) (.seq (.region [] [⟨some 73, .mov (.t 0), none, []⟩,
    ⟨some 74, .bsl 9 (.one (.str)) 1 [.str []] [(0, (.c (.one (.str)) [.str ([40] : List UInt8)]))], none, []⟩,
    ⟨some 75, .icall 127 26 (lens_printer_put_i5_en) (lens_printer_put_i5_ex) [0, 1] 0 none [(.t 73), (.t 74)], none, []⟩] false 0)
  (.seq (.seq (.region [] [⟨some 76, .fad 13 1 29 27 (.t 4), none, []⟩,
    ⟨some 77, .ld (.one (.sl 29)) 27 (.t 76), none, []⟩,
    ⟨some 78, .lenL (.t 77), none, []⟩,
    ⟨some 79, .mov (.c (.one (.int .i64)) [.int 0]), none, []⟩] false 0)
  (.block 4 (.loop lens_printer_rest_i6_h2 lens_printer_rest_i6_o2 lens_printer_rest_i6_c2)))
  (.region [] [⟨some 87, .mov (.t 0), none, []⟩,
    ⟨some 88, .bsl 9 (.one (.str)) 1 [.str []] [(0, (.c (.one (.str)) [.str ([41] : List UInt8)]))], none, []⟩,
    ⟨some 89, .icall 127 26 (lens_printer_put_i5_en) (lens_printer_put_i5_ex) [0, 1] 0 none [(.t 87), (.t 88)], none, []⟩] false 0)))
  .skip)))))) }
/-- (*clapperbridge/lens.printer).rest, to which objects are handed -/
noncomputable def lens_printer_rest_i6 (E : Env) (p0 : Row) (p1 : Row) (p2 : C) : Option (List PV) :=
  (if ((at_ p1 2).toB) = true then
    (E.ic lens_printer_put_i5_n [.r [.sl ([[.str ([40] : List UInt8)]] : List Row)], .r [p2]]).bind fun y1 =>
      (lens_printer_rest_i6_l0 E (.dp p0) (.dp p1) (at_ p0 3) (((at_ p0 3).rows).length : Int) 0 (at_ (hd y1) 0)).bind fun x5 =>
        (E.ic lens_printer_put_i5_n [.r [.sl ([[.str ([41] : List UInt8)]] : List Row)], .r [at_ (hd x5.2.tail.tail) 0]]).bind fun y6 =>
          some (0, [.r [at_ (hd x5.2) 0], .r [at_ (hd x5.2.tail) 0], .r [at_ (hd y6) 0]])
  else
    some (0, [.r [.dp p0], .r [.dp p1], .r [p2]])).bind fun x7 =>
    if (at_ (hd x7.2.tail) 0).isDp = true then
      (if ((at_ ((at_ (hd x7.2.tail) 0).dpRow) 6).toB) = true then
        if (at_ (hd x7.2) 0).isDp = true then
          (E.ic lens_printer_value_i7_n [.r [at_ ((at_ (hd x7.2) 0).dpRow) 8, at_ ((at_ (hd x7.2) 0).dpRow) 9, at_ ((at_ (hd x7.2) 0).dpRow) 10, at_ ((at_ (hd x7.2) 0).dpRow) 11], .r [at_ (hd x7.2.tail.tail) 0]]).bind fun y8 =>
            some (0, [.r [at_ (hd x7.2) 0], .r [at_ (hd x7.2.tail) 0], .r [at_ (hd y8) 0]])
        else none
      else
        some (0, [.r [at_ (hd x7.2) 0], .r [at_ (hd x7.2.tail) 0], .r [at_ (hd x7.2.tail.tail) 0]])).bind fun x9 =>
        if (at_ (hd x9.2.tail) 0).isDp = true then
          (if ((at_ ((at_ (hd x9.2.tail) 0).dpRow) 7).toB) = true then
            (E.ic lens_printer_put_i5_n [.r [.sl ([[.str ([40] : List UInt8)]] : List Row)], .r [at_ (hd x9.2.tail.tail) 0]]).bind fun y10 =>
              if (at_ (hd x9.2) 0).isDp = true then
                (lens_printer_rest_i6_l1 E (at_ (hd x9.2) 0) (at_ (hd x9.2.tail) 0) (at_ ((at_ (hd x9.2) 0).dpRow) 12) (((at_ ((at_ (hd x9.2) 0).dpRow) 12).rows).length : Int) 0 (at_ (hd y10) 0)).bind fun x13 =>
                  (E.ic lens_printer_put_i5_n [.r [.sl ([[.str ([41] : List UInt8)]] : List Row)], .r [at_ (hd x13.2.tail.tail) 0]]).bind fun y14 =>
                    some (0, [.r [at_ (hd x13.2) 0], .r [at_ (hd x13.2.tail) 0], .r [at_ (hd y14) 0]])
              else none
          else
            some (0, [.r [at_ (hd x9.2) 0], .r [at_ (hd x9.2.tail) 0], .r [at_ (hd x9.2.tail.tail) 0]])).bind fun x15 =>
            if (at_ (hd x15.2.tail) 0).isDp = true then
              if (((at_ ((at_ (hd x15.2.tail) 0).dpRow) 8).toI) != 0) = true then
                (E.ic lens_printer_put_i5_n [.r [.sl ([[.str ([40] : List UInt8)]] : List Row)], .r [at_ (hd x15.2.tail.tail) 0]]).bind fun y16 =>
                  if (at_ (hd x15.2) 0).isDp = true then
                    (lens_printer_rest_i6_l2 E (at_ ((at_ (hd x15.2) 0).dpRow) 13) (((at_ ((at_ (hd x15.2) 0).dpRow) 13).rows).length : Int) 0 (at_ (hd y16) 0)).bind fun x18 =>
                      (E.ic lens_printer_put_i5_n [.r [.sl ([[.str ([41] : List UInt8)]] : List Row)], .r [at_ (hd x18.2) 0]]).bind fun y19 =>
                        some [.r [at_ (hd y19) 0]]
                  else none
              else
                some [.r [at_ (hd x15.2.tail.tail) 0]]
            else none
        else none
    else none
theorem lens_printer_rest_i6_eq (E : Env) (p0 : Row) (p1 : Row) (p2 : C) : runI E lens_printer_rest_i6_a [.r p0, .r p1, .r [p2]] = lens_printer_rest_i6 E p0 p1 p2 := by kernel_rfl

def lens_printer_lens_i4_a : AImp := { fn := 21, entry := lens_printer_lens_i4_en, res := [], exit := lens_printer_lens_i4_ex, body := (.seq (.region [] [⟨some 3, .boxP (.agg [.int .i64, .str, .str, .sl 9, .int .i64, .int .i64, .int .i64, .int .u8, .int .i64, .int .i64, .str, .sl 55, .sl 44, .sl 29]) 29 (.t 1), none, []⟩] false 0)
  (.seq (.region [] [⟨some 5, .mov (.t 0), none, []⟩,
    ⟨some 6, .fad 0 1 29 3 (.t 3), none, []⟩,
    ⟨some 7, .ld (.one (.int .i64)) 3 (.t 6), none, []⟩,
    ⟨some 8, .call 27 [(.one (.int .i64))] [(.one (.str))] [(.t 7)], none, []⟩,
    ⟨some 9, .bsl 9 (.one (.str)) 1 [.str []] [(0, (.t 8))], none, []⟩,
    ⟨some 10, .icall 127 26 (lens_printer_put_i5_en) (lens_printer_put_i5_ex) [0, 1] 0 none [(.t 5), (.t 9)], none, []⟩] false 0)
  (.seq (.region [] [⟨some 11, .fad 0 1 29 3 (.t 3), none, []⟩,
    ⟨some 12, .ld (.one (.int .i64)) 3 (.t 11), none, []⟩,
    ⟨some 13, .call 28 [(.one (.int .i64))] [(.agg [.bool, .bool, .bool, .bool, .bool, .bool, .bool, .bool, .int .i64])] [(.t 12)], none, []⟩,
    ⟨some 4, .allocO 0 (.agg [.bool, .bool, .bool, .bool, .bool, .bool, .bool, .bool, .int .i64]) [.bool false, .bool false, .bool false, .bool false, .bool false, .bool false, .bool false, .bool false, .int 0], none, []⟩,
    ⟨none, .st (.agg [.bool, .bool, .bool, .bool, .bool, .bool, .bool, .bool, .int .i64]) (.t 4) (.t 13), none, []⟩] false 1)
  (.seq (.seq (.region [] [⟨some 14, .fad 0 1 61 4 (.t 4), none, []⟩,
    ⟨some 15, .ld (.one (.bool)) 4 (.t 14), none, []⟩] false 0)
  (.join [(.normal, { slots := [(0, .ptr 0 0), (3, .d (.one (.ref 29))), (4, .ptr 2 0)], objs := [.cells false [.sw 1], .sarr 5 (.one (.int .u8)), .var (.agg [.bool, .bool, .bool, .bool, .bool, .bool, .bool, .bool, .int .i64])], m := 2 })] (.cond (.t 15) (.seq (.region [] [⟨some 16, .fad 1 1 29 9 (.t 3), none, []⟩,
    ⟨some 17, .ld (.one (.str)) 9 (.t 16), none, []⟩,
    ⟨some 18, .scmp .eql (.t 17) (.c (.one (.str)) [.str ([] : List UInt8)]), none, []⟩] false 0)
  (.cond (.t 18) (.region [] [⟨some 19, .mov (.t 0), none, []⟩,
    ⟨some 20, .bsl 9 (.one (.str)) 1 [.str []] [(0, (.c (.one (.str)) [.str ([45] : List UInt8)]))], none, []⟩,
    ⟨some 21, .icall 127 26 (lens_printer_put_i5_en) (lens_printer_put_i5_ex) [0, 1] 0 none [(.t 19), (.t 20)], none, []⟩] false 0)
  (.region [] [⟨some 22, .mov (.t 0), none, []⟩,
    ⟨some 23, .fad 1 1 29 9 (.t 3), none, []⟩,
    ⟨some 24, .ld (.one (.str)) 9 (.t 23), none, []⟩,
    ⟨some 25, .bsl 9 (.one (.str)) 1 [.str []] [(0, (.t 24))], none, []⟩,
    ⟨some 26, .icall 127 26 (lens_printer_put_i5_en) (lens_printer_put_i5_ex) [0, 1] 0 none [(.t 22), (.t 25)], none, []⟩] false 0)))
  .skip)))
  (.seq (.seq (.region [] [⟨some 27, .fad 1 1 61 4 (.t 4), none, []⟩,
    ⟨some 28, .ld (.one (.bool)) 4 (.t 27), none, []⟩] false 0)
  (.join [(.normal, { slots := [(0, .ptr 0 0), (3, .d (.one (.ref 29))), (4, .ptr 2 0)], objs := [.cells false [.sw 1], .sarr 5 (.one (.int .u8)), .var (.agg [.bool, .bool, .bool, .bool, .bool, .bool, .bool, .bool, .int .i64])], m := 2 })] (.cond (.t 28) (.region [] [⟨some 29, .mov (.t 0), none, []⟩,
    ⟨some 30, .fad 2 1 29 9 (.t 3), none, []⟩,
    ⟨some 31, .ld (.one (.str)) 9 (.t 30), none, []⟩,
    ⟨some 32, .bsl 9 (.one (.str)) 1 [.str []] [(0, (.t 31))], none, []⟩,
    ⟨some 33, .icall 127 26 (lens_printer_put_i5_en) (lens_printer_put_i5_ex) [0, 1] 0 none [(.t 29), (.t 32)], none, []⟩] false 0)
  .skip)))
  (.seq (.seq (.region [] [⟨some 34, .fad 3 1 61 4 (.t 4), none, []⟩,
    ⟨some 35, .ld (.one (.bool)) 4 (.t 34), none, []⟩] false 0)
  (.join [(.normal, { slots := [(0, .ptr 0 0), (3, .d (.one (.ref 29))), (4, .ptr 2 0)], objs := [.cells false [.sw 1], .sarr 5 (.one (.int .u8)), .var (.agg [.bool, .bool, .bool, .bool, .bool, .bool, .bool, .bool, .int .i64])], m := 2 })] (.cond (.t 35) (.region [] [⟨some 36, .mov (.t 0), none, []⟩,
    ⟨some 37, .fad 4 1 29 3 (.t 3), none, []⟩,
    ⟨some 38, .ld (.one (.int .i64)) 3 (.t 37), none, []⟩,
    ⟨some 39, .call 29 [(.one (.int .i64))] [(.one (.str))] [(.t 38)], none, []⟩,
    ⟨some 40, .bsl 9 (.one (.str)) 1 [.str []] [(0, (.t 39))], none, []⟩,
    ⟨some 41, .icall 127 26 (lens_printer_put_i5_en) (lens_printer_put_i5_ex) [0, 1] 0 none [(.t 36), (.t 40)], none, []⟩] false 0)
  .skip)))
  (.seq (.seq (.region [] [⟨some 42, .fad 4 1 61 4 (.t 4), none, []⟩,
    ⟨some 43, .ld (.one (.bool)) 4 (.t 42), none, []⟩] false 0)
  (.join [(.normal, { slots := [(0, .ptr 0 0), (3, .d (.one (.ref 29))), (4, .ptr 2 0)], objs := [.cells false [.sw 1], .sarr 5 (.one (.int .u8)), .var (.agg [.bool, .bool, .bool, .bool, .bool, .bool, .bool, .bool, .int .i64])], m := 2 })] (.cond (.t 43) (.region [] [⟨some 44, .mov (.t 0), none, []⟩,
    ⟨some 45, .fad 5 1 29 3 (.t 3), none, []⟩,
    ⟨some 46, .ld (.one (.int .i64)) 3 (.t 45), none, [1]⟩,
    ⟨some 47, .call 29 [(.one (.int .i64))] [(.one (.str))] [(.t 46)], none, [1, 2]⟩,
    ⟨some 48, .fad 6 1 29 3 (.t 3), none, []⟩,
    ⟨some 49, .ld (.one (.int .i64)) 3 (.t 48), none, [4]⟩,
    ⟨some 50, .call 29 [(.one (.int .i64))] [(.one (.str))] [(.t 49)], none, [1, 2, 3, 4, 5]⟩,
    ⟨some 51, .bsl 9 (.one (.str)) 2 [.str []] [(0, (.t 47)), (1, (.t 50))], none, [1, 2, 3, 4, 5, 6]⟩,
    ⟨some 52, .icall 127 26 (lens_printer_put_i5_en) (lens_printer_put_i5_ex) [0, 1] 0 none [(.t 44), (.t 51)], none, [0, 1, 2, 3, 4, 5, 6, 7]⟩] true 0)
  .skip)))
  (.seq (.seq (.region [] [⟨some 53, .fad 5 1 61 4 (.t 4), none, []⟩,
    ⟨some 54, .ld (.one (.bool)) 4 (.t 53), none, []⟩] false 0)
  (.cond (.t 54) (.region [] [⟨some 55, .mov (.t 0), none, []⟩,
    ⟨some 56, .fad 7 1 29 5 (.t 3), none, []⟩,
    ⟨some 57, .ld (.one (.int .u8)) 5 (.t 56), none, []⟩,
    ⟨some 58, .i2i .i64 (.t 57), none, []⟩,
    ⟨some 59, .call 29 [(.one (.int .i64))] [(.one (.str))] [(.t 58)], none, []⟩,
    ⟨some 60, .bsl 9 (.one (.str)) 1 [.str []] [(0, (.t 59))], none, []⟩,
    ⟨some 61, .icall 127 26 (lens_printer_put_i5_en) (lens_printer_put_i5_ex) [0, 1] 0 none [(.t 55), (.t 60)], none, []⟩] false 0)
  .skip))
  (.region [] [⟨some 62, .mov (.t 0), none, []⟩,
    ⟨some 63, .ld (.agg [.int .i64, .str, .str, .sl 9, .int .i64, .int .i64, .int .i64, .int .u8, .int .i64, .int .i64, .str, .sl 55, .sl 44, .sl 29]) 29 (.t 3), none, []⟩,
    ⟨some 64, .ld (.agg [.bool, .bool, .bool, .bool, .bool, .bool, .bool, .bool, .int .i64]) 61 (.t 4), none, []⟩,
    ⟨some 65, .icall 128 30 (lens_printer_rest_i6_en) (lens_printer_rest_i6_ex) [0, 1] 0 none [(.t 62), (.t 63), (.t 64)], none, []⟩] false 0))))))))) }
/-- (*clapperbridge/lens.printer).lens, to which objects are handed -/
noncomputable def lens_printer_lens_i4 (E : Env) (p0 : Row) (p1 : C) : Option (List PV) :=
  (E.pc n_lens_word [[.int ((at_ p0 0).toI)]]).bind fun y1 =>
    (E.ic lens_printer_put_i5_n [.r [.sl ([[.str ((at_ (rowsAt y1 0) 0).toS)]] : List Row)], .r [p1]]).bind fun y2 =>
      (E.pc n_lens_table [[.int ((at_ p0 0).toI)]]).bind fun y3 =>
        (if ((at_ (rowsAt y3 0) 0).toB) = true then
          if (((at_ p0 1).toS) == ([] : List UInt8)) = true then
            (E.ic lens_printer_put_i5_n [.r [.sl ([[.str ([45] : List UInt8)]] : List Row)], .r [at_ (hd y2) 0]]).bind fun y4 =>
              some (0, [.r [.dp p0], .r [at_ (hd y4) 0], .r (rowsAt y3 0)])
          else
            (E.ic lens_printer_put_i5_n [.r [.sl ([[.str ((at_ p0 1).toS)]] : List Row)], .r [at_ (hd y2) 0]]).bind fun y5 =>
              some (0, [.r [.dp p0], .r [at_ (hd y5) 0], .r (rowsAt y3 0)])
        else
          some (0, [.r [.dp p0], .r [at_ (hd y2) 0], .r (rowsAt y3 0)])).bind fun x6 =>
          (if ((at_ (hd x6.2.tail.tail) 1).toB) = true then
            if (at_ (hd x6.2) 0).isDp = true then
              (E.ic lens_printer_put_i5_n [.r [.sl ([[.str ((at_ ((at_ (hd x6.2) 0).dpRow) 2).toS)]] : List Row)], .r [at_ (hd x6.2.tail) 0]]).bind fun y7 =>
                some (0, [.r [at_ (hd x6.2) 0], .r [at_ (hd y7) 0], .r (hd x6.2.tail.tail)])
            else none
          else
            some (0, [.r [at_ (hd x6.2) 0], .r [at_ (hd x6.2.tail) 0], .r (hd x6.2.tail.tail)])).bind fun x8 =>
            (if ((at_ (hd x8.2.tail.tail) 3).toB) = true then
              if (at_ (hd x8.2) 0).isDp = true then
                (E.pc n_strconv_Itoa [[.int ((at_ ((at_ (hd x8.2) 0).dpRow) 4).toI)]]).bind fun y9 =>
                  (E.ic lens_printer_put_i5_n [.r [.sl ([[.str ((at_ (rowsAt y9 0) 0).toS)]] : List Row)], .r [at_ (hd x8.2.tail) 0]]).bind fun y10 =>
                    some (0, [.r [at_ (hd x8.2) 0], .r [at_ (hd y10) 0], .r (hd x8.2.tail.tail)])
              else none
            else
              some (0, [.r [at_ (hd x8.2) 0], .r [at_ (hd x8.2.tail) 0], .r (hd x8.2.tail.tail)])).bind fun x11 =>
              (if ((at_ (hd x11.2.tail.tail) 4).toB) = true then
                if (at_ (hd x11.2) 0).isDp = true then
                  (E.pc n_strconv_Itoa [[.int ((at_ ((at_ (hd x11.2) 0).dpRow) 5).toI)]]).bind fun y12 =>
                    if (at_ (hd x11.2) 0).isDp = true then
                      (E.pc n_strconv_Itoa [[.int ((at_ ((at_ (hd x11.2) 0).dpRow) 6).toI)]]).bind fun y13 =>
                        (E.ic lens_printer_put_i5_n [.r [.sl ([[.str ((at_ (rowsAt y12 0) 0).toS)], [.str ((at_ (rowsAt y13 0) 0).toS)]] : List Row)], .r [at_ (hd x11.2.tail) 0]]).bind fun y14 =>
                          some (0, [.r [at_ (hd x11.2) 0], .r [at_ (hd y14) 0], .r (hd x11.2.tail.tail)])
                    else none
                else none
              else
                some (0, [.r [at_ (hd x11.2) 0], .r [at_ (hd x11.2.tail) 0], .r (hd x11.2.tail.tail)])).bind fun x15 =>
                if ((at_ (hd x15.2.tail.tail) 5).toB) = true then
                  if (at_ (hd x15.2) 0).isDp = true then
                    (E.pc n_strconv_Itoa [[.int (Go.IntKind.i64.wrap ((at_ ((at_ (hd x15.2) 0).dpRow) 7).toI))]]).bind fun y16 =>
                      (E.ic lens_printer_put_i5_n [.r [.sl ([[.str ((at_ (rowsAt y16 0) 0).toS)]] : List Row)], .r [at_ (hd x15.2.tail) 0]]).bind fun y17 =>
                        if (at_ (hd x15.2) 0).isDp = true then
                          (E.ic lens_printer_rest_i6_n [.r ((at_ (hd x15.2) 0).dpRow), .r (hd x15.2.tail.tail), .r [at_ (hd y17) 0]]).bind fun y18 =>
                            some [.r [at_ (hd y18) 0]]
                        else none
                  else none
                else
                  if (at_ (hd x15.2) 0).isDp = true then
                    (E.ic lens_printer_rest_i6_n [.r ((at_ (hd x15.2) 0).dpRow), .r (hd x15.2.tail.tail), .r [at_ (hd x15.2.tail) 0]]).bind fun y19 =>
                      some [.r [at_ (hd y19) 0]]
                  else none
theorem lens_printer_lens_i4_eq (E : Env) (p0 : Row) (p1 : C) : runI E lens_printer_lens_i4_a [.r p0, .r [p1]] = lens_printer_lens_i4 E p0 p1 := by kernel_rfl

def lens_Text_a : AFun := { ps := [(.agg [.int .i64, .str, .str, .sl 9, .int .i64, .int .i64, .int .i64, .int .u8, .int .i64, .int .i64, .str, .sl 55, .sl 44, .sl 29])], rs := [(.one (.str)), (.one (.int .i64))], res := [(false, 2, none), (false, 3, none)], body := (.seq (.region [] [⟨some 1, .boxP (.agg [.int .i64, .str, .str, .sl 9, .int .i64, .int .i64, .int .i64, .int .u8, .int .i64, .int .i64, .str, .sl 55, .sl 44, .sl 29]) 29 (.t 0), none, []⟩,
    ⟨some 2, .mov (.c (.one (.str)) [.str ([] : List UInt8)]), none, []⟩,
    ⟨some 3, .mov (.c (.one (.int .i64)) [.int 0]), none, []⟩] false 0)
  (.seq (.seq (.region [] [⟨some 6, .ld (.agg [.int .i64, .str, .str, .sl 9, .int .i64, .int .i64, .int .i64, .int .u8, .int .i64, .int .i64, .str, .sl 55, .sl 44, .sl 29]) 29 (.t 1), none, []⟩,
    ⟨some 7, .call 12 [(.agg [.int .i64, .str, .str, .sl 9, .int .i64, .int .i64, .int .i64, .int .u8, .int .i64, .int .i64, .str, .sl 55, .sl 44, .sl 29])] [(.one (.int .i64))] [(.t 6)], none, []⟩,
    ⟨some 4, .mov (.t 7), none, []⟩] false 0)
  (.seq (.region [] [⟨some 8, .mov (.t 4), none, []⟩,
    ⟨some 9, .icmp .neq (.t 8) (.c (.one (.int .i64)) [.int 0]), none, []⟩] false 0)
  (.cond (.t 9) (.seq (.region [] [⟨some 10, .mov (.t 4), none, []⟩,
    ⟨some 2, .mov (.c (.one (.str)) [.str ([] : List UInt8)]), none, []⟩,
    ⟨some 3, .mov (.t 10), none, []⟩] false 0)
  .ret)
  .skip)))
  (.seq (.post (.lft 5 (some 0) 5 (.one (.int .u8))) (.region [] [⟨some 5, .allocA 0 [some ((.sl 5), .nils)], none, []⟩] false 1))
  (.seq (.region [] [⟨some 11, .ld (.agg [.int .i64, .str, .str, .sl 9, .int .i64, .int .i64, .int .i64, .int .u8, .int .i64, .int .i64, .str, .sl 55, .sl 44, .sl 29]) 29 (.t 1), none, []⟩,
    ⟨some 12, .icall 126 21 (lens_printer_lens_i4_en) (lens_printer_lens_i4_ex) [0, 1] 0 none [(.t 5), (.t 11)], none, []⟩] false 0)
  (.seq (.seq (.region [] [⟨some 13, .fad 0 1 51 49 (.t 5), none, []⟩,
    ⟨some 14, .ldC (.t 13), none, []⟩,
    ⟨some 15, .lenL (.t 14), none, []⟩,
    ⟨some 16, .icmp .gtr (.t 15) (.c (.one (.int .i64)) [.int 4000]), none, []⟩] false 0)
  (.cond (.t 16) (.seq (.region [] [⟨some 2, .mov (.c (.one (.str)) [.str ([] : List UInt8)]), none, []⟩,
    ⟨some 3, .mov (.c (.one (.int .i64)) [.int 2]), none, []⟩] false 0)
  .ret)
  .skip))
  (.seq (.region [] [⟨some 17, .fad 0 1 51 49 (.t 5), none, []⟩,
    ⟨some 18, .ldC (.t 17), none, []⟩,
    ⟨some 19, .b2s 5 (.t 18), none, []⟩,
    ⟨some 2, .mov (.t 19), none, []⟩,
    ⟨some 3, .mov (.c (.one (.int .i64)) [.int 0]), none, []⟩] false 0)
  .ret)))))) }
/-- clapperbridge/lens.Text -/
noncomputable def lens_Text (E : Env) (p0 : Row) : Option (List Row) :=
  (E.pc n_lens_Check [p0]).bind fun y1 =>
    if (((at_ (rowsAt y1 0) 0).toI) != 0) = true then
      some [[.str ([] : List UInt8)], [.int ((at_ (rowsAt y1 0) 0).toI)]]
    else
      (E.ic lens_printer_lens_i4_n [.r p0, .r [.nils]]).bind fun y2 =>
        if (decide ((((at_ (hd y2) 0).rows).length : Int) > 4000)) = true then
          some [[.str ([] : List UInt8)], [.int 2]]
        else
          some [[.str (bytesOf ((at_ (hd y2) 0).rows))], [.int 0]]
theorem lens_Text_eq (E : Env) (p0 : Row) : runP E lens_Text_a [p0] = lens_Text E p0 := by kernel_rfl

def claplaw3_formed_a : AFun := { ps := [], rs := [(.one (.bool))], res := [(false, 0, none)], body := (.seq (.region [] [⟨some 0, .mov (.c (.one (.bool)) [.bool false]), none, []⟩] false 0)
  (.seq (.region [] [⟨some 4, .call 6 [] [(.agg [.int .i64, .str, .str, .sl 9, .int .i64, .int .i64, .int .i64, .int .u8, .int .i64, .int .i64, .str, .sl 55, .sl 44, .sl 29])] [], none, []⟩,
    ⟨some 5, .call 10 [(.agg [.int .i64, .str, .str, .sl 9, .int .i64, .int .i64, .int .i64, .int .u8, .int .i64, .int .i64, .str, .sl 55, .sl 44, .sl 29])] [(.one (.str)), (.one (.int .i64))] [(.t 4)], none, []⟩,
    ⟨some 3, .mov (.t 5), none, []⟩,
    ⟨some 6, .ext 0 (.t 3), none, []⟩,
    ⟨some 7, .ext 1 (.t 3), none, []⟩,
    ⟨some 1, .mov (.t 6), none, []⟩,
    ⟨some 2, .mov (.t 7), none, []⟩] false 0)
  (.seq (.region [] [⟨some 8, .call 6 [] [(.agg [.int .i64, .str, .str, .sl 9, .int .i64, .int .i64, .int .i64, .int .u8, .int .i64, .int .i64, .str, .sl 55, .sl 44, .sl 29])] [], none, []⟩,
    ⟨some 9, .call 11 [(.agg [.int .i64, .str, .str, .sl 9, .int .i64, .int .i64, .int .i64, .int .u8, .int .i64, .int .i64, .str, .sl 55, .sl 44, .sl 29])] [(.one (.int .i64))] [(.t 8)], none, []⟩,
    ⟨some 10, .icmp .eql (.t 9) (.c (.one (.int .i64)) [.int 1]), none, []⟩,
    ⟨some 11, .mov (.t 10), none, []⟩,
    ⟨some 12, .call 6 [] [(.agg [.int .i64, .str, .str, .sl 9, .int .i64, .int .i64, .int .i64, .int .u8, .int .i64, .int .i64, .str, .sl 55, .sl 44, .sl 29])] [], some (11, true), []⟩,
    ⟨some 13, .call 12 [(.agg [.int .i64, .str, .str, .sl 9, .int .i64, .int .i64, .int .i64, .int .u8, .int .i64, .int .i64, .str, .sl 55, .sl 44, .sl 29])] [(.one (.int .i64))] [(.t 12)], some (11, true), []⟩,
    ⟨some 14, .icmp .eql (.t 13) (.c (.one (.int .i64)) [.int 0]), some (11, true), []⟩,
    ⟨some 15, .pick (.t 11) (.t 14) (.c (.one (.bool)) [.bool false]), none, []⟩,
    ⟨some 16, .mov (.t 15), none, []⟩,
    ⟨some 17, .bld (.agg [.int .i64, .str, .str, .sl 9, .int .i64, .int .i64, .int .i64, .int .u8, .int .i64, .int .i64, .str, .sl 55, .sl 44, .sl 29]) [.int 0, .str [], .str [], .nils, .int 0, .int 0, .int 0, .int 0, .int 0, .int 0, .str [], .nils, .nils, .nils] [(0, 1, (.c (.one (.int .i64)) [.int (-1)]))], some (16, true), []⟩,
    ⟨some 18, .call 12 [(.agg [.int .i64, .str, .str, .sl 9, .int .i64, .int .i64, .int .i64, .int .u8, .int .i64, .int .i64, .str, .sl 55, .sl 44, .sl 29])] [(.one (.int .i64))] [(.t 17)], some (16, true), []⟩,
    ⟨some 19, .icmp .eql (.t 18) (.c (.one (.int .i64)) [.int 1]), some (16, true), []⟩,
    ⟨some 20, .pick (.t 16) (.t 19) (.c (.one (.bool)) [.bool false]), none, []⟩,
    ⟨some 21, .mov (.t 20), none, []⟩,
    ⟨some 22, .mov (.t 2), some (21, true), []⟩,
    ⟨some 23, .icmp .eql (.t 22) (.c (.one (.int .i64)) [.int 0]), some (21, true), []⟩,
    ⟨some 24, .pick (.t 21) (.t 23) (.c (.one (.bool)) [.bool false]), none, []⟩,
    ⟨some 25, .mov (.t 24), none, []⟩,
    ⟨some 26, .mov (.t 1), some (25, true), []⟩,
    ⟨some 27, .scmp .eql (.t 26) (.c (.one (.str)) [.str ([100, 114, 111, 112, 32, 98, 32, 105, 110, 116, 32, 55] : List UInt8)]), some (25, true), []⟩,
    ⟨some 28, .pick (.t 25) (.t 27) (.c (.one (.bool)) [.bool false]), none, []⟩,
    ⟨some 0, .mov (.t 28), none, []⟩] false 0)
  .ret))) }
/-- clapperbridge/claplaw3.formed -/
noncomputable def claplaw3_formed (E : Env) : Option (List Row) :=
  (E.pc n_claplaw3_drop []).bind fun y1 =>
    (E.pc n_lens_Text [rowsAt y1 0]).bind fun y2 =>
      (E.pc n_claplaw3_drop []).bind fun y3 =>
        (E.pc n_lens_Size [rowsAt y3 0]).bind fun y4 =>
          if (((at_ (rowsAt y4 0) 0).toI) == 1) = true then
            (E.pc n_claplaw3_drop []).bind fun y5 =>
              (E.pc n_lens_Check [rowsAt y5 0]).bind fun y6 =>
                if (((at_ (rowsAt y6 0) 0).toI) == 0) = true then
                  (E.pc n_lens_Check [[.int (-1), .str [], .str [], .nils, .int 0, .int 0, .int 0, .int 0, .int 0, .int 0, .str [], .nils, .nils, .nils]]).bind fun y7 =>
                    if (((at_ (rowsAt y7 0) 0).toI) == 1) = true then
                      if (((at_ (rowsAt y2 1) 0).toI) == 0) = true then
                        some [[.bool (((at_ (rowsAt y2 0) 0).toS) == ([100, 114, 111, 112, 32, 98, 32, 105, 110, 116, 32, 55] : List UInt8))]]
                      else
                        some [[.bool false]]
                    else
                      some [[.bool false]]
                else
                  some [[.bool false]]
          else
            some [[.bool false]]
theorem claplaw3_formed_eq (E : Env) : runP E claplaw3_formed_a [] = claplaw3_formed E := by kernel_rfl

def slices_Equal_string_h0 : Shape := { slots := [(0, .d (.one (.sl 9))), (1, .d (.one (.sl 9))), (12, .d (.one (.int .i64))), (13, .d (.one (.int .i64)))], objs := [] }
def slices_Equal_string_o0 : List (Exit' × Shape) := [(.exit 0, { slots := [], objs := [] }), (.ret, { slots := [(4, .d (.one (.bool)))], objs := [] })]
def slices_Equal_string_c0 : ACode := (.seq (.region [] [⟨some 14, .icmp .lss (.t 13) (.t 12), none, []⟩] false 0)
  (.seq (.cond (.t 14) .skip
  (.exit 0))
  (.seq (.block 1 (.seq (.region [] [⟨some 15, .mov (.t 13), none, []⟩,
    ⟨some 5, .mov (.t 15), none, []⟩] false 0)
  (.seq (.region [] [⟨some 16, .mov (.t 0), none, []⟩,
    ⟨some 17, .mov (.t 5), none, []⟩,
    ⟨some 18, .iad 9 (.one (.str)) (.t 16) (.t 17), none, [0, 1]⟩,
    ⟨some 19, .ld (.one (.str)) 9 (.t 18), none, [0, 1, 2]⟩,
    ⟨some 20, .mov (.t 1), none, []⟩,
    ⟨some 21, .mov (.t 5), none, []⟩,
    ⟨some 22, .iad 9 (.one (.str)) (.t 20) (.t 21), none, [4, 5]⟩,
    ⟨some 23, .ld (.one (.str)) 9 (.t 22), none, [4, 5, 6]⟩,
    ⟨some 24, .scmp .neq (.t 19) (.t 23), none, [0, 1, 2, 3, 4, 5, 6, 7]⟩] true 0)
  (.cond (.t 24) (.seq (.region [] [⟨some 4, .mov (.c (.one (.bool)) [.bool false]), none, []⟩] false 0)
  .ret)
  .skip))))
  (.region [] [⟨some 25, .ibin .add (.t 13) (.c (.one (.int .i64)) [.int 1]), none, []⟩,
    ⟨some 13, .mov (.t 25), none, []⟩] false 0))))
noncomputable def slices_Equal_string_l0 (E : Env) (v0 : C) (v1 : C) (v2 : Int) (v3 : Int) : Option (Nat × List PV) := E.fix (stepOf E slices_Equal_string_c0 slices_Equal_string_h0 slices_Equal_string_o0) [.r [v0], .r [v1], .r [.int v2], .r [.int v3]]
noncomputable def slices_Equal_string_b0 (E : Env) (X : C → C → Int → Int → Option (Nat × List PV)) (v0 : C) (v1 : C) (v2 : Int) (v3 : Int) : Option (Nat × List PV) :=
  if (decide (v3 < v2)) = true then
    if (0 : Int) ≤ v3 ∧ v3 < (v0.rows.length : Int) then
      if (0 : Int) ≤ v3 ∧ v3 < (v1.rows.length : Int) then
        if (!(((at_ (rowsAt v0.rows v3.toNat) 0).toS) == ((at_ (rowsAt v1.rows v3.toNat) 0).toS))) = true then
          some (1, [.r [.bool false]])
        else
          X v0 v1 v2 (Go.IntKind.i64.wrap (v3 + 1))
      else none
    else none
  else
    some (0, [])
theorem slices_Equal_string_s0 (E : Env) (X : List PV → Option (Nat × List PV)) (v0 : C) (v1 : C) (v2 : Int) (v3 : Int) : stepOf E slices_Equal_string_c0 slices_Equal_string_h0 slices_Equal_string_o0 X [.r [v0], .r [v1], .r [.int v2], .r [.int v3]] = slices_Equal_string_b0 E (fun (v0 : C) (v1 : C) (v2 : Int) (v3 : Int) => X [.r [v0], .r [v1], .r [.int v2], .r [.int v3]]) v0 v1 v2 v3 := by kernel_rfl
def slices_Equal_string_a : AFun := { ps := [(.one (.sl 9)), (.one (.sl 9))], rs := [(.one (.bool))], res := [(false, 4, none)], body := (.seq (.region [] [⟨some 4, .mov (.c (.one (.bool)) [.bool false]), none, []⟩] false 0)
  (.seq (.seq (.region [] [⟨some 6, .mov (.t 0), none, []⟩,
    ⟨some 7, .lenL (.t 6), none, []⟩,
    ⟨some 8, .mov (.t 1), none, []⟩,
    ⟨some 9, .lenL (.t 8), none, []⟩,
    ⟨some 10, .icmp .neq (.t 7) (.t 9), none, []⟩] false 0)
  (.cond (.t 10) (.seq (.region [] [⟨some 4, .mov (.c (.one (.bool)) [.bool false]), none, []⟩] false 0)
  .ret)
  .skip))
  (.seq (.seq (.region [] [⟨some 11, .mov (.t 0), none, []⟩,
    ⟨some 12, .lenL (.t 11), none, []⟩,
    ⟨some 13, .mov (.c (.one (.int .i64)) [.int 0]), none, []⟩] false 0)
  (.block 0 (.loop slices_Equal_string_h0 slices_Equal_string_o0 slices_Equal_string_c0)))
  (.seq (.region [] [⟨some 4, .mov (.c (.one (.bool)) [.bool true]), none, []⟩] false 0)
  .ret)))) }
/-- slices.Equal[[]string,string] -/
noncomputable def slices_Equal_string (E : Env) (p0 : C) (p1 : C) : Option (List Row) :=
  if ((p0.rows.length : Int) != (p1.rows.length : Int)) = true then
    some [[.bool false]]
  else
    (slices_Equal_string_l0 E p0 p1 (p0.rows.length : Int) 0).bind fun x1 =>
      match x1.1 with
      | 0 =>
        some [[.bool true]]
      | i2 + 1 =>
        some [[.bool ((at_ (hd x1.2) 0).toB)]]
theorem slices_Equal_string_eq (E : Env) (p0 : C) (p1 : C) : runP E slices_Equal_string_a [[p0], [p1]] = slices_Equal_string E p0 p1 := by kernel_rfl

def slices_EqualFunc_2_api_Value_h0 : Shape := { slots := [(1, .d (.one (.sl 44))), (2, .d (.one (.fn 45))), (15, .d (.one (.sl 44))), (16, .d (.one (.int .i64))), (17, .d (.one (.int .i64)))], objs := [] }
def slices_EqualFunc_2_api_Value_o0 : List (Exit' × Shape) := [(.exit 0, { slots := [], objs := [] }), (.ret, { slots := [(6, .d (.one (.bool)))], objs := [] })]
def slices_EqualFunc_2_api_Value_c0 : ACode := (.seq (.region [] [⟨some 18, .icmp .lss (.t 17) (.t 16), none, []⟩] false 0)
  (.seq (.cond (.t 18) .skip
  (.exit 0))
  (.seq (.block 1 (.seq (.region [] [⟨some 19, .mov (.t 17), none, []⟩,
    ⟨some 20, .iad 44 (.agg [.int .i64, .int .i64, .str, .sl 55, .int .i64, .int .i64, .str, .sl 55]) (.t 15) (.t 17), none, []⟩,
    ⟨some 21, .ld (.agg [.int .i64, .int .i64, .str, .sl 55, .int .i64, .int .i64, .str, .sl 55]) 44 (.t 20), none, []⟩,
    ⟨some 8, .allocO 0 (.agg [.int .i64, .int .i64, .str, .sl 55, .int .i64, .int .i64, .str, .sl 55]) [.int 0, .int 0, .str [], .nils, .int 0, .int 0, .str [], .nils], none, []⟩,
    ⟨some 7, .mov (.t 19), none, []⟩,
    ⟨none, .st (.agg [.int .i64, .int .i64, .str, .sl 55, .int .i64, .int .i64, .str, .sl 55]) (.t 8) (.t 21), none, []⟩] false 1)
  (.seq (.region [] [⟨some 22, .mov (.t 1), none, []⟩,
    ⟨some 23, .mov (.t 7), none, []⟩,
    ⟨some 24, .iad 44 (.agg [.int .i64, .int .i64, .str, .sl 55, .int .i64, .int .i64, .str, .sl 55]) (.t 22) (.t 23), none, []⟩,
    ⟨some 25, .ld (.agg [.int .i64, .int .i64, .str, .sl 55, .int .i64, .int .i64, .str, .sl 55]) 44 (.t 24), none, []⟩,
    ⟨some 9, .allocO 0 (.agg [.int .i64, .int .i64, .str, .sl 55, .int .i64, .int .i64, .str, .sl 55]) [.int 0, .int 0, .str [], .nils, .int 0, .int 0, .str [], .nils], none, []⟩,
    ⟨none, .st (.agg [.int .i64, .int .i64, .str, .sl 55, .int .i64, .int .i64, .str, .sl 55]) (.t 9) (.t 25), none, []⟩] false 1)
  (.seq (.region [] [⟨some 26, .mov (.t 2), none, []⟩,
    ⟨some 27, .ld (.agg [.int .i64, .int .i64, .str, .sl 55, .int .i64, .int .i64, .str, .sl 55]) 44 (.t 8), none, []⟩,
    ⟨some 28, .ld (.agg [.int .i64, .int .i64, .str, .sl 55, .int .i64, .int .i64, .str, .sl 55]) 44 (.t 9), none, []⟩,
    ⟨some 29, .callv 45 [(.agg [.int .i64, .int .i64, .str, .sl 55, .int .i64, .int .i64, .str, .sl 55]), (.agg [.int .i64, .int .i64, .str, .sl 55, .int .i64, .int .i64, .str, .sl 55])] [(.one (.bool))] (.t 26) [(.t 27), (.t 28)], none, []⟩,
    ⟨some 30, .not (.t 29), none, []⟩] false 0)
  (.cond (.t 30) (.seq (.region [] [⟨some 6, .mov (.c (.one (.bool)) [.bool false]), none, []⟩] false 0)
  .ret)
  .skip)))))
  (.region [] [⟨some 31, .ibin .add (.t 17) (.c (.one (.int .i64)) [.int 1]), none, []⟩,
    ⟨some 17, .mov (.t 31), none, []⟩] false 0))))
noncomputable def slices_EqualFunc_2_api_Value_l0 (E : Env) (v0 : C) (v1 : C) (v2 : C) (v3 : Int) (v4 : Int) : Option (Nat × List PV) := E.fix (stepOf E slices_EqualFunc_2_api_Value_c0 slices_EqualFunc_2_api_Value_h0 slices_EqualFunc_2_api_Value_o0) [.r [v0], .r [v1], .r [v2], .r [.int v3], .r [.int v4]]
noncomputable def slices_EqualFunc_2_api_Value_b0 (E : Env) (X : C → C → C → Int → Int → Option (Nat × List PV)) (v0 : C) (v1 : C) (v2 : C) (v3 : Int) (v4 : Int) : Option (Nat × List PV) :=
  if (decide (v4 < v3)) = true then
    if (0 : Int) ≤ v4 ∧ v4 < (v2.rows.length : Int) then
      if (0 : Int) ≤ v4 ∧ v4 < (v0.rows.length : Int) then
        (callC E v1 [rowsAt v2.rows v4.toNat, rowsAt v0.rows v4.toNat]).bind fun y1 =>
          if (!((at_ (rowsAt y1 0) 0).toB)) = true then
            some (1, [.r [.bool false]])
          else
            X v0 v1 v2 v3 (Go.IntKind.i64.wrap (v4 + 1))
      else none
    else none
  else
    some (0, [])
theorem slices_EqualFunc_2_api_Value_s0 (E : Env) (X : List PV → Option (Nat × List PV)) (v0 : C) (v1 : C) (v2 : C) (v3 : Int) (v4 : Int) : stepOf E slices_EqualFunc_2_api_Value_c0 slices_EqualFunc_2_api_Value_h0 slices_EqualFunc_2_api_Value_o0 X [.r [v0], .r [v1], .r [v2], .r [.int v3], .r [.int v4]] = slices_EqualFunc_2_api_Value_b0 E (fun (v0 : C) (v1 : C) (v2 : C) (v3 : Int) (v4 : Int) => X [.r [v0], .r [v1], .r [v2], .r [.int v3], .r [.int v4]]) v0 v1 v2 v3 v4 := by kernel_rfl
def slices_EqualFunc_2_api_Value_a : AFun := { ps := [(.one (.sl 44)), (.one (.sl 44)), (.one (.fn 45))], rs := [(.one (.bool))], res := [(false, 6, none)], body := (.seq (.region [] [⟨some 6, .mov (.c (.one (.bool)) [.bool false]), none, []⟩] false 0)
  (.seq (.seq (.region [] [⟨some 10, .mov (.t 0), none, []⟩,
    ⟨some 11, .lenL (.t 10), none, []⟩,
    ⟨some 12, .mov (.t 1), none, []⟩,
    ⟨some 13, .lenL (.t 12), none, []⟩,
    ⟨some 14, .icmp .neq (.t 11) (.t 13), none, []⟩] false 0)
  (.cond (.t 14) (.seq (.region [] [⟨some 6, .mov (.c (.one (.bool)) [.bool false]), none, []⟩] false 0)
  .ret)
  .skip))
  (.seq (.seq (.region [] [⟨some 15, .mov (.t 0), none, []⟩,
    ⟨some 16, .lenL (.t 15), none, []⟩,
    ⟨some 17, .mov (.c (.one (.int .i64)) [.int 0]), none, []⟩] false 0)
  (.block 0 (.loop slices_EqualFunc_2_api_Value_h0 slices_EqualFunc_2_api_Value_o0 slices_EqualFunc_2_api_Value_c0)))
  (.seq (.region [] [⟨some 6, .mov (.c (.one (.bool)) [.bool true]), none, []⟩] false 0)
  .ret)))) }
/-- slices.EqualFunc[[][2]clapperbridge/api.Value,[][2]clapperbridge/api.Value,[2]clapperbridge/api.Value,[2]clapperbridge/api.Value] -/
noncomputable def slices_EqualFunc_2_api_Value (E : Env) (p0 : C) (p1 : C) (p2 : C) : Option (List Row) :=
  if ((p0.rows.length : Int) != (p1.rows.length : Int)) = true then
    some [[.bool false]]
  else
    (slices_EqualFunc_2_api_Value_l0 E p1 p2 p0 (p0.rows.length : Int) 0).bind fun x2 =>
      match x2.1 with
      | 0 =>
        some [[.bool true]]
      | i3 + 1 =>
        some [[.bool ((at_ (hd x2.2) 0).toB)]]
theorem slices_EqualFunc_2_api_Value_eq (E : Env) (p0 : C) (p1 : C) (p2 : C) : runP E slices_EqualFunc_2_api_Value_a [[p0], [p1], [p2]] = slices_EqualFunc_2_api_Value E p0 p1 p2 := by kernel_rfl

def lens_samePair_a : AFun := { ps := [(.agg [.int .i64, .int .i64, .str, .sl 55, .int .i64, .int .i64, .str, .sl 55]), (.agg [.int .i64, .int .i64, .str, .sl 55, .int .i64, .int .i64, .str, .sl 55])], rs := [(.one (.bool))], res := [(false, 4, none)], body := (.seq (.region [] [⟨some 2, .boxP (.agg [.int .i64, .int .i64, .str, .sl 55, .int .i64, .int .i64, .str, .sl 55]) 44 (.t 0), none, []⟩,
    ⟨some 3, .boxP (.agg [.int .i64, .int .i64, .str, .sl 55, .int .i64, .int .i64, .str, .sl 55]) 44 (.t 1), none, []⟩,
    ⟨some 4, .mov (.c (.one (.bool)) [.bool false]), none, []⟩] false 0)
  (.seq (.region [] [⟨some 5, .iadA 2 44 25 (.agg [.int .i64, .int .i64, .str, .sl 55]) (.t 2) (.c (.one (.int .i64)) [.int 0]), none, []⟩,
    ⟨some 6, .ld (.agg [.int .i64, .int .i64, .str, .sl 55]) 25 (.t 5), none, []⟩,
    ⟨some 7, .iadA 2 44 25 (.agg [.int .i64, .int .i64, .str, .sl 55]) (.t 3) (.c (.one (.int .i64)) [.int 0]), none, []⟩,
    ⟨some 8, .ld (.agg [.int .i64, .int .i64, .str, .sl 55]) 25 (.t 7), none, []⟩,
    ⟨some 9, .call 14 [(.agg [.int .i64, .int .i64, .str, .sl 55]), (.agg [.int .i64, .int .i64, .str, .sl 55])] [(.one (.bool))] [(.t 6), (.t 8)], none, []⟩,
    ⟨some 10, .mov (.t 9), none, []⟩,
    ⟨some 11, .iadA 2 44 25 (.agg [.int .i64, .int .i64, .str, .sl 55]) (.t 2) (.c (.one (.int .i64)) [.int 1]), some (10, true), []⟩,
    ⟨some 12, .ld (.agg [.int .i64, .int .i64, .str, .sl 55]) 25 (.t 11), some (10, true), []⟩,
    ⟨some 13, .iadA 2 44 25 (.agg [.int .i64, .int .i64, .str, .sl 55]) (.t 3) (.c (.one (.int .i64)) [.int 1]), some (10, true), []⟩,
    ⟨some 14, .ld (.agg [.int .i64, .int .i64, .str, .sl 55]) 25 (.t 13), some (10, true), []⟩,
    ⟨some 15, .call 14 [(.agg [.int .i64, .int .i64, .str, .sl 55]), (.agg [.int .i64, .int .i64, .str, .sl 55])] [(.one (.bool))] [(.t 12), (.t 14)], some (10, true), []⟩,
    ⟨some 16, .pick (.t 10) (.t 15) (.c (.one (.bool)) [.bool false]), none, []⟩,
    ⟨some 4, .mov (.t 16), none, []⟩] false 0)
  .ret)) }
/-- clapperbridge/lens.samePair -/
noncomputable def lens_samePair (E : Env) (p0 : Row) (p1 : Row) : Option (List Row) :=
  (E.pc n_value_Same [[at_ p0 0, at_ p0 1, at_ p0 2, at_ p0 3], [at_ p1 0, at_ p1 1, at_ p1 2, at_ p1 3]]).bind fun y1 =>
    if ((at_ (rowsAt y1 0) 0).toB) = true then
      (E.pc n_value_Same [[at_ p0 4, at_ p0 5, at_ p0 6, at_ p0 7], [at_ p1 4, at_ p1 5, at_ p1 6, at_ p1 7]]).bind fun y2 =>
        some [[.bool ((at_ (rowsAt y2 0) 0).toB)]]
    else
      some [[.bool false]]
theorem lens_samePair_eq (E : Env) (p0 : Row) (p1 : Row) : runP E lens_samePair_a [p0, p1] = lens_samePair E p0 p1 := by kernel_rfl

def slices_EqualFunc_api_Lens_h0 : Shape := { slots := [(1, .d (.one (.sl 29))), (2, .d (.one (.fn 31))), (15, .d (.one (.sl 29))), (16, .d (.one (.int .i64))), (17, .d (.one (.int .i64)))], objs := [] }
def slices_EqualFunc_api_Lens_o0 : List (Exit' × Shape) := [(.exit 0, { slots := [], objs := [] }), (.ret, { slots := [(6, .d (.one (.bool)))], objs := [] })]
def slices_EqualFunc_api_Lens_c0 : ACode := (.seq (.region [] [⟨some 18, .icmp .lss (.t 17) (.t 16), none, []⟩] false 0)
  (.seq (.cond (.t 18) .skip
  (.exit 0))
  (.seq (.block 1 (.seq (.region [] [⟨some 19, .mov (.t 17), none, []⟩,
    ⟨some 20, .iad 29 (.agg [.int .i64, .str, .str, .sl 9, .int .i64, .int .i64, .int .i64, .int .u8, .int .i64, .int .i64, .str, .sl 55, .sl 44, .sl 29]) (.t 15) (.t 17), none, []⟩,
    ⟨some 21, .ld (.agg [.int .i64, .str, .str, .sl 9, .int .i64, .int .i64, .int .i64, .int .u8, .int .i64, .int .i64, .str, .sl 55, .sl 44, .sl 29]) 29 (.t 20), none, []⟩,
    ⟨some 8, .allocO 0 (.agg [.int .i64, .str, .str, .sl 9, .int .i64, .int .i64, .int .i64, .int .u8, .int .i64, .int .i64, .str, .sl 55, .sl 44, .sl 29]) [.int 0, .str [], .str [], .nils, .int 0, .int 0, .int 0, .int 0, .int 0, .int 0, .str [], .nils, .nils, .nils], none, []⟩,
    ⟨some 7, .mov (.t 19), none, []⟩,
    ⟨none, .st (.agg [.int .i64, .str, .str, .sl 9, .int .i64, .int .i64, .int .i64, .int .u8, .int .i64, .int .i64, .str, .sl 55, .sl 44, .sl 29]) (.t 8) (.t 21), none, []⟩] false 1)
  (.seq (.region [] [⟨some 22, .mov (.t 1), none, []⟩,
    ⟨some 23, .mov (.t 7), none, []⟩,
    ⟨some 24, .iad 29 (.agg [.int .i64, .str, .str, .sl 9, .int .i64, .int .i64, .int .i64, .int .u8, .int .i64, .int .i64, .str, .sl 55, .sl 44, .sl 29]) (.t 22) (.t 23), none, []⟩,
    ⟨some 25, .ld (.agg [.int .i64, .str, .str, .sl 9, .int .i64, .int .i64, .int .i64, .int .u8, .int .i64, .int .i64, .str, .sl 55, .sl 44, .sl 29]) 29 (.t 24), none, []⟩,
    ⟨some 9, .allocO 0 (.agg [.int .i64, .str, .str, .sl 9, .int .i64, .int .i64, .int .i64, .int .u8, .int .i64, .int .i64, .str, .sl 55, .sl 44, .sl 29]) [.int 0, .str [], .str [], .nils, .int 0, .int 0, .int 0, .int 0, .int 0, .int 0, .str [], .nils, .nils, .nils], none, []⟩,
    ⟨none, .st (.agg [.int .i64, .str, .str, .sl 9, .int .i64, .int .i64, .int .i64, .int .u8, .int .i64, .int .i64, .str, .sl 55, .sl 44, .sl 29]) (.t 9) (.t 25), none, []⟩] false 1)
  (.seq (.region [] [⟨some 26, .mov (.t 2), none, []⟩,
    ⟨some 27, .ld (.agg [.int .i64, .str, .str, .sl 9, .int .i64, .int .i64, .int .i64, .int .u8, .int .i64, .int .i64, .str, .sl 55, .sl 44, .sl 29]) 29 (.t 8), none, []⟩,
    ⟨some 28, .ld (.agg [.int .i64, .str, .str, .sl 9, .int .i64, .int .i64, .int .i64, .int .u8, .int .i64, .int .i64, .str, .sl 55, .sl 44, .sl 29]) 29 (.t 9), none, []⟩,
    ⟨some 29, .callv 31 [(.agg [.int .i64, .str, .str, .sl 9, .int .i64, .int .i64, .int .i64, .int .u8, .int .i64, .int .i64, .str, .sl 55, .sl 44, .sl 29]), (.agg [.int .i64, .str, .str, .sl 9, .int .i64, .int .i64, .int .i64, .int .u8, .int .i64, .int .i64, .str, .sl 55, .sl 44, .sl 29])] [(.one (.bool))] (.t 26) [(.t 27), (.t 28)], none, []⟩,
    ⟨some 30, .not (.t 29), none, []⟩] false 0)
  (.cond (.t 30) (.seq (.region [] [⟨some 6, .mov (.c (.one (.bool)) [.bool false]), none, []⟩] false 0)
  .ret)
  .skip)))))
  (.region [] [⟨some 31, .ibin .add (.t 17) (.c (.one (.int .i64)) [.int 1]), none, []⟩,
    ⟨some 17, .mov (.t 31), none, []⟩] false 0))))
noncomputable def slices_EqualFunc_api_Lens_l0 (E : Env) (v0 : C) (v1 : C) (v2 : C) (v3 : Int) (v4 : Int) : Option (Nat × List PV) := E.fix (stepOf E slices_EqualFunc_api_Lens_c0 slices_EqualFunc_api_Lens_h0 slices_EqualFunc_api_Lens_o0) [.r [v0], .r [v1], .r [v2], .r [.int v3], .r [.int v4]]
noncomputable def slices_EqualFunc_api_Lens_b0 (E : Env) (X : C → C → C → Int → Int → Option (Nat × List PV)) (v0 : C) (v1 : C) (v2 : C) (v3 : Int) (v4 : Int) : Option (Nat × List PV) :=
  if (decide (v4 < v3)) = true then
    if (0 : Int) ≤ v4 ∧ v4 < (v2.rows.length : Int) then
      if (0 : Int) ≤ v4 ∧ v4 < (v0.rows.length : Int) then
        (callC E v1 [rowsAt v2.rows v4.toNat, rowsAt v0.rows v4.toNat]).bind fun y1 =>
          if (!((at_ (rowsAt y1 0) 0).toB)) = true then
            some (1, [.r [.bool false]])
          else
            X v0 v1 v2 v3 (Go.IntKind.i64.wrap (v4 + 1))
      else none
    else none
  else
    some (0, [])
theorem slices_EqualFunc_api_Lens_s0 (E : Env) (X : List PV → Option (Nat × List PV)) (v0 : C) (v1 : C) (v2 : C) (v3 : Int) (v4 : Int) : stepOf E slices_EqualFunc_api_Lens_c0 slices_EqualFunc_api_Lens_h0 slices_EqualFunc_api_Lens_o0 X [.r [v0], .r [v1], .r [v2], .r [.int v3], .r [.int v4]] = slices_EqualFunc_api_Lens_b0 E (fun (v0 : C) (v1 : C) (v2 : C) (v3 : Int) (v4 : Int) => X [.r [v0], .r [v1], .r [v2], .r [.int v3], .r [.int v4]]) v0 v1 v2 v3 v4 := by kernel_rfl
def slices_EqualFunc_api_Lens_a : AFun := { ps := [(.one (.sl 29)), (.one (.sl 29)), (.one (.fn 31))], rs := [(.one (.bool))], res := [(false, 6, none)], body := (.seq (.region [] [⟨some 6, .mov (.c (.one (.bool)) [.bool false]), none, []⟩] false 0)
  (.seq (.seq (.region [] [⟨some 10, .mov (.t 0), none, []⟩,
    ⟨some 11, .lenL (.t 10), none, []⟩,
    ⟨some 12, .mov (.t 1), none, []⟩,
    ⟨some 13, .lenL (.t 12), none, []⟩,
    ⟨some 14, .icmp .neq (.t 11) (.t 13), none, []⟩] false 0)
  (.cond (.t 14) (.seq (.region [] [⟨some 6, .mov (.c (.one (.bool)) [.bool false]), none, []⟩] false 0)
  .ret)
  .skip))
  (.seq (.seq (.region [] [⟨some 15, .mov (.t 0), none, []⟩,
    ⟨some 16, .lenL (.t 15), none, []⟩,
    ⟨some 17, .mov (.c (.one (.int .i64)) [.int 0]), none, []⟩] false 0)
  (.block 0 (.loop slices_EqualFunc_api_Lens_h0 slices_EqualFunc_api_Lens_o0 slices_EqualFunc_api_Lens_c0)))
  (.seq (.region [] [⟨some 6, .mov (.c (.one (.bool)) [.bool true]), none, []⟩] false 0)
  .ret)))) }
/-- slices.EqualFunc[[]clapperbridge/api.Lens,[]clapperbridge/api.Lens,clapperbridge/api.Lens,clapperbridge/api.Lens] -/
noncomputable def slices_EqualFunc_api_Lens (E : Env) (p0 : C) (p1 : C) (p2 : C) : Option (List Row) :=
  if ((p0.rows.length : Int) != (p1.rows.length : Int)) = true then
    some [[.bool false]]
  else
    (slices_EqualFunc_api_Lens_l0 E p1 p2 p0 (p0.rows.length : Int) 0).bind fun x2 =>
      match x2.1 with
      | 0 =>
        some [[.bool true]]
      | i3 + 1 =>
        some [[.bool ((at_ (hd x2.2) 0).toB)]]
theorem slices_EqualFunc_api_Lens_eq (E : Env) (p0 : C) (p1 : C) (p2 : C) : runP E slices_EqualFunc_api_Lens_a [[p0], [p1], [p2]] = slices_EqualFunc_api_Lens E p0 p1 p2 := by kernel_rfl

def lens_Equal_a : AFun := { ps := [(.agg [.int .i64, .str, .str, .sl 9, .int .i64, .int .i64, .int .i64, .int .u8, .int .i64, .int .i64, .str, .sl 55, .sl 44, .sl 29]), (.agg [.int .i64, .str, .str, .sl 9, .int .i64, .int .i64, .int .i64, .int .u8, .int .i64, .int .i64, .str, .sl 55, .sl 44, .sl 29])], rs := [(.one (.bool))], res := [(false, 4, none)], body := (.seq (.region [] [⟨some 2, .boxP (.agg [.int .i64, .str, .str, .sl 9, .int .i64, .int .i64, .int .i64, .int .u8, .int .i64, .int .i64, .str, .sl 55, .sl 44, .sl 29]) 29 (.t 0), none, []⟩,
    ⟨some 3, .boxP (.agg [.int .i64, .str, .str, .sl 9, .int .i64, .int .i64, .int .i64, .int .u8, .int .i64, .int .i64, .str, .sl 55, .sl 44, .sl 29]) 29 (.t 1), none, []⟩,
    ⟨some 4, .mov (.c (.one (.bool)) [.bool false]), none, []⟩] false 0)
  (.seq (.seq (.join [(.normal, { slots := [(2, .d (.one (.ref 29))), (3, .d (.one (.ref 29))), (51, .d (.one (.bool)))], objs := [] })] (.region [] [⟨some 5, .fad 0 1 29 3 (.t 2), none, []⟩,
    ⟨some 6, .ld (.one (.int .i64)) 3 (.t 5), none, []⟩,
    ⟨some 7, .fad 0 1 29 3 (.t 3), none, []⟩,
    ⟨some 8, .ld (.one (.int .i64)) 3 (.t 7), none, []⟩,
    ⟨some 9, .icmp .neq (.t 6) (.t 8), none, []⟩,
    ⟨some 10, .mov (.t 9), none, []⟩,
    ⟨some 11, .fad 1 1 29 9 (.t 2), some (10, false), []⟩,
    ⟨some 12, .ld (.one (.str)) 9 (.t 11), some (10, false), []⟩,
    ⟨some 13, .fad 1 1 29 9 (.t 3), some (10, false), []⟩,
    ⟨some 14, .ld (.one (.str)) 9 (.t 13), some (10, false), []⟩,
    ⟨some 15, .scmp .neq (.t 12) (.t 14), some (10, false), []⟩,
    ⟨some 16, .pick (.t 10) (.c (.one (.bool)) [.bool true]) (.t 15), none, []⟩,
    ⟨some 17, .mov (.t 16), none, []⟩,
    ⟨some 18, .fad 2 1 29 9 (.t 2), some (17, false), []⟩,
    ⟨some 19, .ld (.one (.str)) 9 (.t 18), some (17, false), []⟩,
    ⟨some 20, .fad 2 1 29 9 (.t 3), some (17, false), []⟩,
    ⟨some 21, .ld (.one (.str)) 9 (.t 20), some (17, false), []⟩,
    ⟨some 22, .scmp .neq (.t 19) (.t 21), some (17, false), []⟩,
    ⟨some 23, .pick (.t 17) (.c (.one (.bool)) [.bool true]) (.t 22), none, []⟩,
    ⟨some 24, .mov (.t 23), none, []⟩,
    ⟨some 25, .fad 4 1 29 3 (.t 2), some (24, false), []⟩,
    ⟨some 26, .ld (.one (.int .i64)) 3 (.t 25), some (24, false), []⟩,
    ⟨some 27, .fad 4 1 29 3 (.t 3), some (24, false), []⟩,
    ⟨some 28, .ld (.one (.int .i64)) 3 (.t 27), some (24, false), []⟩,
    ⟨some 29, .icmp .neq (.t 26) (.t 28), some (24, false), []⟩,
    ⟨some 30, .pick (.t 24) (.c (.one (.bool)) [.bool true]) (.t 29), none, []⟩,
    ⟨some 31, .mov (.t 30), none, []⟩,
    ⟨some 32, .fad 5 1 29 3 (.t 2), some (31, false), []⟩,
    ⟨some 33, .ld (.one (.int .i64)) 3 (.t 32), some (31, false), []⟩,
    ⟨some 34, .fad 5 1 29 3 (.t 3), some (31, false), []⟩,
    ⟨some 35, .ld (.one (.int .i64)) 3 (.t 34), some (31, false), []⟩,
    ⟨some 36, .icmp .neq (.t 33) (.t 35), some (31, false), []⟩,
    ⟨some 37, .pick (.t 31) (.c (.one (.bool)) [.bool true]) (.t 36), none, []⟩,
    ⟨some 38, .mov (.t 37), none, []⟩,
    ⟨some 39, .fad 6 1 29 3 (.t 2), some (38, false), []⟩,
    ⟨some 40, .ld (.one (.int .i64)) 3 (.t 39), some (38, false), []⟩,
    ⟨some 41, .fad 6 1 29 3 (.t 3), some (38, false), []⟩,
    ⟨some 42, .ld (.one (.int .i64)) 3 (.t 41), some (38, false), []⟩,
    ⟨some 43, .icmp .neq (.t 40) (.t 42), some (38, false), []⟩,
    ⟨some 44, .pick (.t 38) (.c (.one (.bool)) [.bool true]) (.t 43), none, []⟩,
    ⟨some 45, .mov (.t 44), none, []⟩,
    ⟨some 46, .fad 7 1 29 5 (.t 2), some (45, false), []⟩,
    ⟨some 47, .ld (.one (.int .u8)) 5 (.t 46), some (45, false), []⟩,
    ⟨some 48, .fad 7 1 29 5 (.t 3), some (45, false), []⟩,
    ⟨some 49, .ld (.one (.int .u8)) 5 (.t 48), some (45, false), []⟩,
    ⟨some 50, .icmp .neq (.t 47) (.t 49), some (45, false), []⟩,
    ⟨some 51, .pick (.t 45) (.c (.one (.bool)) [.bool true]) (.t 50), none, []⟩] false 0))
  (.cond (.t 51) (.seq (.region [] [⟨some 4, .mov (.c (.one (.bool)) [.bool false]), none, []⟩] false 0)
  .ret)
  .skip))
  (.seq (.seq (.join [(.normal, { slots := [(2, .d (.one (.ref 29))), (3, .d (.one (.ref 29))), (73, .d (.one (.bool)))], objs := [] })] (.region [] [⟨some 52, .fad 3 1 29 22 (.t 2), none, []⟩,
    ⟨some 53, .ld (.one (.sl 9)) 22 (.t 52), none, []⟩,
    ⟨some 54, .fad 3 1 29 22 (.t 3), none, []⟩,
    ⟨some 55, .ld (.one (.sl 9)) 22 (.t 54), none, []⟩,
    ⟨some 56, .call 13 [(.one (.sl 9)), (.one (.sl 9))] [(.one (.bool))] [(.t 53), (.t 55)], none, []⟩,
    ⟨some 57, .not (.t 56), none, []⟩,
    ⟨some 58, .mov (.t 57), none, []⟩,
    ⟨some 59, .fad 8 4 29 25 (.t 2), some (58, false), []⟩,
    ⟨some 60, .ld (.agg [.int .i64, .int .i64, .str, .sl 55]) 25 (.t 59), some (58, false), []⟩,
    ⟨some 61, .fad 8 4 29 25 (.t 3), some (58, false), []⟩,
    ⟨some 62, .ld (.agg [.int .i64, .int .i64, .str, .sl 55]) 25 (.t 61), some (58, false), []⟩,
    ⟨some 63, .call 14 [(.agg [.int .i64, .int .i64, .str, .sl 55]), (.agg [.int .i64, .int .i64, .str, .sl 55])] [(.one (.bool))] [(.t 60), (.t 62)], some (58, false), []⟩,
    ⟨some 64, .not (.t 63), some (58, false), []⟩,
    ⟨some 65, .pick (.t 58) (.c (.one (.bool)) [.bool true]) (.t 64), none, []⟩,
    ⟨some 66, .mov (.t 65), none, []⟩,
    ⟨some 67, .fad 12 1 29 26 (.t 2), some (66, false), []⟩,
    ⟨some 68, .ld (.one (.sl 44)) 26 (.t 67), some (66, false), []⟩,
    ⟨some 69, .fad 12 1 29 26 (.t 3), some (66, false), []⟩,
    ⟨some 70, .ld (.one (.sl 44)) 26 (.t 69), some (66, false), []⟩,
    ⟨some 71, .call 15 [(.one (.sl 44)), (.one (.sl 44)), (.one (.fn 45))] [(.one (.bool))] [(.t 68), (.t 70), (.c (.one (.fn 45)) [.fn 16 []])], some (66, false), []⟩,
    ⟨some 72, .not (.t 71), some (66, false), []⟩,
    ⟨some 73, .pick (.t 66) (.c (.one (.bool)) [.bool true]) (.t 72), none, []⟩] false 0))
  (.cond (.t 73) (.seq (.region [] [⟨some 4, .mov (.c (.one (.bool)) [.bool false]), none, []⟩] false 0)
  .ret)
  .skip))
  (.seq (.region [] [⟨some 74, .fad 13 1 29 27 (.t 2), none, []⟩,
    ⟨some 75, .ld (.one (.sl 29)) 27 (.t 74), none, []⟩,
    ⟨some 76, .fad 13 1 29 27 (.t 3), none, []⟩,
    ⟨some 77, .ld (.one (.sl 29)) 27 (.t 76), none, []⟩,
    ⟨some 78, .call 17 [(.one (.sl 29)), (.one (.sl 29)), (.one (.fn 31))] [(.one (.bool))] [(.t 75), (.t 77), (.c (.one (.fn 31)) [.fn 5 []])], none, []⟩,
    ⟨some 4, .mov (.t 78), none, []⟩] false 0)
  .ret)))) }
/-- clapperbridge/lens.Equal -/
noncomputable def lens_Equal (E : Env) (p0 : Row) (p1 : Row) : Option (List Row) :=
  (if (((at_ p0 0).toI) != ((at_ p1 0).toI)) = true then
    some (0, [.r [.dp p0], .r [.dp p1], .r [.bool true]])
  else
    if (!(((at_ p0 1).toS) == ((at_ p1 1).toS))) = true then
      some (0, [.r [.dp p0], .r [.dp p1], .r [.bool true]])
    else
      if (!(((at_ p0 2).toS) == ((at_ p1 2).toS))) = true then
        some (0, [.r [.dp p0], .r [.dp p1], .r [.bool true]])
      else
        if (((at_ p0 4).toI) != ((at_ p1 4).toI)) = true then
          some (0, [.r [.dp p0], .r [.dp p1], .r [.bool true]])
        else
          if (((at_ p0 5).toI) != ((at_ p1 5).toI)) = true then
            some (0, [.r [.dp p0], .r [.dp p1], .r [.bool true]])
          else
            if (((at_ p0 6).toI) != ((at_ p1 6).toI)) = true then
              some (0, [.r [.dp p0], .r [.dp p1], .r [.bool true]])
            else
              some (0, [.r [.dp p0], .r [.dp p1], .r [.bool (((at_ p0 7).toI) != ((at_ p1 7).toI))]])).bind fun x1 =>
    if ((at_ (hd x1.2.tail.tail) 0).toB) = true then
      some [[.bool false]]
    else
      (if (at_ (hd x1.2) 0).isDp = true then
        if (at_ (hd x1.2.tail) 0).isDp = true then
          (E.pc n_slices_Equal_string [[at_ ((at_ (hd x1.2) 0).dpRow) 3], [at_ ((at_ (hd x1.2.tail) 0).dpRow) 3]]).bind fun y2 =>
            if (!((at_ (rowsAt y2 0) 0).toB)) = true then
              some (0, [.r [at_ (hd x1.2) 0], .r [at_ (hd x1.2.tail) 0], .r [.bool true]])
            else
              if (at_ (hd x1.2) 0).isDp = true then
                if (at_ (hd x1.2.tail) 0).isDp = true then
                  (E.pc n_value_Same [[at_ ((at_ (hd x1.2) 0).dpRow) 8, at_ ((at_ (hd x1.2) 0).dpRow) 9, at_ ((at_ (hd x1.2) 0).dpRow) 10, at_ ((at_ (hd x1.2) 0).dpRow) 11], [at_ ((at_ (hd x1.2.tail) 0).dpRow) 8, at_ ((at_ (hd x1.2.tail) 0).dpRow) 9, at_ ((at_ (hd x1.2.tail) 0).dpRow) 10, at_ ((at_ (hd x1.2.tail) 0).dpRow) 11]]).bind fun y3 =>
                    if (!((at_ (rowsAt y3 0) 0).toB)) = true then
                      some (0, [.r [at_ (hd x1.2) 0], .r [at_ (hd x1.2.tail) 0], .r [.bool true]])
                    else
                      if (at_ (hd x1.2) 0).isDp = true then
                        if (at_ (hd x1.2.tail) 0).isDp = true then
                          (E.pc n_slices_EqualFunc_2_api_Value [[at_ ((at_ (hd x1.2) 0).dpRow) 12], [at_ ((at_ (hd x1.2.tail) 0).dpRow) 12], [.fn 16 []]]).bind fun y4 =>
                            some (0, [.r [at_ (hd x1.2) 0], .r [at_ (hd x1.2.tail) 0], .r [.bool (!((at_ (rowsAt y4 0) 0).toB))]])
                        else none
                      else none
                else none
              else none
        else none
      else none).bind fun x5 =>
        if ((at_ (hd x5.2.tail.tail) 0).toB) = true then
          some [[.bool false]]
        else
          if (at_ (hd x5.2) 0).isDp = true then
            if (at_ (hd x5.2.tail) 0).isDp = true then
              (E.pc n_slices_EqualFunc_api_Lens [[at_ ((at_ (hd x5.2) 0).dpRow) 13], [at_ ((at_ (hd x5.2.tail) 0).dpRow) 13], [.fn 5 []]]).bind fun y6 =>
                some [[.bool ((at_ (rowsAt y6 0) 0).toB)]]
            else none
          else none
theorem lens_Equal_eq (E : Env) (p0 : Row) (p1 : Row) : runP E lens_Equal_a [p0, p1] = lens_Equal E p0 p1 := by kernel_rfl

def clapref3_same_h0 : Shape := { slots := [(3, .d (.one (.ref 25))), (36, .d (.one (.sl 55))), (37, .d (.one (.int .i64))), (38, .d (.one (.int .i64)))], objs := [] }
def clapref3_same_o0 : List (Exit' × Shape) := [(.exit 0, { slots := [], objs := [] }), (.ret, { slots := [(4, .d (.one (.bool)))], objs := [] })]
def clapref3_same_c0 : ACode := (.seq (.region [] [⟨some 39, .icmp .lss (.t 38) (.t 37), none, []⟩] false 0)
  (.seq (.cond (.t 39) .skip
  (.exit 0))
  (.seq (.block 1 (.seq (.region [] [⟨some 40, .mov (.t 38), none, []⟩,
    ⟨some 41, .iad 55 (.agg [.str, .int .i64, .int .i64, .str, .sl 55]) (.t 36) (.t 38), none, []⟩,
    ⟨some 42, .ld (.agg [.str, .int .i64, .int .i64, .str, .sl 55]) 55 (.t 41), none, []⟩,
    ⟨some 6, .allocO 0 (.agg [.str, .int .i64, .int .i64, .str, .sl 55]) [.str [], .int 0, .int 0, .str [], .nils], none, []⟩,
    ⟨some 5, .mov (.t 40), none, []⟩,
    ⟨none, .st (.agg [.str, .int .i64, .int .i64, .str, .sl 55]) (.t 6) (.t 42), none, []⟩] false 1)
  (.seq (.region [] [⟨some 43, .fad 0 1 55 9 (.t 6), none, []⟩,
    ⟨some 44, .ld (.one (.str)) 9 (.t 43), none, [0]⟩,
    ⟨some 45, .fad 3 1 25 23 (.t 3), none, []⟩,
    ⟨some 46, .ld (.one (.sl 55)) 23 (.t 45), none, [2]⟩,
    ⟨some 47, .mov (.t 5), none, []⟩,
    ⟨some 48, .iad 55 (.agg [.str, .int .i64, .int .i64, .str, .sl 55]) (.t 46) (.t 47), none, [2, 3, 4]⟩,
    ⟨some 49, .fad 0 1 55 9 (.t 48), none, [2, 3, 4, 5]⟩,
    ⟨some 50, .ld (.one (.str)) 9 (.t 49), none, [2, 3, 4, 5, 6]⟩,
    ⟨some 51, .scmp .neq (.t 44) (.t 50), none, [0, 1, 2, 3, 4, 5, 6, 7]⟩,
    ⟨some 52, .mov (.t 51), none, [0, 1, 2, 3, 4, 5, 6, 7, 8]⟩,
    ⟨some 53, .fad 1 4 55 25 (.t 6), some (52, false), [0, 1, 2, 3, 4, 5, 6, 7, 8, 9]⟩,
    ⟨some 54, .ld (.agg [.int .i64, .int .i64, .str, .sl 55]) 25 (.t 53), some (52, false), [0, 1, 2, 3, 4, 5, 6, 7, 8, 9, 10]⟩,
    ⟨some 55, .fad 3 1 25 23 (.t 3), some (52, false), [0, 1, 2, 3, 4, 5, 6, 7, 8, 9]⟩,
    ⟨some 56, .ld (.one (.sl 55)) 23 (.t 55), some (52, false), [0, 1, 2, 3, 4, 5, 6, 7, 8, 9, 12]⟩,
    ⟨some 57, .mov (.t 5), some (52, false), [0, 1, 2, 3, 4, 5, 6, 7, 8, 9]⟩,
    ⟨some 58, .iad 55 (.agg [.str, .int .i64, .int .i64, .str, .sl 55]) (.t 56) (.t 57), some (52, false), [0, 1, 2, 3, 4, 5, 6, 7, 8, 9, 12, 13, 14]⟩,
    ⟨some 59, .fad 1 4 55 25 (.t 58), some (52, false), [0, 1, 2, 3, 4, 5, 6, 7, 8, 9, 12, 13, 14, 15]⟩,
    ⟨some 60, .ld (.agg [.int .i64, .int .i64, .str, .sl 55]) 25 (.t 59), some (52, false), [0, 1, 2, 3, 4, 5, 6, 7, 8, 9, 12, 13, 14, 15, 16]⟩,
    ⟨some 61, .call 19 [(.agg [.int .i64, .int .i64, .str, .sl 55]), (.agg [.int .i64, .int .i64, .str, .sl 55])] [(.one (.bool))] [(.t 54), (.t 60)], some (52, false), [0, 1, 2, 3, 4, 5, 6, 7, 8, 9, 10, 11, 12, 13, 14, 15, 16, 17]⟩,
    ⟨some 62, .not (.t 61), some (52, false), [0, 1, 2, 3, 4, 5, 6, 7, 8, 9, 10, 11, 12, 13, 14, 15, 16, 17, 18]⟩,
    ⟨some 63, .pick (.t 52) (.c (.one (.bool)) [.bool true]) (.t 62), none, [0, 1, 2, 3, 4, 5, 6, 7, 8, 9, 10, 11, 12, 13, 14, 15, 16, 17, 18, 19]⟩] true 0)
  (.cond (.t 63) (.seq (.region [] [⟨some 4, .mov (.c (.one (.bool)) [.bool false]), none, []⟩] false 0)
  .ret)
  .skip))))
  (.region [] [⟨some 64, .ibin .add (.t 38) (.c (.one (.int .i64)) [.int 1]), none, []⟩,
    ⟨some 38, .mov (.t 64), none, []⟩] false 0))))
noncomputable def clapref3_same_l0 (E : Env) (v0 : C) (v1 : C) (v2 : Int) (v3 : Int) : Option (Nat × List PV) := E.fix (stepOf E clapref3_same_c0 clapref3_same_h0 clapref3_same_o0) [.r [v0], .r [v1], .r [.int v2], .r [.int v3]]
noncomputable def clapref3_same_b0 (E : Env) (X : C → C → Int → Int → Option (Nat × List PV)) (v0 : C) (v1 : C) (v2 : Int) (v3 : Int) : Option (Nat × List PV) :=
  if (decide (v3 < v2)) = true then
    if (0 : Int) ≤ v3 ∧ v3 < (v1.rows.length : Int) then
      if v0.isDp = true then
        if (0 : Int) ≤ v3 ∧ v3 < (((at_ v0.dpRow 3).rows).length : Int) then
          if (!(((at_ (rowsAt v1.rows v3.toNat) 0).toS) == ((at_ (rowsAt ((at_ v0.dpRow 3).rows) v3.toNat) 0).toS))) = true then
            some (1, [.r [.bool false]])
          else
            if v0.isDp = true then
              if (0 : Int) ≤ v3 ∧ v3 < (((at_ v0.dpRow 3).rows).length : Int) then
                (E.pc n_clapref3_same [[at_ (rowsAt v1.rows v3.toNat) 1, at_ (rowsAt v1.rows v3.toNat) 2, at_ (rowsAt v1.rows v3.toNat) 3, at_ (rowsAt v1.rows v3.toNat) 4], [at_ (rowsAt ((at_ v0.dpRow 3).rows) v3.toNat) 1, at_ (rowsAt ((at_ v0.dpRow 3).rows) v3.toNat) 2, at_ (rowsAt ((at_ v0.dpRow 3).rows) v3.toNat) 3, at_ (rowsAt ((at_ v0.dpRow 3).rows) v3.toNat) 4]]).bind fun y2 =>
                  if (!((at_ (rowsAt y2 0) 0).toB)) = true then
                    some (1, [.r [.bool false]])
                  else
                    X v0 v1 v2 (Go.IntKind.i64.wrap (v3 + 1))
              else none
            else none
        else none
      else none
    else none
  else
    some (0, [])
theorem clapref3_same_s0 (E : Env) (X : List PV → Option (Nat × List PV)) (v0 : C) (v1 : C) (v2 : Int) (v3 : Int) : stepOf E clapref3_same_c0 clapref3_same_h0 clapref3_same_o0 X [.r [v0], .r [v1], .r [.int v2], .r [.int v3]] = clapref3_same_b0 E (fun (v0 : C) (v1 : C) (v2 : Int) (v3 : Int) => X [.r [v0], .r [v1], .r [.int v2], .r [.int v3]]) v0 v1 v2 v3 := by kernel_rfl
def clapref3_same_a : AFun := { ps := [(.agg [.int .i64, .int .i64, .str, .sl 55]), (.agg [.int .i64, .int .i64, .str, .sl 55])], rs := [(.one (.bool))], res := [(false, 4, none)], body := (.seq (.region [] [⟨some 2, .boxP (.agg [.int .i64, .int .i64, .str, .sl 55]) 25 (.t 0), none, []⟩,
    ⟨some 3, .boxP (.agg [.int .i64, .int .i64, .str, .sl 55]) 25 (.t 1), none, []⟩,
    ⟨some 4, .mov (.c (.one (.bool)) [.bool false]), none, []⟩] false 0)
  (.seq (.seq (.join [(.normal, { slots := [(2, .d (.one (.ref 25))), (3, .d (.one (.ref 25))), (34, .d (.one (.bool)))], objs := [] })] (.region [] [⟨some 7, .fad 0 1 25 3 (.t 2), none, []⟩,
    ⟨some 8, .ld (.one (.int .i64)) 3 (.t 7), none, []⟩,
    ⟨some 9, .fad 0 1 25 3 (.t 3), none, []⟩,
    ⟨some 10, .ld (.one (.int .i64)) 3 (.t 9), none, []⟩,
    ⟨some 11, .icmp .neq (.t 8) (.t 10), none, []⟩,
    ⟨some 12, .mov (.t 11), none, []⟩,
    ⟨some 13, .fad 1 1 25 3 (.t 2), some (12, false), []⟩,
    ⟨some 14, .ld (.one (.int .i64)) 3 (.t 13), some (12, false), []⟩,
    ⟨some 15, .fad 1 1 25 3 (.t 3), some (12, false), []⟩,
    ⟨some 16, .ld (.one (.int .i64)) 3 (.t 15), some (12, false), []⟩,
    ⟨some 17, .icmp .neq (.t 14) (.t 16), some (12, false), []⟩,
    ⟨some 18, .pick (.t 12) (.c (.one (.bool)) [.bool true]) (.t 17), none, []⟩,
    ⟨some 19, .mov (.t 18), none, []⟩,
    ⟨some 20, .fad 2 1 25 9 (.t 2), some (19, false), []⟩,
    ⟨some 21, .ld (.one (.str)) 9 (.t 20), some (19, false), []⟩,
    ⟨some 22, .fad 2 1 25 9 (.t 3), some (19, false), []⟩,
    ⟨some 23, .ld (.one (.str)) 9 (.t 22), some (19, false), []⟩,
    ⟨some 24, .scmp .neq (.t 21) (.t 23), some (19, false), []⟩,
    ⟨some 25, .pick (.t 19) (.c (.one (.bool)) [.bool true]) (.t 24), none, []⟩,
    ⟨some 26, .mov (.t 25), none, []⟩,
    ⟨some 27, .fad 3 1 25 23 (.t 2), some (26, false), []⟩,
    ⟨some 28, .ld (.one (.sl 55)) 23 (.t 27), some (26, false), []⟩,
    ⟨some 29, .lenL (.t 28), some (26, false), []⟩,
    ⟨some 30, .fad 3 1 25 23 (.t 3), some (26, false), []⟩,
    ⟨some 31, .ld (.one (.sl 55)) 23 (.t 30), some (26, false), []⟩,
    ⟨some 32, .lenL (.t 31), some (26, false), []⟩,
    ⟨some 33, .icmp .neq (.t 29) (.t 32), some (26, false), []⟩,
    ⟨some 34, .pick (.t 26) (.c (.one (.bool)) [.bool true]) (.t 33), none, []⟩] false 0))
  (.cond (.t 34) (.seq (.region [] [⟨some 4, .mov (.c (.one (.bool)) [.bool false]), none, []⟩] false 0)
  .ret)
  .skip))
  (.seq (.seq (.region [] [⟨some 35, .fad 3 1 25 23 (.t 2), none, []⟩,
    ⟨some 36, .ld (.one (.sl 55)) 23 (.t 35), none, []⟩,
    ⟨some 37, .lenL (.t 36), none, []⟩,
    ⟨some 38, .mov (.c (.one (.int .i64)) [.int 0]), none, []⟩] false 0)
  (.block 0 (.loop clapref3_same_h0 clapref3_same_o0 clapref3_same_c0)))
  (.seq (.region [] [⟨some 4, .mov (.c (.one (.bool)) [.bool true]), none, []⟩] false 0)
  .ret)))) }
/-- clapperbridge/clapref3.same -/
noncomputable def clapref3_same (E : Env) (p0 : Row) (p1 : Row) : Option (List Row) :=
  (if (((at_ p0 0).toI) != ((at_ p1 0).toI)) = true then
    some (0, [.r [.dp p0], .r [.dp p1], .r [.bool true]])
  else
    if (((at_ p0 1).toI) != ((at_ p1 1).toI)) = true then
      some (0, [.r [.dp p0], .r [.dp p1], .r [.bool true]])
    else
      if (!(((at_ p0 2).toS) == ((at_ p1 2).toS))) = true then
        some (0, [.r [.dp p0], .r [.dp p1], .r [.bool true]])
      else
        some (0, [.r [.dp p0], .r [.dp p1], .r [.bool ((((at_ p0 3).rows).length : Int) != (((at_ p1 3).rows).length : Int))]])).bind fun x1 =>
    if ((at_ (hd x1.2.tail.tail) 0).toB) = true then
      some [[.bool false]]
    else
      if (at_ (hd x1.2) 0).isDp = true then
        (clapref3_same_l0 E (at_ (hd x1.2.tail) 0) (at_ ((at_ (hd x1.2) 0).dpRow) 3) (((at_ ((at_ (hd x1.2) 0).dpRow) 3).rows).length : Int) 0).bind fun x3 =>
          match x3.1 with
          | 0 =>
            some [[.bool true]]
          | i4 + 1 =>
            some [[.bool ((at_ (hd x3.2) 0).toB)]]
      else none
theorem clapref3_same_eq (E : Env) (p0 : Row) (p1 : Row) : runP E clapref3_same_a [p0, p1] = clapref3_same E p0 p1 := by kernel_rfl

def clapref3_Equal_h0 : Shape := { slots := [(2, .d (.one (.ref 29))), (3, .d (.one (.ref 29))), (90, .d (.one (.int .i64))), (91, .d (.one (.int .i64)))], objs := [] }
def clapref3_Equal_o0 : List (Exit' × Shape) := [(.exit 0, { slots := [(2, .d (.one (.ref 29))), (3, .d (.one (.ref 29)))], objs := [] }), (.ret, { slots := [(4, .d (.one (.bool)))], objs := [] })]
def clapref3_Equal_c0 : ACode := (.seq (.region [] [⟨some 92, .icmp .lss (.t 91) (.t 90), none, []⟩] false 0)
  (.seq (.cond (.t 92) .skip
  (.exit 0))
  (.seq (.block 1 (.seq (.region [] [⟨some 93, .mov (.t 91), none, []⟩,
    ⟨some 5, .mov (.t 93), none, []⟩] false 0)
  (.seq (.region [] [⟨some 94, .fad 3 1 29 22 (.t 2), none, []⟩,
    ⟨some 95, .ld (.one (.sl 9)) 22 (.t 94), none, [0]⟩,
    ⟨some 96, .mov (.t 5), none, []⟩,
    ⟨some 97, .iad 9 (.one (.str)) (.t 95) (.t 96), none, [0, 1, 2]⟩,
    ⟨some 98, .ld (.one (.str)) 9 (.t 97), none, [0, 1, 2, 3]⟩,
    ⟨some 99, .fad 3 1 29 22 (.t 3), none, []⟩,
    ⟨some 100, .ld (.one (.sl 9)) 22 (.t 99), none, [5]⟩,
    ⟨some 101, .mov (.t 5), none, []⟩,
    ⟨some 102, .iad 9 (.one (.str)) (.t 100) (.t 101), none, [5, 6, 7]⟩,
    ⟨some 103, .ld (.one (.str)) 9 (.t 102), none, [5, 6, 7, 8]⟩,
    ⟨some 104, .scmp .neq (.t 98) (.t 103), none, [0, 1, 2, 3, 4, 5, 6, 7, 8, 9]⟩] true 0)
  (.cond (.t 104) (.seq (.region [] [⟨some 4, .mov (.c (.one (.bool)) [.bool false]), none, []⟩] false 0)
  .ret)
  .skip))))
  (.region [] [⟨some 105, .ibin .add (.t 91) (.c (.one (.int .i64)) [.int 1]), none, []⟩,
    ⟨some 91, .mov (.t 105), none, []⟩] false 0))))
noncomputable def clapref3_Equal_l0 (E : Env) (v0 : C) (v1 : C) (v2 : Int) (v3 : Int) : Option (Nat × List PV) := E.fix (stepOf E clapref3_Equal_c0 clapref3_Equal_h0 clapref3_Equal_o0) [.r [v0], .r [v1], .r [.int v2], .r [.int v3]]
noncomputable def clapref3_Equal_b0 (E : Env) (X : C → C → Int → Int → Option (Nat × List PV)) (v0 : C) (v1 : C) (v2 : Int) (v3 : Int) : Option (Nat × List PV) :=
  if (decide (v3 < v2)) = true then
    if v0.isDp = true then
      if (0 : Int) ≤ v3 ∧ v3 < (((at_ v0.dpRow 3).rows).length : Int) then
        if v1.isDp = true then
          if (0 : Int) ≤ v3 ∧ v3 < (((at_ v1.dpRow 3).rows).length : Int) then
            if (!(((at_ (rowsAt ((at_ v0.dpRow 3).rows) v3.toNat) 0).toS) == ((at_ (rowsAt ((at_ v1.dpRow 3).rows) v3.toNat) 0).toS))) = true then
              some (1, [.r [.bool false]])
            else
              X v0 v1 v2 (Go.IntKind.i64.wrap (v3 + 1))
          else none
        else none
      else none
    else none
  else
    some (0, [.r [v0], .r [v1]])
theorem clapref3_Equal_s0 (E : Env) (X : List PV → Option (Nat × List PV)) (v0 : C) (v1 : C) (v2 : Int) (v3 : Int) : stepOf E clapref3_Equal_c0 clapref3_Equal_h0 clapref3_Equal_o0 X [.r [v0], .r [v1], .r [.int v2], .r [.int v3]] = clapref3_Equal_b0 E (fun (v0 : C) (v1 : C) (v2 : Int) (v3 : Int) => X [.r [v0], .r [v1], .r [.int v2], .r [.int v3]]) v0 v1 v2 v3 := by kernel_rfl
def clapref3_Equal_h1 : Shape := { slots := [(2, .d (.one (.ref 29))), (3, .d (.one (.ref 29))), (108, .d (.one (.int .i64))), (109, .d (.one (.int .i64)))], objs := [] }
def clapref3_Equal_o1 : List (Exit' × Shape) := [(.exit 2, { slots := [(2, .d (.one (.ref 29))), (3, .d (.one (.ref 29)))], objs := [] }), (.ret, { slots := [(4, .d (.one (.bool)))], objs := [] })]
def clapref3_Equal_c1 : ACode := (.seq (.region [] [⟨some 110, .icmp .lss (.t 109) (.t 108), none, []⟩] false 0)
  (.seq (.cond (.t 110) .skip
  (.exit 2))
  (.seq (.block 3 (.seq (.region [] [⟨some 111, .mov (.t 109), none, []⟩,
    ⟨some 6, .mov (.t 111), none, []⟩] false 0)
  (.seq (.region [] [⟨some 112, .fad 12 1 29 26 (.t 2), none, []⟩,
    ⟨some 113, .ld (.one (.sl 44)) 26 (.t 112), none, [0]⟩,
    ⟨some 114, .mov (.t 6), none, []⟩,
    ⟨some 115, .iad 44 (.agg [.int .i64, .int .i64, .str, .sl 55, .int .i64, .int .i64, .str, .sl 55]) (.t 113) (.t 114), none, [0, 1, 2]⟩,
    ⟨some 116, .iadA 2 44 25 (.agg [.int .i64, .int .i64, .str, .sl 55]) (.t 115) (.c (.one (.int .i64)) [.int 0]), none, [0, 1, 2, 3]⟩,
    ⟨some 117, .ld (.agg [.int .i64, .int .i64, .str, .sl 55]) 25 (.t 116), none, [0, 1, 2, 3, 4]⟩,
    ⟨some 118, .fad 12 1 29 26 (.t 3), none, []⟩,
    ⟨some 119, .ld (.one (.sl 44)) 26 (.t 118), none, [6]⟩,
    ⟨some 120, .mov (.t 6), none, []⟩,
    ⟨some 121, .iad 44 (.agg [.int .i64, .int .i64, .str, .sl 55, .int .i64, .int .i64, .str, .sl 55]) (.t 119) (.t 120), none, [6, 7, 8]⟩,
    ⟨some 122, .iadA 2 44 25 (.agg [.int .i64, .int .i64, .str, .sl 55]) (.t 121) (.c (.one (.int .i64)) [.int 0]), none, [6, 7, 8, 9]⟩,
    ⟨some 123, .ld (.agg [.int .i64, .int .i64, .str, .sl 55]) 25 (.t 122), none, [6, 7, 8, 9, 10]⟩,
    ⟨some 124, .call 19 [(.agg [.int .i64, .int .i64, .str, .sl 55]), (.agg [.int .i64, .int .i64, .str, .sl 55])] [(.one (.bool))] [(.t 117), (.t 123)], none, [0, 1, 2, 3, 4, 5, 6, 7, 8, 9, 10, 11]⟩,
    ⟨some 125, .not (.t 124), none, [0, 1, 2, 3, 4, 5, 6, 7, 8, 9, 10, 11, 12]⟩,
    ⟨some 126, .mov (.t 125), none, [0, 1, 2, 3, 4, 5, 6, 7, 8, 9, 10, 11, 12, 13]⟩,
    ⟨some 127, .fad 12 1 29 26 (.t 2), some (126, false), [0, 1, 2, 3, 4, 5, 6, 7, 8, 9, 10, 11, 12, 13, 14]⟩,
    ⟨some 128, .ld (.one (.sl 44)) 26 (.t 127), some (126, false), [0, 1, 2, 3, 4, 5, 6, 7, 8, 9, 10, 11, 12, 13, 14, 15]⟩,
    ⟨some 129, .mov (.t 6), some (126, false), [0, 1, 2, 3, 4, 5, 6, 7, 8, 9, 10, 11, 12, 13, 14]⟩,
    ⟨some 130, .iad 44 (.agg [.int .i64, .int .i64, .str, .sl 55, .int .i64, .int .i64, .str, .sl 55]) (.t 128) (.t 129), some (126, false), [0, 1, 2, 3, 4, 5, 6, 7, 8, 9, 10, 11, 12, 13, 14, 15, 16, 17]⟩,
    ⟨some 131, .iadA 2 44 25 (.agg [.int .i64, .int .i64, .str, .sl 55]) (.t 130) (.c (.one (.int .i64)) [.int 1]), some (126, false), [0, 1, 2, 3, 4, 5, 6, 7, 8, 9, 10, 11, 12, 13, 14, 15, 16, 17, 18]⟩,
    ⟨some 132, .ld (.agg [.int .i64, .int .i64, .str, .sl 55]) 25 (.t 131), some (126, false), [0, 1, 2, 3, 4, 5, 6, 7, 8, 9, 10, 11, 12, 13, 14, 15, 16, 17, 18, 19]⟩,
    ⟨some 133, .fad 12 1 29 26 (.t 3), some (126, false), [0, 1, 2, 3, 4, 5, 6, 7, 8, 9, 10, 11, 12, 13, 14]⟩,
    ⟨some 134, .ld (.one (.sl 44)) 26 (.t 133), some (126, false), [0, 1, 2, 3, 4, 5, 6, 7, 8, 9, 10, 11, 12, 13, 14, 21]⟩,
    ⟨some 135, .mov (.t 6), some (126, false), [0, 1, 2, 3, 4, 5, 6, 7, 8, 9, 10, 11, 12, 13, 14]⟩,
    ⟨some 136, .iad 44 (.agg [.int .i64, .int .i64, .str, .sl 55, .int .i64, .int .i64, .str, .sl 55]) (.t 134) (.t 135), some (126, false), [0, 1, 2, 3, 4, 5, 6, 7, 8, 9, 10, 11, 12, 13, 14, 21, 22, 23]⟩,
    ⟨some 137, .iadA 2 44 25 (.agg [.int .i64, .int .i64, .str, .sl 55]) (.t 136) (.c (.one (.int .i64)) [.int 1]), some (126, false), [0, 1, 2, 3, 4, 5, 6, 7, 8, 9, 10, 11, 12, 13, 14, 21, 22, 23, 24]⟩,
    ⟨some 138, .ld (.agg [.int .i64, .int .i64, .str, .sl 55]) 25 (.t 137), some (126, false), [0, 1, 2, 3, 4, 5, 6, 7, 8, 9, 10, 11, 12, 13, 14, 21, 22, 23, 24, 25]⟩,
    ⟨some 139, .call 19 [(.agg [.int .i64, .int .i64, .str, .sl 55]), (.agg [.int .i64, .int .i64, .str, .sl 55])] [(.one (.bool))] [(.t 132), (.t 138)], some (126, false), [0, 1, 2, 3, 4, 5, 6, 7, 8, 9, 10, 11, 12, 13, 14, 15, 16, 17, 18, 19, 20, 21, 22, 23, 24, 25, 26]⟩,
    ⟨some 140, .not (.t 139), some (126, false), [0, 1, 2, 3, 4, 5, 6, 7, 8, 9, 10, 11, 12, 13, 14, 15, 16, 17, 18, 19, 20, 21, 22, 23, 24, 25, 26, 27]⟩,
    ⟨some 141, .pick (.t 126) (.c (.one (.bool)) [.bool true]) (.t 140), none, [0, 1, 2, 3, 4, 5, 6, 7, 8, 9, 10, 11, 12, 13, 14, 15, 16, 17, 18, 19, 20, 21, 22, 23, 24, 25, 26, 27, 28]⟩] true 0)
  (.cond (.t 141) (.seq (.region [] [⟨some 4, .mov (.c (.one (.bool)) [.bool false]), none, []⟩] false 0)
  .ret)
  .skip))))
  (.region [] [⟨some 142, .ibin .add (.t 109) (.c (.one (.int .i64)) [.int 1]), none, []⟩,
    ⟨some 109, .mov (.t 142), none, []⟩] false 0))))
noncomputable def clapref3_Equal_l1 (E : Env) (v0 : C) (v1 : C) (v2 : Int) (v3 : Int) : Option (Nat × List PV) := E.fix (stepOf E clapref3_Equal_c1 clapref3_Equal_h1 clapref3_Equal_o1) [.r [v0], .r [v1], .r [.int v2], .r [.int v3]]
noncomputable def clapref3_Equal_b1 (E : Env) (X : C → C → Int → Int → Option (Nat × List PV)) (v0 : C) (v1 : C) (v2 : Int) (v3 : Int) : Option (Nat × List PV) :=
  if (decide (v3 < v2)) = true then
    if v0.isDp = true then
      if (0 : Int) ≤ v3 ∧ v3 < (((at_ v0.dpRow 12).rows).length : Int) then
        if v1.isDp = true then
          if (0 : Int) ≤ v3 ∧ v3 < (((at_ v1.dpRow 12).rows).length : Int) then
            (E.pc n_clapref3_same [[at_ (rowsAt ((at_ v0.dpRow 12).rows) v3.toNat) 0, at_ (rowsAt ((at_ v0.dpRow 12).rows) v3.toNat) 1, at_ (rowsAt ((at_ v0.dpRow 12).rows) v3.toNat) 2, at_ (rowsAt ((at_ v0.dpRow 12).rows) v3.toNat) 3], [at_ (rowsAt ((at_ v1.dpRow 12).rows) v3.toNat) 0, at_ (rowsAt ((at_ v1.dpRow 12).rows) v3.toNat) 1, at_ (rowsAt ((at_ v1.dpRow 12).rows) v3.toNat) 2, at_ (rowsAt ((at_ v1.dpRow 12).rows) v3.toNat) 3]]).bind fun y6 =>
              if (!((at_ (rowsAt y6 0) 0).toB)) = true then
                some (1, [.r [.bool false]])
              else
                if v0.isDp = true then
                  if (0 : Int) ≤ v3 ∧ v3 < (((at_ v0.dpRow 12).rows).length : Int) then
                    if v1.isDp = true then
                      if (0 : Int) ≤ v3 ∧ v3 < (((at_ v1.dpRow 12).rows).length : Int) then
                        (E.pc n_clapref3_same [[at_ (rowsAt ((at_ v0.dpRow 12).rows) v3.toNat) 4, at_ (rowsAt ((at_ v0.dpRow 12).rows) v3.toNat) 5, at_ (rowsAt ((at_ v0.dpRow 12).rows) v3.toNat) 6, at_ (rowsAt ((at_ v0.dpRow 12).rows) v3.toNat) 7], [at_ (rowsAt ((at_ v1.dpRow 12).rows) v3.toNat) 4, at_ (rowsAt ((at_ v1.dpRow 12).rows) v3.toNat) 5, at_ (rowsAt ((at_ v1.dpRow 12).rows) v3.toNat) 6, at_ (rowsAt ((at_ v1.dpRow 12).rows) v3.toNat) 7]]).bind fun y7 =>
                          if (!((at_ (rowsAt y7 0) 0).toB)) = true then
                            some (1, [.r [.bool false]])
                          else
                            X v0 v1 v2 (Go.IntKind.i64.wrap (v3 + 1))
                      else none
                    else none
                  else none
                else none
          else none
        else none
      else none
    else none
  else
    some (0, [.r [v0], .r [v1]])
theorem clapref3_Equal_s1 (E : Env) (X : List PV → Option (Nat × List PV)) (v0 : C) (v1 : C) (v2 : Int) (v3 : Int) : stepOf E clapref3_Equal_c1 clapref3_Equal_h1 clapref3_Equal_o1 X [.r [v0], .r [v1], .r [.int v2], .r [.int v3]] = clapref3_Equal_b1 E (fun (v0 : C) (v1 : C) (v2 : Int) (v3 : Int) => X [.r [v0], .r [v1], .r [.int v2], .r [.int v3]]) v0 v1 v2 v3 := by kernel_rfl
def clapref3_Equal_h2 : Shape := { slots := [(2, .d (.one (.ref 29))), (3, .d (.one (.ref 29))), (145, .d (.one (.int .i64))), (146, .d (.one (.int .i64)))], objs := [] }
def clapref3_Equal_o2 : List (Exit' × Shape) := [(.exit 4, { slots := [], objs := [] }), (.ret, { slots := [(4, .d (.one (.bool)))], objs := [] })]
def clapref3_Equal_c2 : ACode := (.seq (.region [] [⟨some 147, .icmp .lss (.t 146) (.t 145), none, []⟩] false 0)
  (.seq (.cond (.t 147) .skip
  (.exit 4))
  (.seq (.block 5 (.seq (.region [] [⟨some 148, .mov (.t 146), none, []⟩,
    ⟨some 7, .mov (.t 148), none, []⟩] false 0)
  (.seq (.region [] [⟨some 149, .fad 13 1 29 27 (.t 2), none, []⟩,
    ⟨some 150, .ld (.one (.sl 29)) 27 (.t 149), none, [0]⟩,
    ⟨some 151, .mov (.t 7), none, []⟩,
    ⟨some 152, .iad 29 (.agg [.int .i64, .str, .str, .sl 9, .int .i64, .int .i64, .int .i64, .int .u8, .int .i64, .int .i64, .str, .sl 55, .sl 44, .sl 29]) (.t 150) (.t 151), none, [0, 1, 2]⟩,
    ⟨some 153, .ld (.agg [.int .i64, .str, .str, .sl 9, .int .i64, .int .i64, .int .i64, .int .u8, .int .i64, .int .i64, .str, .sl 55, .sl 44, .sl 29]) 29 (.t 152), none, [0, 1, 2, 3]⟩,
    ⟨some 154, .fad 13 1 29 27 (.t 3), none, []⟩,
    ⟨some 155, .ld (.one (.sl 29)) 27 (.t 154), none, [5]⟩,
    ⟨some 156, .mov (.t 7), none, []⟩,
    ⟨some 157, .iad 29 (.agg [.int .i64, .str, .str, .sl 9, .int .i64, .int .i64, .int .i64, .int .u8, .int .i64, .int .i64, .str, .sl 55, .sl 44, .sl 29]) (.t 155) (.t 156), none, [5, 6, 7]⟩,
    ⟨some 158, .ld (.agg [.int .i64, .str, .str, .sl 9, .int .i64, .int .i64, .int .i64, .int .u8, .int .i64, .int .i64, .str, .sl 55, .sl 44, .sl 29]) 29 (.t 157), none, [5, 6, 7, 8]⟩,
    ⟨some 159, .call 7 [(.agg [.int .i64, .str, .str, .sl 9, .int .i64, .int .i64, .int .i64, .int .u8, .int .i64, .int .i64, .str, .sl 55, .sl 44, .sl 29]), (.agg [.int .i64, .str, .str, .sl 9, .int .i64, .int .i64, .int .i64, .int .u8, .int .i64, .int .i64, .str, .sl 55, .sl 44, .sl 29])] [(.one (.bool))] [(.t 153), (.t 158)], none, [0, 1, 2, 3, 4, 5, 6, 7, 8, 9]⟩,
    ⟨some 160, .not (.t 159), none, [0, 1, 2, 3, 4, 5, 6, 7, 8, 9, 10]⟩] true 0)
  (.cond (.t 160) (.seq (.region [] [⟨some 4, .mov (.c (.one (.bool)) [.bool false]), none, []⟩] false 0)
  .ret)
  .skip))))
  (.region [] [⟨some 161, .ibin .add (.t 146) (.c (.one (.int .i64)) [.int 1]), none, []⟩,
    ⟨some 146, .mov (.t 161), none, []⟩] false 0))))
noncomputable def clapref3_Equal_l2 (E : Env) (v0 : C) (v1 : C) (v2 : Int) (v3 : Int) : Option (Nat × List PV) := E.fix (stepOf E clapref3_Equal_c2 clapref3_Equal_h2 clapref3_Equal_o2) [.r [v0], .r [v1], .r [.int v2], .r [.int v3]]
noncomputable def clapref3_Equal_b2 (E : Env) (X : C → C → Int → Int → Option (Nat × List PV)) (v0 : C) (v1 : C) (v2 : Int) (v3 : Int) : Option (Nat × List PV) :=
  if (decide (v3 < v2)) = true then
    if v0.isDp = true then
      if (0 : Int) ≤ v3 ∧ v3 < (((at_ v0.dpRow 13).rows).length : Int) then
        if v1.isDp = true then
          if (0 : Int) ≤ v3 ∧ v3 < (((at_ v1.dpRow 13).rows).length : Int) then
            (E.pc n_clapref3_Equal [rowsAt ((at_ v0.dpRow 13).rows) v3.toNat, rowsAt ((at_ v1.dpRow 13).rows) v3.toNat]).bind fun y10 =>
              if (!((at_ (rowsAt y10 0) 0).toB)) = true then
                some (1, [.r [.bool false]])
              else
                X v0 v1 v2 (Go.IntKind.i64.wrap (v3 + 1))
          else none
        else none
      else none
    else none
  else
    some (0, [])
theorem clapref3_Equal_s2 (E : Env) (X : List PV → Option (Nat × List PV)) (v0 : C) (v1 : C) (v2 : Int) (v3 : Int) : stepOf E clapref3_Equal_c2 clapref3_Equal_h2 clapref3_Equal_o2 X [.r [v0], .r [v1], .r [.int v2], .r [.int v3]] = clapref3_Equal_b2 E (fun (v0 : C) (v1 : C) (v2 : Int) (v3 : Int) => X [.r [v0], .r [v1], .r [.int v2], .r [.int v3]]) v0 v1 v2 v3 := by kernel_rfl
def clapref3_Equal_a : AFun := { ps := [(.agg [.int .i64, .str, .str, .sl 9, .int .i64, .int .i64, .int .i64, .int .u8, .int .i64, .int .i64, .str, .sl 55, .sl 44, .sl 29]), (.agg [.int .i64, .str, .str, .sl 9, .int .i64, .int .i64, .int .i64, .int .u8, .int .i64, .int .i64, .str, .sl 55, .sl 44, .sl 29])], rs := [(.one (.bool))], res := [(false, 4, none)], body := (.seq (.region [] [⟨some 2, .boxP (.agg [.int .i64, .str, .str, .sl 9, .int .i64, .int .i64, .int .i64, .int .u8, .int .i64, .int .i64, .str, .sl 55, .sl 44, .sl 29]) 29 (.t 0), none, []⟩,
    ⟨some 3, .boxP (.agg [.int .i64, .str, .str, .sl 9, .int .i64, .int .i64, .int .i64, .int .u8, .int .i64, .int .i64, .str, .sl 55, .sl 44, .sl 29]) 29 (.t 1), none, []⟩,
    ⟨some 4, .mov (.c (.one (.bool)) [.bool false]), none, []⟩] false 0)
  (.seq (.seq (.join [(.normal, { slots := [(2, .d (.one (.ref 29))), (3, .d (.one (.ref 29))), (62, .d (.one (.bool)))], objs := [] })] (.region [] [⟨some 8, .fad 0 1 29 3 (.t 2), none, []⟩,
    ⟨some 9, .ld (.one (.int .i64)) 3 (.t 8), none, []⟩,
    ⟨some 10, .fad 0 1 29 3 (.t 3), none, []⟩,
    ⟨some 11, .ld (.one (.int .i64)) 3 (.t 10), none, []⟩,
    ⟨some 12, .icmp .neq (.t 9) (.t 11), none, []⟩,
    ⟨some 13, .mov (.t 12), none, []⟩,
    ⟨some 14, .fad 1 1 29 9 (.t 2), some (13, false), []⟩,
    ⟨some 15, .ld (.one (.str)) 9 (.t 14), some (13, false), []⟩,
    ⟨some 16, .fad 1 1 29 9 (.t 3), some (13, false), []⟩,
    ⟨some 17, .ld (.one (.str)) 9 (.t 16), some (13, false), []⟩,
    ⟨some 18, .scmp .neq (.t 15) (.t 17), some (13, false), []⟩,
    ⟨some 19, .pick (.t 13) (.c (.one (.bool)) [.bool true]) (.t 18), none, []⟩,
    ⟨some 20, .mov (.t 19), none, []⟩,
    ⟨some 21, .fad 2 1 29 9 (.t 2), some (20, false), []⟩,
    ⟨some 22, .ld (.one (.str)) 9 (.t 21), some (20, false), []⟩,
    ⟨some 23, .fad 2 1 29 9 (.t 3), some (20, false), []⟩,
    ⟨some 24, .ld (.one (.str)) 9 (.t 23), some (20, false), []⟩,
    ⟨some 25, .scmp .neq (.t 22) (.t 24), some (20, false), []⟩,
    ⟨some 26, .pick (.t 20) (.c (.one (.bool)) [.bool true]) (.t 25), none, []⟩,
    ⟨some 27, .mov (.t 26), none, []⟩,
    ⟨some 28, .fad 4 1 29 3 (.t 2), some (27, false), []⟩,
    ⟨some 29, .ld (.one (.int .i64)) 3 (.t 28), some (27, false), []⟩,
    ⟨some 30, .fad 4 1 29 3 (.t 3), some (27, false), []⟩,
    ⟨some 31, .ld (.one (.int .i64)) 3 (.t 30), some (27, false), []⟩,
    ⟨some 32, .icmp .neq (.t 29) (.t 31), some (27, false), []⟩,
    ⟨some 33, .pick (.t 27) (.c (.one (.bool)) [.bool true]) (.t 32), none, []⟩,
    ⟨some 34, .mov (.t 33), none, []⟩,
    ⟨some 35, .fad 5 1 29 3 (.t 2), some (34, false), []⟩,
    ⟨some 36, .ld (.one (.int .i64)) 3 (.t 35), some (34, false), []⟩,
    ⟨some 37, .fad 5 1 29 3 (.t 3), some (34, false), []⟩,
    ⟨some 38, .ld (.one (.int .i64)) 3 (.t 37), some (34, false), []⟩,
    ⟨some 39, .icmp .neq (.t 36) (.t 38), some (34, false), []⟩,
    ⟨some 40, .pick (.t 34) (.c (.one (.bool)) [.bool true]) (.t 39), none, []⟩,
    ⟨some 41, .mov (.t 40), none, []⟩,
    ⟨some 42, .fad 6 1 29 3 (.t 2), some (41, false), []⟩,
    ⟨some 43, .ld (.one (.int .i64)) 3 (.t 42), some (41, false), []⟩,
    ⟨some 44, .fad 6 1 29 3 (.t 3), some (41, false), []⟩,
    ⟨some 45, .ld (.one (.int .i64)) 3 (.t 44), some (41, false), []⟩,
    ⟨some 46, .icmp .neq (.t 43) (.t 45), some (41, false), []⟩,
    ⟨some 47, .pick (.t 41) (.c (.one (.bool)) [.bool true]) (.t 46), none, []⟩,
    ⟨some 48, .mov (.t 47), none, []⟩,
    ⟨some 49, .fad 7 1 29 5 (.t 2), some (48, false), []⟩,
    ⟨some 50, .ld (.one (.int .u8)) 5 (.t 49), some (48, false), []⟩,
    ⟨some 51, .fad 7 1 29 5 (.t 3), some (48, false), []⟩,
    ⟨some 52, .ld (.one (.int .u8)) 5 (.t 51), some (48, false), []⟩,
    ⟨some 53, .icmp .neq (.t 50) (.t 52), some (48, false), []⟩,
    ⟨some 54, .pick (.t 48) (.c (.one (.bool)) [.bool true]) (.t 53), none, []⟩,
    ⟨some 55, .mov (.t 54), none, []⟩,
    ⟨some 56, .fad 8 4 29 25 (.t 2), some (55, false), []⟩,
    ⟨some 57, .ld (.agg [.int .i64, .int .i64, .str, .sl 55]) 25 (.t 56), some (55, false), []⟩,
    ⟨some 58, .fad 8 4 29 25 (.t 3), some (55, false), []⟩,
    ⟨some 59, .ld (.agg [.int .i64, .int .i64, .str, .sl 55]) 25 (.t 58), some (55, false), []⟩,
    ⟨some 60, .call 19 [(.agg [.int .i64, .int .i64, .str, .sl 55]), (.agg [.int .i64, .int .i64, .str, .sl 55])] [(.one (.bool))] [(.t 57), (.t 59)], some (55, false), []⟩,
    ⟨some 61, .not (.t 60), some (55, false), []⟩,
    ⟨some 62, .pick (.t 55) (.c (.one (.bool)) [.bool true]) (.t 61), none, []⟩] false 0))
  (.cond (.t 62) (.seq (.region [] [⟨some 4, .mov (.c (.one (.bool)) [.bool false]), none, []⟩] false 0)
  .ret)
  .skip))
  (.seq (.seq (.join [(.normal, { slots := [(2, .d (.one (.ref 29))), (3, .d (.one (.ref 29))), (87, .d (.one (.bool)))], objs := [] })] (.region [] [⟨some 63, .fad 3 1 29 22 (.t 2), none, []⟩,
    ⟨some 64, .ld (.one (.sl 9)) 22 (.t 63), none, []⟩,
    ⟨some 65, .lenL (.t 64), none, []⟩,
    ⟨some 66, .fad 3 1 29 22 (.t 3), none, []⟩,
    ⟨some 67, .ld (.one (.sl 9)) 22 (.t 66), none, []⟩,
    ⟨some 68, .lenL (.t 67), none, []⟩,
    ⟨some 69, .icmp .neq (.t 65) (.t 68), none, []⟩,
    ⟨some 70, .mov (.t 69), none, []⟩,
    ⟨some 71, .fad 12 1 29 26 (.t 2), some (70, false), []⟩,
    ⟨some 72, .ld (.one (.sl 44)) 26 (.t 71), some (70, false), []⟩,
    ⟨some 73, .lenL (.t 72), some (70, false), []⟩,
    ⟨some 74, .fad 12 1 29 26 (.t 3), some (70, false), []⟩,
    ⟨some 75, .ld (.one (.sl 44)) 26 (.t 74), some (70, false), []⟩,
    ⟨some 76, .lenL (.t 75), some (70, false), []⟩,
    ⟨some 77, .icmp .neq (.t 73) (.t 76), some (70, false), []⟩,
    ⟨some 78, .pick (.t 70) (.c (.one (.bool)) [.bool true]) (.t 77), none, []⟩,
    ⟨some 79, .mov (.t 78), none, []⟩,
    ⟨some 80, .fad 13 1 29 27 (.t 2), some (79, false), []⟩,
    ⟨some 81, .ld (.one (.sl 29)) 27 (.t 80), some (79, false), []⟩,
    ⟨some 82, .lenL (.t 81), some (79, false), []⟩,
    ⟨some 83, .fad 13 1 29 27 (.t 3), some (79, false), []⟩,
    ⟨some 84, .ld (.one (.sl 29)) 27 (.t 83), some (79, false), []⟩,
    ⟨some 85, .lenL (.t 84), some (79, false), []⟩,
    ⟨some 86, .icmp .neq (.t 82) (.t 85), some (79, false), []⟩,
    ⟨some 87, .pick (.t 79) (.c (.one (.bool)) [.bool true]) (.t 86), none, []⟩] false 0))
  (.cond (.t 87) (.seq (.region [] [⟨some 4, .mov (.c (.one (.bool)) [.bool false]), none, []⟩] false 0)
  .ret)
  .skip))
  (.seq (.seq (.region [] [⟨some 88, .fad 3 1 29 22 (.t 2), none, []⟩,
    ⟨some 89, .ld (.one (.sl 9)) 22 (.t 88), none, []⟩,
    ⟨some 90, .lenL (.t 89), none, []⟩,
    ⟨some 91, .mov (.c (.one (.int .i64)) [.int 0]), none, []⟩] false 0)
  (.block 0 (.loop clapref3_Equal_h0 clapref3_Equal_o0 clapref3_Equal_c0)))
  (.seq (.seq (.region [] [⟨some 106, .fad 12 1 29 26 (.t 2), none, []⟩,
    ⟨some 107, .ld (.one (.sl 44)) 26 (.t 106), none, []⟩,
    ⟨some 108, .lenL (.t 107), none, []⟩,
    ⟨some 109, .mov (.c (.one (.int .i64)) [.int 0]), none, []⟩] false 0)
  (.block 2 (.loop clapref3_Equal_h1 clapref3_Equal_o1 clapref3_Equal_c1)))
  (.seq (.seq (.region [] [⟨some 143, .fad 13 1 29 27 (.t 2), none, []⟩,
    ⟨some 144, .ld (.one (.sl 29)) 27 (.t 143), none, []⟩,
    ⟨some 145, .lenL (.t 144), none, []⟩,
    ⟨some 146, .mov (.c (.one (.int .i64)) [.int 0]), none, []⟩] false 0)
  (.block 4 (.loop clapref3_Equal_h2 clapref3_Equal_o2 clapref3_Equal_c2)))
  (.seq (.region [] [⟨some 4, .mov (.c (.one (.bool)) [.bool true]), none, []⟩] false 0)
  .ret))))))) }
/-- clapperbridge/clapref3.Equal -/
noncomputable def clapref3_Equal (E : Env) (p0 : Row) (p1 : Row) : Option (List Row) :=
  (if (((at_ p0 0).toI) != ((at_ p1 0).toI)) = true then
    some (0, [.r [.dp p0], .r [.dp p1], .r [.bool true]])
  else
    if (!(((at_ p0 1).toS) == ((at_ p1 1).toS))) = true then
      some (0, [.r [.dp p0], .r [.dp p1], .r [.bool true]])
    else
      if (!(((at_ p0 2).toS) == ((at_ p1 2).toS))) = true then
        some (0, [.r [.dp p0], .r [.dp p1], .r [.bool true]])
      else
        if (((at_ p0 4).toI) != ((at_ p1 4).toI)) = true then
          some (0, [.r [.dp p0], .r [.dp p1], .r [.bool true]])
        else
          if (((at_ p0 5).toI) != ((at_ p1 5).toI)) = true then
            some (0, [.r [.dp p0], .r [.dp p1], .r [.bool true]])
          else
            if (((at_ p0 6).toI) != ((at_ p1 6).toI)) = true then
              some (0, [.r [.dp p0], .r [.dp p1], .r [.bool true]])
            else
              if (((at_ p0 7).toI) != ((at_ p1 7).toI)) = true then
                some (0, [.r [.dp p0], .r [.dp p1], .r [.bool true]])
              else
                (E.pc n_clapref3_same [[at_ p0 8, at_ p0 9, at_ p0 10, at_ p0 11], [at_ p1 8, at_ p1 9, at_ p1 10, at_ p1 11]]).bind fun y1 =>
                  some (0, [.r [.dp p0], .r [.dp p1], .r [.bool (!((at_ (rowsAt y1 0) 0).toB))]])).bind fun x2 =>
    if ((at_ (hd x2.2.tail.tail) 0).toB) = true then
      some [[.bool false]]
    else
      (if (at_ (hd x2.2) 0).isDp = true then
        if (at_ (hd x2.2.tail) 0).isDp = true then
          if ((((at_ ((at_ (hd x2.2) 0).dpRow) 3).rows).length : Int) != (((at_ ((at_ (hd x2.2.tail) 0).dpRow) 3).rows).length : Int)) = true then
            some (0, [.r [at_ (hd x2.2) 0], .r [at_ (hd x2.2.tail) 0], .r [.bool true]])
          else
            if (at_ (hd x2.2) 0).isDp = true then
              if (at_ (hd x2.2.tail) 0).isDp = true then
                if ((((at_ ((at_ (hd x2.2) 0).dpRow) 12).rows).length : Int) != (((at_ ((at_ (hd x2.2.tail) 0).dpRow) 12).rows).length : Int)) = true then
                  some (0, [.r [at_ (hd x2.2) 0], .r [at_ (hd x2.2.tail) 0], .r [.bool true]])
                else
                  if (at_ (hd x2.2) 0).isDp = true then
                    if (at_ (hd x2.2.tail) 0).isDp = true then
                      some (0, [.r [at_ (hd x2.2) 0], .r [at_ (hd x2.2.tail) 0], .r [.bool ((((at_ ((at_ (hd x2.2) 0).dpRow) 13).rows).length : Int) != (((at_ ((at_ (hd x2.2.tail) 0).dpRow) 13).rows).length : Int))]])
                    else none
                  else none
              else none
            else none
        else none
      else none).bind fun x3 =>
        if ((at_ (hd x3.2.tail.tail) 0).toB) = true then
          some [[.bool false]]
        else
          if (at_ (hd x3.2) 0).isDp = true then
            (clapref3_Equal_l0 E (at_ (hd x3.2) 0) (at_ (hd x3.2.tail) 0) (((at_ ((at_ (hd x3.2) 0).dpRow) 3).rows).length : Int) 0).bind fun x4 =>
              match x4.1 with
              | 0 =>
                if (at_ (hd x4.2) 0).isDp = true then
                  (clapref3_Equal_l1 E (at_ (hd x4.2) 0) (at_ (hd x4.2.tail) 0) (((at_ ((at_ (hd x4.2) 0).dpRow) 12).rows).length : Int) 0).bind fun x8 =>
                    match x8.1 with
                    | 0 =>
                      if (at_ (hd x8.2) 0).isDp = true then
                        (clapref3_Equal_l2 E (at_ (hd x8.2) 0) (at_ (hd x8.2.tail) 0) (((at_ ((at_ (hd x8.2) 0).dpRow) 13).rows).length : Int) 0).bind fun x11 =>
                          match x11.1 with
                          | 0 =>
                            some [[.bool true]]
                          | i12 + 1 =>
                            some [[.bool ((at_ (hd x11.2) 0).toB)]]
                      else none
                    | i9 + 1 =>
                      some [[.bool ((at_ (hd x8.2) 0).toB)]]
                else none
              | i5 + 1 =>
                some [[.bool ((at_ (hd x4.2) 0).toB)]]
          else none
theorem clapref3_Equal_eq (E : Env) (p0 : Row) (p1 : Row) : runP E clapref3_Equal_a [p0, p1] = clapref3_Equal E p0 p1 := by kernel_rfl

def slices_Clone_api_Field_i2_a : AImp := { fn := 25, entry := slices_Clone_api_Field_i2_en, res := [.tmp 2], exit := slices_Clone_api_Field_i2_ex, body := (.seq (.region [] [⟨some 2, .nilO 0 (.agg [.str, .int .i64, .int .i64, .str, .sl 55]), none, []⟩] false 1)
  (.seq (.seq (.region [] [⟨some 3, .mov (.t 0), none, []⟩,
    ⟨some 4, .nileq false (.t 3), none, []⟩] false 0)
  (.cond (.t 4) (.seq (.region [] [⟨some 2, .nilO 0 (.agg [.str, .int .i64, .int .i64, .str, .sl 55]), none, []⟩] false 1)
  .ret)
  .skip))
  (.seq (.region [] [⟨some 5, .bslO 0 55 (.agg [.str, .int .i64, .int .i64, .str, .sl 55]) 0 [.str [], .int 0, .int 0, .str [], .nils] [], none, []⟩,
    ⟨some 6, .mov (.t 0), none, []⟩,
    ⟨some 7, .app 1 55 (.agg [.str, .int .i64, .int .i64, .str, .sl 55]) 72 (.t 5) (.t 6), none, []⟩,
    ⟨some 2, .mov (.t 7), none, []⟩] false 2)
  .ret))) }
/-- slices.Clone[[]clapperbridge/api.Field,clapperbridge/api.Field], to which objects are handed -/
noncomputable def slices_Clone_api_Field_i2 (E : Env) (p0 : C) : Option (List PV) :=
  if p0.isNil = true then
    some [.r [.nils]]
  else
    if (([] : List Row).length + p0.rows.length) * 72 ≤ 140737488355328 then
      some [.r [appC (.sl ([] : List Row)) p0.rows]]
    else none
theorem slices_Clone_api_Field_i2_eq (E : Env) (p0 : C) : runI E slices_Clone_api_Field_i2_a [.r [p0]] = slices_Clone_api_Field_i2 E p0 := by kernel_rfl

def value_Copy_i3_h0 : Shape := { slots := [(1, .ptr 0 0), (2, .ptr 1 0), (10, .d (.one (.int .i64))), (11, .d (.one (.int .i64)))], objs := [.cells false [.d (.one (.int .i64)), .d (.one (.int .i64)), .d (.one (.str)), .whole 2], .var (.agg [.int .i64, .int .i64, .str, .sl 55]), .arr (.agg [.str, .int .i64, .int .i64, .str, .sl 55])] }
def value_Copy_i3_o0 : List (Exit' × Shape) := [(.exit 0, { slots := [(1, .ptr 0 0), (2, .ptr 1 0)], objs := [.cells false [.d (.one (.int .i64)), .d (.one (.int .i64)), .d (.one (.str)), .whole 2], .var (.agg [.int .i64, .int .i64, .str, .sl 55]), .arr (.agg [.str, .int .i64, .int .i64, .str, .sl 55])] })]
def value_Copy_i3_c0 : ACode := (.seq (.region [] [⟨some 12, .icmp .lss (.t 11) (.t 10), none, []⟩] false 0)
  (.seq (.cond (.t 12) .skip
  (.exit 0))
  (.seq (.block 1 (.seq (.region [] [⟨some 13, .mov (.t 11), none, []⟩,
    ⟨some 3, .mov (.t 13), none, []⟩] false 0)
  (.region [] [⟨some 14, .fad 3 1 25 23 (.t 1), none, []⟩,
    ⟨some 15, .ldC (.t 14), none, [0]⟩,
    ⟨some 16, .mov (.t 3), none, []⟩,
    ⟨some 17, .fad 3 1 25 23 (.t 1), none, []⟩,
    ⟨some 18, .ldC (.t 17), none, [3]⟩,
    ⟨some 19, .mov (.t 3), none, []⟩,
    ⟨some 20, .iad 55 (.agg [.str, .int .i64, .int .i64, .str, .sl 55]) (.t 18) (.t 19), none, [3, 4, 5]⟩,
    ⟨some 21, .fad 1 4 55 25 (.t 20), none, [3, 4, 5, 6]⟩,
    ⟨some 22, .ld (.agg [.int .i64, .int .i64, .str, .sl 55]) 25 (.t 21), none, [3, 4, 5, 6, 7]⟩,
    ⟨some 23, .icall 125 20 (value_Copy_i3_en) (value_Copy_i3_ex) [] 0 none [(.t 22)], none, [3, 4, 5, 6, 7, 8]⟩,
    ⟨some 24, .iad 55 (.agg [.str, .int .i64, .int .i64, .str, .sl 55]) (.t 15) (.t 16), none, [0, 1, 2, 3, 4, 5, 6, 7, 8, 9]⟩,
    ⟨some 25, .fad 1 4 55 25 (.t 24), none, [0, 1, 2, 3, 4, 5, 6, 7, 8, 9, 10]⟩,
    ⟨none, .st (.agg [.int .i64, .int .i64, .str, .sl 55]) (.t 25) (.t 23), none, [0, 1, 2, 3, 4, 5, 6, 7, 8, 9, 10, 11]⟩] true 0)))
  (.region [] [⟨some 26, .ibin .add (.t 11) (.c (.one (.int .i64)) [.int 1]), none, []⟩,
    ⟨some 11, .mov (.t 26), none, []⟩] false 0))))
noncomputable def value_Copy_i3_l0 (E : Env) (v0 : Int) (v1 : Int) (v2 : Int) (v3 : Int) (v4 : List UInt8) (v5 : Row) (v6 : C) : Option (Nat × List PV) := E.fix (stepOf E value_Copy_i3_c0 value_Copy_i3_h0 value_Copy_i3_o0) [.r [.int v0], .r [.int v1], .r [.int v2], .r [.int v3], .r [.str v4], .r v5, .r [v6]]
noncomputable def value_Copy_i3_b0 (E : Env) (X : Int → Int → Int → Int → List UInt8 → Row → C → Option (Nat × List PV)) (v0 : Int) (v1 : Int) (v2 : Int) (v3 : Int) (v4 : List UInt8) (v5 : Row) (v6 : C) : Option (Nat × List PV) :=
  if (decide (v1 < v0)) = true then
    if (0 : Int) ≤ v1 ∧ v1 < (v6.rows.length : Int) then
      if v1.toNat < v6.rows.length then
        (E.ic value_Copy_i3_n [.r [at_ (rowsAt v6.rows v1.toNat) 1, at_ (rowsAt v6.rows v1.toNat) 2, at_ (rowsAt v6.rows v1.toNat) 3, at_ (rowsAt v6.rows v1.toNat) 4]]).bind fun y2 =>
          if (0 : Int) ≤ v1 ∧ v1 < (v6.rows.length : Int) then
            if v1.toNat < v6.rows.length then
              X v0 (Go.IntKind.i64.wrap (v1 + 1)) v2 v3 v4 v5 (.sl (v6.rows.set v1.toNat (put (rowsAt v6.rows v1.toNat) 1 4 (hd y2) 0 5)))
            else none
          else none
      else none
    else none
  else
    some (0, [.r [.int v2], .r [.int v3], .r [.str v4], .r v5, .r [v6]])
theorem value_Copy_i3_s0 (E : Env) (X : List PV → Option (Nat × List PV)) (v0 : Int) (v1 : Int) (v2 : Int) (v3 : Int) (v4 : List UInt8) (v5 : Row) (v6 : C) : stepOf E value_Copy_i3_c0 value_Copy_i3_h0 value_Copy_i3_o0 X [.r [.int v0], .r [.int v1], .r [.int v2], .r [.int v3], .r [.str v4], .r v5, .r [v6]] = value_Copy_i3_b0 E (fun (v0 : Int) (v1 : Int) (v2 : Int) (v3 : Int) (v4 : List UInt8) (v5 : Row) (v6 : C) => X [.r [.int v0], .r [.int v1], .r [.int v2], .r [.int v3], .r [.str v4], .r v5, .r [v6]]) v0 v1 v2 v3 v4 v5 v6 := by kernel_rfl
def value_Copy_i3_a : AImp := { fn := 20, entry := value_Copy_i3_en, res := [.var 2 (.agg [.int .i64, .int .i64, .str, .sl 55])], exit := value_Copy_i3_ex, body := (.seq (.region [] [⟨some 1, .boxA 0 (.t 0), none, []⟩,
    ⟨some 2, .allocO 1 (.agg [.int .i64, .int .i64, .str, .sl 55]) [.int 0, .int 0, .str [], .nils], none, []⟩] false 2)
  (.seq (.region [] [⟨some 4, .fad 3 1 25 23 (.t 1), none, []⟩,
    ⟨some 5, .ldC (.t 4), none, []⟩,
    ⟨some 6, .icall 124 25 (slices_Clone_api_Field_i2_en) (slices_Clone_api_Field_i2_ex) [] 0 none [(.t 5)], none, []⟩,
    ⟨some 7, .fad 3 1 25 23 (.t 1), none, []⟩,
    ⟨none, .stC (.t 7) (.t 6), none, []⟩] false 1)
  (.seq (.seq (.region [] [⟨some 8, .fad 3 1 25 23 (.t 1), none, []⟩,
    ⟨some 9, .ldC (.t 8), none, []⟩,
    ⟨some 10, .lenL (.t 9), none, []⟩,
    ⟨some 11, .mov (.c (.one (.int .i64)) [.int 0]), none, []⟩] false 0)
  (.block 0 (.loop value_Copy_i3_h0 value_Copy_i3_o0 value_Copy_i3_c0)))
  (.seq (.ghost (.frz 1 3 55 (.agg [.str, .int .i64, .int .i64, .str, .sl 55])) (.region [] [⟨some 27, .ldA 4 (.t 1), none, []⟩,
    ⟨none, .st (.agg [.int .i64, .int .i64, .str, .sl 55]) (.t 2) (.t 27), none, []⟩] false 0))
  .ret)))) }
/-- clapperbridge/value.Copy, to which objects are handed -/
noncomputable def value_Copy_i3 (E : Env) (p0 : Row) : Option (List PV) :=
  (E.ic slices_Clone_api_Field_i2_n [.r [at_ p0 3]]).bind fun y1 =>
    (value_Copy_i3_l0 E (((at_ (hd y1) 0).rows).length : Int) 0 ((at_ p0 0).toI) ((at_ p0 1).toI) ((at_ p0 2).toS) [.int 0, .int 0, .str [], .nils] (at_ (hd y1) 0)).bind fun x3 =>
      some [.r [.int ((at_ (hd x3.2) 0).toI), .int ((at_ (hd x3.2.tail) 0).toI), .str ((at_ (hd x3.2.tail.tail) 0).toS), at_ (hd x3.2.tail.tail.tail.tail) 0]]
theorem value_Copy_i3_eq (E : Env) (p0 : Row) : runI E value_Copy_i3_a [.r p0] = value_Copy_i3 E p0 := by kernel_rfl

def value_Copy_i1_h0 : Shape := { slots := [(1, .ptr 0 0), (2, .ptr 1 0), (10, .d (.one (.int .i64))), (11, .d (.one (.int .i64)))], objs := [.cells false [.d (.one (.int .i64)), .d (.one (.int .i64)), .d (.one (.str)), .whole 2], .var (.agg [.int .i64, .int .i64, .str, .sl 55]), .arr (.agg [.str, .int .i64, .int .i64, .str, .sl 55])] }
def value_Copy_i1_o0 : List (Exit' × Shape) := [(.exit 0, { slots := [(1, .ptr 0 0), (2, .ptr 1 0)], objs := [.cells false [.d (.one (.int .i64)), .d (.one (.int .i64)), .d (.one (.str)), .whole 2], .var (.agg [.int .i64, .int .i64, .str, .sl 55]), .arr (.agg [.str, .int .i64, .int .i64, .str, .sl 55])] })]
def value_Copy_i1_c0 : ACode := (.seq (.region [] [⟨some 12, .icmp .lss (.t 11) (.t 10), none, []⟩] false 0)
  (.seq (.cond (.t 12) .skip
  (.exit 0))
  (.seq (.block 1 (.seq (.region [] [⟨some 13, .mov (.t 11), none, []⟩,
    ⟨some 3, .mov (.t 13), none, []⟩] false 0)
  (.region [] [⟨some 14, .fad 3 1 25 23 (.t 1), none, []⟩,
    ⟨some 15, .ldC (.t 14), none, [0]⟩,
    ⟨some 16, .mov (.t 3), none, []⟩,
    ⟨some 17, .fad 3 1 25 23 (.t 1), none, []⟩,
    ⟨some 18, .ldC (.t 17), none, [3]⟩,
    ⟨some 19, .mov (.t 3), none, []⟩,
    ⟨some 20, .iad 55 (.agg [.str, .int .i64, .int .i64, .str, .sl 55]) (.t 18) (.t 19), none, [3, 4, 5]⟩,
    ⟨some 21, .fad 1 4 55 25 (.t 20), none, [3, 4, 5, 6]⟩,
    ⟨some 22, .ld (.agg [.int .i64, .int .i64, .str, .sl 55]) 25 (.t 21), none, [3, 4, 5, 6, 7]⟩,
    ⟨some 23, .icall 125 20 (value_Copy_i3_en) (value_Copy_i3_ex) [] 0 none [(.t 22)], none, [3, 4, 5, 6, 7, 8]⟩,
    ⟨some 24, .iad 55 (.agg [.str, .int .i64, .int .i64, .str, .sl 55]) (.t 15) (.t 16), none, [0, 1, 2, 3, 4, 5, 6, 7, 8, 9]⟩,
    ⟨some 25, .fad 1 4 55 25 (.t 24), none, [0, 1, 2, 3, 4, 5, 6, 7, 8, 9, 10]⟩,
    ⟨none, .st (.agg [.int .i64, .int .i64, .str, .sl 55]) (.t 25) (.t 23), none, [0, 1, 2, 3, 4, 5, 6, 7, 8, 9, 10, 11]⟩] true 0)))
  (.region [] [⟨some 26, .ibin .add (.t 11) (.c (.one (.int .i64)) [.int 1]), none, []⟩,
    ⟨some 11, .mov (.t 26), none, []⟩] false 0))))
noncomputable def value_Copy_i1_l0 (E : Env) (v0 : Int) (v1 : Int) (v2 : Int) (v3 : Int) (v4 : List UInt8) (v5 : Row) (v6 : C) : Option (Nat × List PV) := E.fix (stepOf E value_Copy_i1_c0 value_Copy_i1_h0 value_Copy_i1_o0) [.r [.int v0], .r [.int v1], .r [.int v2], .r [.int v3], .r [.str v4], .r v5, .r [v6]]
noncomputable def value_Copy_i1_b0 (E : Env) (X : Int → Int → Int → Int → List UInt8 → Row → C → Option (Nat × List PV)) (v0 : Int) (v1 : Int) (v2 : Int) (v3 : Int) (v4 : List UInt8) (v5 : Row) (v6 : C) : Option (Nat × List PV) :=
  if (decide (v1 < v0)) = true then
    if (0 : Int) ≤ v1 ∧ v1 < (v6.rows.length : Int) then
      if v1.toNat < v6.rows.length then
        (E.ic value_Copy_i3_n [.r [at_ (rowsAt v6.rows v1.toNat) 1, at_ (rowsAt v6.rows v1.toNat) 2, at_ (rowsAt v6.rows v1.toNat) 3, at_ (rowsAt v6.rows v1.toNat) 4]]).bind fun y2 =>
          if (0 : Int) ≤ v1 ∧ v1 < (v6.rows.length : Int) then
            if v1.toNat < v6.rows.length then
              X v0 (Go.IntKind.i64.wrap (v1 + 1)) v2 v3 v4 v5 (.sl (v6.rows.set v1.toNat (put (rowsAt v6.rows v1.toNat) 1 4 (hd y2) 0 5)))
            else none
          else none
      else none
    else none
  else
    some (0, [.r [.int v2], .r [.int v3], .r [.str v4], .r v5, .r [v6]])
theorem value_Copy_i1_s0 (E : Env) (X : List PV → Option (Nat × List PV)) (v0 : Int) (v1 : Int) (v2 : Int) (v3 : Int) (v4 : List UInt8) (v5 : Row) (v6 : C) : stepOf E value_Copy_i1_c0 value_Copy_i1_h0 value_Copy_i1_o0 X [.r [.int v0], .r [.int v1], .r [.int v2], .r [.int v3], .r [.str v4], .r v5, .r [v6]] = value_Copy_i1_b0 E (fun (v0 : Int) (v1 : Int) (v2 : Int) (v3 : Int) (v4 : List UInt8) (v5 : Row) (v6 : C) => X [.r [.int v0], .r [.int v1], .r [.int v2], .r [.int v3], .r [.str v4], .r v5, .r [v6]]) v0 v1 v2 v3 v4 v5 v6 := by kernel_rfl
def value_Copy_i1_a : AImp := { fn := 20, entry := value_Copy_i1_en, res := [.var 2 (.agg [.int .i64, .int .i64, .str, .sl 55])], exit := value_Copy_i1_ex, body := (.seq (.region [] [⟨some 1, .boxA 0 (.t 0), none, []⟩,
    ⟨some 2, .allocO 1 (.agg [.int .i64, .int .i64, .str, .sl 55]) [.int 0, .int 0, .str [], .nils], none, []⟩] false 2)
  (.seq (.region [] [⟨some 4, .fad 3 1 25 23 (.t 1), none, []⟩,
    ⟨some 5, .ldC (.t 4), none, []⟩,
    ⟨some 6, .icall 124 25 (slices_Clone_api_Field_i2_en) (slices_Clone_api_Field_i2_ex) [] 0 none [(.t 5)], none, []⟩,
    ⟨some 7, .fad 3 1 25 23 (.t 1), none, []⟩,
    ⟨none, .stC (.t 7) (.t 6), none, []⟩] false 1)
  (.seq (.seq (.region [] [⟨some 8, .fad 3 1 25 23 (.t 1), none, []⟩,
    ⟨some 9, .ldC (.t 8), none, []⟩,
    ⟨some 10, .lenL (.t 9), none, []⟩,
    ⟨some 11, .mov (.c (.one (.int .i64)) [.int 0]), none, []⟩] false 0)
  (.block 0 (.loop value_Copy_i1_h0 value_Copy_i1_o0 value_Copy_i1_c0)))
  (.seq (.ghost (.frz 1 3 55 (.agg [.str, .int .i64, .int .i64, .str, .sl 55])) (.region [] [⟨some 27, .ldA 4 (.t 1), none, []⟩,
    ⟨none, .st (.agg [.int .i64, .int .i64, .str, .sl 55]) (.t 2) (.t 27), none, []⟩] false 0))
  .ret)))) }
/-- clapperbridge/value.Copy, to which objects are handed -/
noncomputable def value_Copy_i1 (E : Env) (p0 : Int) (p1 : Int) (p2 : List UInt8) (p3 : C) : Option (List PV) :=
  (E.ic slices_Clone_api_Field_i2_n [.r [p3]]).bind fun y1 =>
    (value_Copy_i1_l0 E (((at_ (hd y1) 0).rows).length : Int) 0 p0 p1 p2 [.int 0, .int 0, .str [], .nils] (at_ (hd y1) 0)).bind fun x3 =>
      some [.r [.int ((at_ (hd x3.2) 0).toI), .int ((at_ (hd x3.2.tail) 0).toI), .str ((at_ (hd x3.2.tail.tail) 0).toS), at_ (hd x3.2.tail.tail.tail.tail) 0]]
theorem value_Copy_i1_eq (E : Env) (p0 : Int) (p1 : Int) (p2 : List UInt8) (p3 : C) : runI E value_Copy_i1_a [.r [.int p0], .r [.int p1], .r [.str p2], .r [p3]] = value_Copy_i1 E p0 p1 p2 p3 := by kernel_rfl
end Go.Ev
