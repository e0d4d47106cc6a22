/-
  A part of the proof: what the functions of the program compute.
-/
import Derived.Test.YtodphfbpiknhkaaZNum
set_option linter.all false
set_option maxRecDepth 100000
namespace Go.Ev
def claplaw3_aligned_a : AFun := { ps := [], rs := [lB], res := [(false, 0, none)], body := (.seq (.region [] [oq 0 (.mov (.c lB [.bool false]))] false 0)
 (.seq (.region [] [oq 5 (.bsl 3 lI 2 [.int 0] [(0, (.c lI [.int 1])), (1, (.c lI [.int 2]))]),
 oq 6 (.call 12 [(.one (.sl 3))] [lA1] [(.t 5)]),
 oq 7 (.bsl 3 lI 1 [.int 0] [(0, (.c lI [.int 2]))]),
 oq 8 (.call 12 [(.one (.sl 3))] [lA1] [(.t 7)]),
 oq 9 (.call 11 [lA1, lA1] [(.one (.sl 32)), lI, lI] [(.t 6), (.t 8)]),
 oq 4 (.mov (.t 9)),
 oq 10 (.ext 0 (.t 4)),
 oq 11 (.ext 1 (.t 4)),
 oq 12 (.ext 2 (.t 4)),
 oq 1 (.mov (.t 10)),
 oq 2 (.mov (.t 11)),
 oq 3 (.mov (.t 12))] false 0)
 (.seq (.region [] [oq 13 (.mov (.t 3)),
 oq 14 (.icmp .eql (.t 13) (.c lI [.int 0])),
 oq 15 (.mov (.t 14)),
 ⟨some 16, .mov (.t 2), some (15, true), []⟩,
 ⟨some 17, .icmp .eql (.t 16) (.c lI [.int 2]), some (15, true), []⟩,
 oq 18 (.pick (.t 15) (.t 17) (.c lB [.bool false])),
 oq 19 (.mov (.t 18)),
 ⟨some 20, .mov (.t 1), some (19, true), []⟩,
 ⟨some 21, .lenL (.t 20), some (19, true), []⟩,
 ⟨some 22, .icmp .eql (.t 21) (.c lI [.int 1]), some (19, true), []⟩,
 oq 23 (.pick (.t 19) (.t 22) (.c lB [.bool false])),
 oq 24 (.mov (.t 23)),
 ⟨some 25, .mov (.t 1), some (24, true), []⟩,
 ⟨some 26, .iad 32 lA2 (.t 25) (.c lI [.int 0]), some (24, true), []⟩,
 ⟨some 27, .ld lA2 32 (.t 26), some (24, true), []⟩,
 ⟨some 28, .bld lA2 [.int 0, .int 0] [(0, 1, (.c lI [.int 1])), (1, 1, (.c lI [.int 0]))], some (24, true), []⟩,
 ⟨some 29, .aeq false lA2 (.t 27) (.t 28), some (24, true), []⟩,
 oq 30 (.pick (.t 24) (.t 29) (.c lB [.bool false])),
 oq 0 (.mov (.t 30))] false 0)
 .ret))) }
noncomputable def claplaw3_aligned (E : Env) : Option (List Row) :=
 (E.pc n_claplaw3_list [[.sl ([[.int 1], [.int 2]] : List Row)]]).bind fun y1 =>
 (E.pc n_claplaw3_list [[.sl ([[.int 2]] : List Row)]]).bind fun y2 =>
 (E.pc n_align_ByEdits [rowsAt y1 0, rowsAt y2 0]).bind fun y3 =>
 let K4 : Bool → Option (List Row) := fun q5 =>
 let K6 : Bool → Option (List Row) := fun q7 =>
 let K8 : Bool → Option (List Row) := fun q9 =>
 some [[.bool q9]]
 if q7 = true then
 if (0 : Int) ≤ 0 ∧ 0 < (((at_ (rowsAt y3 0) 0).rows).length : Int) then
 K8 (ceq [.int .i64, .int .i64] (rowsAt ((at_ (rowsAt y3 0) 0).rows) 0) [.int 1, .int 0])
 else none
 else
 K8 false
 if q5 = true then
 K6 ((((at_ (rowsAt y3 0) 0).rows).length : Int) == 1)
 else
 K6 false
 if (((at_ (rowsAt y3 2) 0).toI) == 0) = true then
 K4 (((at_ (rowsAt y3 1) 0).toI) == 2)
 else
 K4 false
def align_ByIndex_h0 : Shape := { slots := [(7, .sw 0), (21, .d lI), (22, .d lI)], objs := [.sarr 32 lA2] }
def align_ByIndex_o0 : List (Exit' × Shape) := [(.exit 0, { slots := [(7, .sw 0)], objs := [.sarr 32 lA2] })]
def align_ByIndex_c0 : ACode := (.seq (.region [] [oq 23 (.icmp .lss (.t 22) (.t 21))] false 0)
 (.seq (.cond (.t 23) .skip
 (.exit 0))
 (.seq (.block 1 (.seq (.region [] [oq 24 (.mov (.t 22)),
 oq 8 (.mov (.t 24))] false 0)
 (.region [] [oq 25 (.mov (.t 7)),
 oq 26 (.mov (.t 8)),
 oq 27 (.mov (.t 8)),
 oq 28 (.bld lA2 [.int 0, .int 0] [(0, 1, (.t 26)), (1, 1, (.t 27))]),
 oq 29 (.bsl 32 lA2 1 [.int 0, .int 0] [(0, (.t 28))]),
 oq 30 (.appW 0 32 lA2 16 (.t 25) (.t 29)),
 oq 7 (.mov (.t 30))] false 1)))
 (.region [] [oq 31 (.ibin .add (.t 22) (.c lI [.int 1])),
 oq 22 (.mov (.t 31))] false 0))))
noncomputable def align_ByIndex_l0 (E : Env) (v0 : Int) (v1 : Int) (v2 : C) : Option (Nat × List PV) := E.fix (stepOf E align_ByIndex_c0 align_ByIndex_h0 align_ByIndex_o0) [.r [.int v0], .r [.int v1], .r [v2]]
noncomputable def align_ByIndex_b0 (E : Env) (X : Int → Int → C → Option (Nat × List PV)) (v0 : Int) (v1 : Int) (v2 : C) : Option (Nat × List PV) :=
 if (decide (v1 < v0)) = true then
 if (v2.rows.length + ([[.int v1, .int v1]] : List Row).length) * 16 ≤ 140737488355328 then
 X v0 (Go.IntKind.i64.wrap (v1 + 1)) (appC v2 ([[.int v1, .int v1]] : List Row))
 else none
 else
 some (0, [.r [v2]])
theorem align_ByIndex_s0 (E : Env) (X : List PV → Option (Nat × List PV)) (v0 : Int) (v1 : Int) (v2 : C) : stepOf E align_ByIndex_c0 align_ByIndex_h0 align_ByIndex_o0 X [.r [.int v0], .r [.int v1], .r [v2]] = align_ByIndex_b0 E (fun (v0 : Int) (v1 : Int) (v2 : C) => X [.r [.int v0], .r [.int v1], .r [v2]]) v0 v1 v2 := by kernel_rfl
def align_ByIndex_a : AFun := { ps := [lA1, lA1], rs := [(.one (.sl 32)), lI], res := [(false, 4, (some lA2)), (false, 5, none)], body := (.seq (.region [] [oq 2 (.boxP lA1 24 (.t 0)),
 oq 3 (.boxP lA1 24 (.t 1)),
 oq 4 (.mov (.c (.one (.sl 32)) [.nils])),
 oq 5 (.mov (.c lI [.int 0]))] false 0)
 (.seq (.seq (.region [] [oq 9 (.ld lA1 24 (.t 2)),
 oq 10 (.ld lA1 24 (.t 3)),
 oq 11 (.call 13 [lA1, lA1] [lI] [(.t 9), (.t 10)]),
 oq 6 (.mov (.t 11))] false 0)
 (.seq (.region [] [oq 12 (.mov (.t 6)),
 oq 13 (.icmp .neq (.t 12) (.c lI [.int 0]))] false 0)
 (.cond (.t 13) (.seq (.region [] [oq 14 (.mov (.t 6)),
 oq 4 (.mov (.c (.one (.sl 32)) [.nils])),
 oq 5 (.mov (.t 14))] false 0)
 .ret)
 .skip)))
 (.seq (.region [] [oq 7 (.nilS 0 32 lA2)] false 1)
 (.seq (.seq (.region [] [oq 15 (.fad 3 1 24 22 (.t 2)),
 oq 16 (.ld (.one (.sl 47)) 22 (.t 15)),
 oq 17 (.lenL (.t 16)),
 oq 18 (.fad 3 1 24 22 (.t 3)),
 oq 19 (.ld (.one (.sl 47)) 22 (.t 18)),
 oq 20 (.lenL (.t 19)),
 oq 21 (.imin false [(.t 17), (.t 20)]),
 oq 22 (.mov (.c lI [.int 0]))] false 0)
 (.block 0 (.loop align_ByIndex_h0 align_ByIndex_o0 align_ByIndex_c0)))
 (.seq (.region [] [oq 32 (.mov (.t 7)),
 oq 4 (.mov (.t 32)),
 oq 5 (.mov (.c lI [.int 0]))] false 0)
 .ret))))) }
noncomputable def align_ByIndex (E : Env) (p0 : Row) (p1 : Row) : Option (List Row) :=
 (E.pc n_align_check [p0, p1]).bind fun y1 =>
 if (((at_ (rowsAt y1 0) 0).toI) != 0) = true then
 some [[.nils], [.int ((at_ (rowsAt y1 0) 0).toI)]]
 else
 (align_ByIndex_l0 E (if (((at_ p1 3).rows).length : Int) < (((at_ p0 3).rows).length : Int) then (((at_ p1 3).rows).length : Int) else (((at_ p0 3).rows).length : Int)) 0 .nils).bind fun x2 =>
 some [[gC 0 x2.2], [.int 0]]
theorem align_ByIndex_eq (E : Env) (p0 : Row) (p1 : Row) : runP E align_ByIndex_a [p0, p1] = align_ByIndex E p0 p1 := by kernel_rfl

def clapref3_Lists_h0 : Shape := { slots := [(10, .d (.one (.sl 24))), (11, .d lI), (12, .d lI)], objs := [] }
def clapref3_Lists_o0 : List (Exit' × Shape) := [(.exit 0, { slots := [], objs := [] }), (.ret, { slots := [(4, .d lI)], objs := [] })]
def clapref3_Lists_c0 : ACode := (.seq (.region [] [oq 13 (.icmp .lss (.t 12) (.t 11))] false 0)
 (.seq (.cond (.t 13) .skip
 (.exit 0))
 (.seq (.block 1 (.seq (.region [] [oq 14 (.iad 24 lA1 (.t 10) (.t 12)),
 oq 15 (.ld lA1 24 (.t 14)),
 oq 6 (.allocO 0 lA1 [.int 0, .int 0, .str [], .nils]),
 ⟨none, .st lA1 (.t 6) (.t 15), none, []⟩] false 1)
 (.seq (.seq (.region [] [oq 16 (.ld lA1 24 (.t 6)),
 oq 17 (.call 14 [lA1] [lI] [(.t 16)]),
 oq 7 (.mov (.t 17))] false 0)
 (.seq (.region [] [oq 18 (.mov (.t 7)),
 oq 19 (.icmp .neq (.t 18) (.c lI [.int 0]))] false 0)
 (.cond (.t 19) (.seq (.region [] [oq 20 (.mov (.t 7)),
 oq 4 (.mov (.t 20))] false 0)
 .ret)
 .skip)))
 (.seq (.region [] [oq 21 (.fad 0 1 24 3 (.t 6)),
 oq 22 (.ld lI 3 (.t 21)),
 oq 23 (.icmp .neq (.t 22) (.c lI [.int 8]))] false 0)
 (.cond (.t 23) (.seq (.region [] [oq 4 (.mov (.c lI [.int 8]))] false 0)
 .ret)
 .skip)))))
 (.region [] [oq 24 (.ibin .add (.t 12) (.c lI [.int 1])),
 oq 12 (.mov (.t 24))] false 0))))
noncomputable def clapref3_Lists_l0 (E : Env) (v0 : C) (v1 : Int) (v2 : Int) : Option (Nat × List PV) := E.fix (stepOf E clapref3_Lists_c0 clapref3_Lists_h0 clapref3_Lists_o0) [.r [v0], .r [.int v1], .r [.int v2]]
noncomputable def clapref3_Lists_b0 (E : Env) (X : C → Int → Int → Option (Nat × List PV)) (v0 : C) (v1 : Int) (v2 : Int) : Option (Nat × List PV) :=
 if (decide (v2 < v1)) = true then
 if (0 : Int) ≤ v2 ∧ v2 < (v0.rows.length : Int) then
 (E.pc n_value_Check [rowsAt v0.rows v2.toNat]).bind fun y1 =>
 if (((at_ (rowsAt y1 0) 0).toI) != 0) = true then
 some (1, [.r [.int ((at_ (rowsAt y1 0) 0).toI)]])
 else
 if (((at_ (rowsAt v0.rows v2.toNat) 0).toI) != 8) = true then
 some (1, [.r [.int 8]])
 else
 X v0 v1 (Go.IntKind.i64.wrap (v2 + 1))
 else none
 else
 some (0, [])
theorem clapref3_Lists_s0 (E : Env) (X : List PV → Option (Nat × List PV)) (v0 : C) (v1 : Int) (v2 : Int) : stepOf E clapref3_Lists_c0 clapref3_Lists_h0 clapref3_Lists_o0 X [.r [v0], .r [.int v1], .r [.int v2]] = clapref3_Lists_b0 E (fun (v0 : C) (v1 : Int) (v2 : Int) => X [.r [v0], .r [.int v1], .r [.int v2]]) v0 v1 v2 := by kernel_rfl
def clapref3_Lists_a : AFun := { ps := [lA1, lA1], rs := [lI], res := [(false, 4, none)], body := (.seq (.region [] [oq 2 (.boxP lA1 24 (.t 0)),
 oq 3 (.boxP lA1 24 (.t 1)),
 oq 4 (.mov (.c lI [.int 0]))] false 0)
 (.seq (.seq (.region [] [oq 8 (.ld lA1 24 (.t 2)),
 oq 9 (.ld lA1 24 (.t 3)),
 oq 10 (.bsl 24 lA1 2 [.int 0, .int 0, .str [], .nils] [(0, (.t 8)), (1, (.t 9))]),
 oq 11 (.lenL (.t 10)),
 oq 12 (.mov (.c lI [.int 0]))] false 0)
 (.block 0 (.loop clapref3_Lists_h0 clapref3_Lists_o0 clapref3_Lists_c0)))
 (.seq (.region [] [oq 4 (.mov (.c lI [.int 0]))] false 0)
 .ret))) }
noncomputable def clapref3_Lists (E : Env) (p0 : Row) (p1 : Row) : Option (List Row) :=
 (clapref3_Lists_l0 E (.sl ([p0, p1] : List Row)) (([p0, p1] : List Row).length : Int) 0).bind fun x2 =>
 match x2.1 with
 | 0 =>
 some [[.int 0]]
 | i3 + 1 =>
 some [[.int (gI 0 x2.2)]]
theorem clapref3_Lists_eq (E : Env) (p0 : Row) (p1 : Row) : runP E clapref3_Lists_a [p0, p1] = clapref3_Lists E p0 p1 := by kernel_rfl

def slices_Clone_api_Field_i1_a : AImp := { fn := 30, entry := slices_Clone_api_Field_i1_en, res := [.tmp 2], exit := slices_Clone_api_Field_i1_ex, body := (.seq (.region [] [oq 2 (.nilO 0 lA0)] false 1)
 (.seq (.seq (.region [] [oq 3 (.mov (.t 0)),
 oq 4 (.nileq false (.t 3))] false 0)
 (.cond (.t 4) (.seq (.region [] [oq 2 (.nilO 0 lA0)] false 1)
 .ret)
 .skip))
 (.seq (.region [] [oq 5 (.bslO 0 47 lA0 0 [.str [], .int 0, .int 0, .str [], .nils] []),
 oq 6 (.mov (.t 0)),
 oq 7 (.app 1 47 lA0 72 (.t 5) (.t 6)),
 oq 2 (.mov (.t 7))] false 2)
 .ret))) }
noncomputable def slices_Clone_api_Field_i1 (E : Env) (p0 : C) : Option (List PV) :=
 if p0.isNil = true then
 some [.r [.nils]]
 else
 if (([] : List Row).length + p0.rows.length) * 72 ≤ 140737488355328 then
 some [.r [appC (.sl ([] : List Row)) p0.rows]]
 else none
theorem slices_Clone_api_Field_i1_eq (E : Env) (p0 : C) : runI E slices_Clone_api_Field_i1_a [.r [p0]] = slices_Clone_api_Field_i1 E p0 := by kernel_rfl

def value_Copy_i2_h0 : Shape := { slots := [(1, .ptr 0 0), (2, .ptr 1 0), (10, .d lI), (11, .d lI)], objs := bS0 }
def value_Copy_i2_o0 : List (Exit' × Shape) := [(.exit 0, { slots := [(1, .ptr 0 0), (2, .ptr 1 0)], objs := bS0 })]
def value_Copy_i2_c0 : ACode := (.seq (.region [] [oq 12 (.icmp .lss (.t 11) (.t 10))] false 0)
 (.seq (.cond (.t 12) .skip
 (.exit 0))
 (.seq (.block 1 (.seq (.region [] [oq 13 (.mov (.t 11)),
 oq 3 (.mov (.t 13))] false 0)
 (.region [] [oq 14 (.fad 3 1 24 22 (.t 1)),
 ⟨some 15, .ldC (.t 14), none, [0]⟩,
 oq 16 (.mov (.t 3)),
 oq 17 (.fad 3 1 24 22 (.t 1)),
 ⟨some 18, .ldC (.t 17), none, [3]⟩,
 oq 19 (.mov (.t 3)),
 ⟨some 20, .iad 47 lA0 (.t 18) (.t 19), none, [3, 4, 5]⟩,
 ⟨some 21, .fad 1 4 47 24 (.t 20), none, [3, 4, 5, 6]⟩,
 ⟨some 22, .ld lA1 24 (.t 21), none, [3, 4, 5, 6, 7]⟩,
 ⟨some 23, .icall 64 25 (value_Copy_i2_en) (value_Copy_i2_ex) [] 0 none [(.t 22)], none, [3, 4, 5, 6, 7, 8]⟩,
 ⟨some 24, .iad 47 lA0 (.t 15) (.t 16), none, [0, 1, 2, 3, 4, 5, 6, 7, 8, 9]⟩,
 ⟨some 25, .fad 1 4 47 24 (.t 24), none, [0, 1, 2, 3, 4, 5, 6, 7, 8, 9, 10]⟩,
 ⟨none, .st lA1 (.t 25) (.t 23), none, [0, 1, 2, 3, 4, 5, 6, 7, 8, 9, 10, 11]⟩] true 0)))
 (.region [] [oq 26 (.ibin .add (.t 11) (.c lI [.int 1])),
 oq 11 (.mov (.t 26))] false 0))))
noncomputable def value_Copy_i2_l0 (E : Env) (v0 : Int) (v1 : Int) (v2 : Int) (v3 : Int) (v4 : List UInt8) (v5 : Row) (v6 : C) : Option (Nat × List PV) := E.fix (stepOf E value_Copy_i2_c0 value_Copy_i2_h0 value_Copy_i2_o0) [.r [.int v0], .r [.int v1], .r [.int v2], .r [.int v3], .r [.str v4], .r v5, .r [v6]]
noncomputable def value_Copy_i2_b0 (E : Env) (X : Int → Int → Int → Int → List UInt8 → Row → C → Option (Nat × List PV)) (v0 : Int) (v1 : Int) (v2 : Int) (v3 : Int) (v4 : List UInt8) (v5 : Row) (v6 : C) : Option (Nat × List PV) :=
 if (decide (v1 < v0)) = true then
 if (0 : Int) ≤ v1 ∧ v1 < (v6.rows.length : Int) then
 if v1.toNat < v6.rows.length then
 (E.ic value_Copy_i2_n [.r [at_ (rowsAt v6.rows v1.toNat) 1, at_ (rowsAt v6.rows v1.toNat) 2, at_ (rowsAt v6.rows v1.toNat) 3, at_ (rowsAt v6.rows v1.toNat) 4]]).bind fun y2 =>
 if (0 : Int) ≤ v1 ∧ v1 < (v6.rows.length : Int) then
 if v1.toNat < v6.rows.length then
 X v0 (Go.IntKind.i64.wrap (v1 + 1)) v2 v3 v4 v5 (.sl (v6.rows.set v1.toNat (put (rowsAt v6.rows v1.toNat) 1 4 (gR 0 y2) 0 5)))
 else none
 else none
 else none
 else none
 else
 some (0, [.r [.int v2], .r [.int v3], .r [.str v4], .r v5, .r [v6]])
theorem value_Copy_i2_s0 (E : Env) (X : List PV → Option (Nat × List PV)) (v0 : Int) (v1 : Int) (v2 : Int) (v3 : Int) (v4 : List UInt8) (v5 : Row) (v6 : C) : stepOf E value_Copy_i2_c0 value_Copy_i2_h0 value_Copy_i2_o0 X [.r [.int v0], .r [.int v1], .r [.int v2], .r [.int v3], .r [.str v4], .r v5, .r [v6]] = value_Copy_i2_b0 E (fun (v0 : Int) (v1 : Int) (v2 : Int) (v3 : Int) (v4 : List UInt8) (v5 : Row) (v6 : C) => X [.r [.int v0], .r [.int v1], .r [.int v2], .r [.int v3], .r [.str v4], .r v5, .r [v6]]) v0 v1 v2 v3 v4 v5 v6 := by kernel_rfl
def value_Copy_i2_a : AImp := { fn := 25, entry := value_Copy_i2_en, res := [.var 2 lA1], exit := value_Copy_i2_ex, body := (.seq (.region [] [oq 1 (.boxA 0 (.t 0)),
 oq 2 (.allocO 1 lA1 [.int 0, .int 0, .str [], .nils])] false 2)
 (.seq (.region [] [oq 4 (.fad 3 1 24 22 (.t 1)),
 oq 5 (.ldC (.t 4)),
 oq 6 (.icall 63 30 (slices_Clone_api_Field_i1_en) (slices_Clone_api_Field_i1_ex) [] 0 none [(.t 5)]),
 oq 7 (.fad 3 1 24 22 (.t 1)),
 ⟨none, .stC (.t 7) (.t 6), none, []⟩] false 1)
 (.seq (.seq (.region [] [oq 8 (.fad 3 1 24 22 (.t 1)),
 oq 9 (.ldC (.t 8)),
 oq 10 (.lenL (.t 9)),
 oq 11 (.mov (.c lI [.int 0]))] false 0)
 (.block 0 (.loop value_Copy_i2_h0 value_Copy_i2_o0 value_Copy_i2_c0)))
 (.seq (.ghost (.frz 1 3 47 lA0) (.region [] [oq 27 (.ldA 4 (.t 1)),
 ⟨none, .st lA1 (.t 2) (.t 27), none, []⟩] false 0))
 .ret)))) }
noncomputable def value_Copy_i2 (E : Env) (p0 : Row) : Option (List PV) :=
 (E.ic slices_Clone_api_Field_i1_n [.r [at_ p0 3]]).bind fun y1 =>
 (value_Copy_i2_l0 E (((gC 0 y1).rows).length : Int) 0 ((at_ p0 0).toI) ((at_ p0 1).toI) ((at_ p0 2).toS) [.int 0, .int 0, .str [], .nils] (gC 0 y1)).bind fun x3 =>
 some [.r [.int (gI 0 x3.2), .int (gI 1 x3.2), .str (gS 2 x3.2), gC 4 x3.2]]
theorem value_Copy_i2_eq (E : Env) (p0 : Row) : runI E value_Copy_i2_a [.r p0] = value_Copy_i2 E p0 := by kernel_rfl

def value_Copy_i0_h0 : Shape := { slots := [(1, .ptr 0 0), (2, .ptr 1 0), (10, .d lI), (11, .d lI)], objs := bS0 }
def value_Copy_i0_o0 : List (Exit' × Shape) := [(.exit 0, { slots := [(1, .ptr 0 0), (2, .ptr 1 0)], objs := bS0 })]
def value_Copy_i0_c0 : ACode := (.seq (.region [] [oq 12 (.icmp .lss (.t 11) (.t 10))] false 0)
 (.seq (.cond (.t 12) .skip
 (.exit 0))
 (.seq (.block 1 (.seq (.region [] [oq 13 (.mov (.t 11)),
 oq 3 (.mov (.t 13))] false 0)
 (.region [] [oq 14 (.fad 3 1 24 22 (.t 1)),
 ⟨some 15, .ldC (.t 14), none, [0]⟩,
 oq 16 (.mov (.t 3)),
 oq 17 (.fad 3 1 24 22 (.t 1)),
 ⟨some 18, .ldC (.t 17), none, [3]⟩,
 oq 19 (.mov (.t 3)),
 ⟨some 20, .iad 47 lA0 (.t 18) (.t 19), none, [3, 4, 5]⟩,
 ⟨some 21, .fad 1 4 47 24 (.t 20), none, [3, 4, 5, 6]⟩,
 ⟨some 22, .ld lA1 24 (.t 21), none, [3, 4, 5, 6, 7]⟩,
 ⟨some 23, .icall 64 25 (value_Copy_i2_en) (value_Copy_i2_ex) [] 0 none [(.t 22)], none, [3, 4, 5, 6, 7, 8]⟩,
 ⟨some 24, .iad 47 lA0 (.t 15) (.t 16), none, [0, 1, 2, 3, 4, 5, 6, 7, 8, 9]⟩,
 ⟨some 25, .fad 1 4 47 24 (.t 24), none, [0, 1, 2, 3, 4, 5, 6, 7, 8, 9, 10]⟩,
 ⟨none, .st lA1 (.t 25) (.t 23), none, [0, 1, 2, 3, 4, 5, 6, 7, 8, 9, 10, 11]⟩] true 0)))
 (.region [] [oq 26 (.ibin .add (.t 11) (.c lI [.int 1])),
 oq 11 (.mov (.t 26))] false 0))))
noncomputable def value_Copy_i0_l0 (E : Env) (v0 : Int) (v1 : Int) (v2 : Int) (v3 : Int) (v4 : List UInt8) (v5 : Row) (v6 : C) : Option (Nat × List PV) := E.fix (stepOf E value_Copy_i0_c0 value_Copy_i0_h0 value_Copy_i0_o0) [.r [.int v0], .r [.int v1], .r [.int v2], .r [.int v3], .r [.str v4], .r v5, .r [v6]]
noncomputable def value_Copy_i0_b0 (E : Env) (X : Int → Int → Int → Int → List UInt8 → Row → C → Option (Nat × List PV)) (v0 : Int) (v1 : Int) (v2 : Int) (v3 : Int) (v4 : List UInt8) (v5 : Row) (v6 : C) : Option (Nat × List PV) :=
 if (decide (v1 < v0)) = true then
 if (0 : Int) ≤ v1 ∧ v1 < (v6.rows.length : Int) then
 if v1.toNat < v6.rows.length then
 (E.ic value_Copy_i2_n [.r [at_ (rowsAt v6.rows v1.toNat) 1, at_ (rowsAt v6.rows v1.toNat) 2, at_ (rowsAt v6.rows v1.toNat) 3, at_ (rowsAt v6.rows v1.toNat) 4]]).bind fun y2 =>
 if (0 : Int) ≤ v1 ∧ v1 < (v6.rows.length : Int) then
 if v1.toNat < v6.rows.length then
 X v0 (Go.IntKind.i64.wrap (v1 + 1)) v2 v3 v4 v5 (.sl (v6.rows.set v1.toNat (put (rowsAt v6.rows v1.toNat) 1 4 (gR 0 y2) 0 5)))
 else none
 else none
 else none
 else none
 else
 some (0, [.r [.int v2], .r [.int v3], .r [.str v4], .r v5, .r [v6]])
theorem value_Copy_i0_s0 (E : Env) (X : List PV → Option (Nat × List PV)) (v0 : Int) (v1 : Int) (v2 : Int) (v3 : Int) (v4 : List UInt8) (v5 : Row) (v6 : C) : stepOf E value_Copy_i0_c0 value_Copy_i0_h0 value_Copy_i0_o0 X [.r [.int v0], .r [.int v1], .r [.int v2], .r [.int v3], .r [.str v4], .r v5, .r [v6]] = value_Copy_i0_b0 E (fun (v0 : Int) (v1 : Int) (v2 : Int) (v3 : Int) (v4 : List UInt8) (v5 : Row) (v6 : C) => X [.r [.int v0], .r [.int v1], .r [.int v2], .r [.int v3], .r [.str v4], .r v5, .r [v6]]) v0 v1 v2 v3 v4 v5 v6 := by kernel_rfl
def value_Copy_i0_a : AImp := { fn := 25, entry := value_Copy_i0_en, res := [.var 2 lA1], exit := value_Copy_i0_ex, body := (.seq (.region [] [oq 1 (.boxA 0 (.t 0)),
 oq 2 (.allocO 1 lA1 [.int 0, .int 0, .str [], .nils])] false 2)
 (.seq (.region [] [oq 4 (.fad 3 1 24 22 (.t 1)),
 oq 5 (.ldC (.t 4)),
 oq 6 (.icall 63 30 (slices_Clone_api_Field_i1_en) (slices_Clone_api_Field_i1_ex) [] 0 none [(.t 5)]),
 oq 7 (.fad 3 1 24 22 (.t 1)),
 ⟨none, .stC (.t 7) (.t 6), none, []⟩] false 1)
 (.seq (.seq (.region [] [oq 8 (.fad 3 1 24 22 (.t 1)),
 oq 9 (.ldC (.t 8)),
 oq 10 (.lenL (.t 9)),
 oq 11 (.mov (.c lI [.int 0]))] false 0)
 (.block 0 (.loop value_Copy_i0_h0 value_Copy_i0_o0 value_Copy_i0_c0)))
 (.seq (.ghost (.frz 1 3 47 lA0) (.region [] [oq 27 (.ldA 4 (.t 1)),
 ⟨none, .st lA1 (.t 2) (.t 27), none, []⟩] false 0))
 .ret)))) }
noncomputable def value_Copy_i0 (E : Env) (p0 : Int) (p1 : Int) (p2 : List UInt8) (p3 : C) : Option (List PV) :=
 (E.ic slices_Clone_api_Field_i1_n [.r [p3]]).bind fun y1 =>
 (value_Copy_i0_l0 E (((gC 0 y1).rows).length : Int) 0 p0 p1 p2 [.int 0, .int 0, .str [], .nils] (gC 0 y1)).bind fun x3 =>
 some [.r [.int (gI 0 x3.2), .int (gI 1 x3.2), .str (gS 2 x3.2), gC 4 x3.2]]
theorem value_Copy_i0_eq (E : Env) (p0 : Int) (p1 : Int) (p2 : List UInt8) (p3 : C) : runI E value_Copy_i0_a [.r [.int p0], .r [.int p1], .r [.str p2], .r [p3]] = value_Copy_i0 E p0 p1 p2 p3 := by kernel_rfl

def value_Get_h0 : Shape := { slots := [(1, .d lS), (2, .d (.one (.ref 24))), (4, .ptr 0 0), (9, .d (.one (.sl 47))), (10, .d lI), (11, .d lI)], objs := [.var lA1] }
def value_Get_o0 : List (Exit' × Shape) := [(.exit 0, { slots := [(4, .ptr 0 0)], objs := [.var lA1] }), (.ret, { slots := [(4, .ptr 0 0), (5, .d lB)], objs := [.var lA1] })]
def value_Get_c0 : ACode := (.seq (.region [] [oq 12 (.icmp .lss (.t 11) (.t 10))] false 0)
 (.seq (.cond (.t 12) .skip
 (.exit 0))
 (.seq (.block 1 (.seq (.region [] [oq 13 (.iad 47 lA0 (.t 9) (.t 11)),
 oq 14 (.ld lA0 47 (.t 13)),
 oq 7 (.allocA 0 [some ((.str), .str []), some ((.int .i64), .int 0), some ((.int .i64), .int 0), some ((.str), .str []), some ((.sl 47), .nils)]),
 ⟨none, .stA 5 (.t 7) (.t 14), none, []⟩] false 1)
 (.seq (.region [] [oq 15 (.fad 0 1 47 9 (.t 7)),
 oq 16 (.ldC (.t 15)),
 oq 17 (.mov (.t 1)),
 oq 18 (.scmp .eql (.t 16) (.t 17)),
 oq 19 (.mov (.t 18)),
 ⟨some 20, .fad 0 1 24 3 (.t 2), some (19, true), []⟩,
 ⟨some 21, .ld lI 3 (.t 20), some (19, true), []⟩,
 ⟨some 22, .icmp .neq (.t 21) (.c lI [.int 8]), some (19, true), []⟩,
 oq 23 (.pick (.t 19) (.t 22) (.c lB [.bool false]))] false 0)
 (.cond (.t 23) (.seq (.region [] [oq 24 (.fad 1 4 47 24 (.t 7)),
 oq 25 (.ldA 4 (.t 24)),
 oq 26 (.icall 62 25 (value_Copy_i0_en) (value_Copy_i0_ex) [] 0 none [(.t 25)]),
 ⟨none, .st lA1 (.t 4) (.t 26), none, []⟩,
 oq 5 (.mov (.c lB [.bool true]))] false 0)
 .ret)
 .skip))))
 (.region [] [oq 27 (.ibin .add (.t 11) (.c lI [.int 1])),
 oq 11 (.mov (.t 27))] false 0))))
noncomputable def value_Get_l0 (E : Env) (v0 : List UInt8) (v1 : C) (v2 : C) (v3 : Int) (v4 : Int) (v5 : Row) : Option (Nat × List PV) := E.fix (stepOf E value_Get_c0 value_Get_h0 value_Get_o0) [.r [.str v0], .r [v1], .r [v2], .r [.int v3], .r [.int v4], .r v5]
noncomputable def value_Get_b0 (E : Env) (X : List UInt8 → C → C → Int → Int → Row → Option (Nat × List PV)) (v0 : List UInt8) (v1 : C) (v2 : C) (v3 : Int) (v4 : Int) (v5 : Row) : Option (Nat × List PV) :=
 if (decide (v4 < v3)) = true then
 if (0 : Int) ≤ v4 ∧ v4 < (v2.rows.length : Int) then
 let K1 : Bool → Option (Nat × List PV) := fun q2 =>
 if q2 = true then
 (E.ic value_Copy_i0_n [.r [.int ((at_ (rowsAt v2.rows v4.toNat) 1).toI)], .r [.int ((at_ (rowsAt v2.rows v4.toNat) 2).toI)], .r [.str ((at_ (rowsAt v2.rows v4.toNat) 3).toS)], .r [at_ (rowsAt v2.rows v4.toNat) 4]]).bind fun y3 =>
 some (1, [.r [.bool true], .r (gR 0 y3)])
 else
 X v0 v1 v2 v3 (Go.IntKind.i64.wrap (v4 + 1)) v5
 if (((at_ (rowsAt v2.rows v4.toNat) 0).toS) == v0) = true then
 if v1.isDp = true then
 K1 (((at_ v1.dpRow 0).toI) != 8)
 else none
 else
 K1 false
 else none
 else
 some (0, [.r v5])
theorem value_Get_s0 (E : Env) (X : List PV → Option (Nat × List PV)) (v0 : List UInt8) (v1 : C) (v2 : C) (v3 : Int) (v4 : Int) (v5 : Row) : stepOf E value_Get_c0 value_Get_h0 value_Get_o0 X [.r [.str v0], .r [v1], .r [v2], .r [.int v3], .r [.int v4], .r v5] = value_Get_b0 E (fun (v0 : List UInt8) (v1 : C) (v2 : C) (v3 : Int) (v4 : Int) (v5 : Row) => X [.r [.str v0], .r [v1], .r [v2], .r [.int v3], .r [.int v4], .r v5]) v0 v1 v2 v3 v4 v5 := by kernel_rfl
def value_Get_a : AFun := { ps := [lA1, lS], rs := [lA1, lB], res := [(true, 4, none), (false, 5, none)], body := (.seq (.region [] [oq 2 (.boxP lA1 24 (.t 0)),
 oq 4 (.allocO 0 lA1 [.int 0, .int 0, .str [], .nils]),
 oq 5 (.mov (.c lB [.bool false]))] false 1)
 (.seq (.seq (.region [] [oq 8 (.fad 3 1 24 22 (.t 2)),
 oq 9 (.ld (.one (.sl 47)) 22 (.t 8)),
 oq 10 (.lenL (.t 9)),
 oq 11 (.mov (.c lI [.int 0]))] false 0)
 (.block 0 (.loop value_Get_h0 value_Get_o0 value_Get_c0)))
 (.seq (.region [] [oq 28 (.bld lA1 [.int 0, .int 0, .str [], .nils] []),
 ⟨none, .st lA1 (.t 4) (.t 28), none, []⟩,
 oq 5 (.mov (.c lB [.bool false]))] false 0)
 .ret))) }
noncomputable def value_Get (E : Env) (p0 : Row) (p1 : List UInt8) : Option (List Row) :=
 (value_Get_l0 E p1 (.dp p0) (at_ p0 3) (((at_ p0 3).rows).length : Int) 0 [.int 0, .int 0, .str [], .nils]).bind fun x4 =>
 match x4.1 with
 | 0 =>
 some [[.int 0, .int 0, .str [], .nils], [.bool false]]
 | i5 + 1 =>
 some [gR 1 x4.2, [.bool (gB 0 x4.2)]]
theorem value_Get_eq (E : Env) (p0 : Row) (p1 : List UInt8) : runP E value_Get_a [p0, [.str p1]] = value_Get E p0 p1 := by kernel_rfl

def align_ByKey_h1 : Shape := { slots := [(2, .d lS), (3, .d (.one (.ref 24))), (4, .d (.one (.ref 24))), (33, .d (.one (.sl 24))), (34, .d lI), (35, .d lI), (40, .d (.one (.sl 47))), (41, .d lI), (42, .d lI)], objs := [] }
def align_ByKey_o1 : List (Exit' × Shape) := [(.exit 2, { slots := [(2, .d lS), (3, .d (.one (.ref 24))), (4, .d (.one (.ref 24))), (33, .d (.one (.sl 24))), (34, .d lI), (35, .d lI)], objs := [] }), (.ret, { slots := [(6, .d (.one (.sl 32))), (7, .d lI)], objs := [] })]
def align_ByKey_c1 : ACode := (.seq (.region [] [oq 43 (.icmp .lss (.t 42) (.t 41))] false 0)
 (.seq (.cond (.t 43) .skip
 (.exit 2))
 (.seq (.block 3 (.seq (.region [] [oq 44 (.iad 47 lA0 (.t 40) (.t 42)),
 oq 45 (.ld lA0 47 (.t 44)),
 oq 12 (.allocO 0 lA0 [.str [], .int 0, .int 0, .str [], .nils]),
 ⟨none, .st lA0 (.t 12) (.t 45), none, []⟩] false 1)
 (.seq (.seq (.region [] [oq 46 (.fad 1 4 47 24 (.t 12)),
 oq 47 (.fad 0 1 24 3 (.t 46)),
 oq 48 (.ld lI 3 (.t 47)),
 oq 49 (.icmp .neq (.t 48) (.c lI [.int 6]))] false 0)
 (.cond (.t 49) (.seq (.region [] [oq 6 (.mov (.c (.one (.sl 32)) [.nils])),
 oq 7 (.mov (.c lI [.int 8]))] false 0)
 .ret)
 .skip))
 (.seq (.region [] [oq 51 (.fad 1 4 47 24 (.t 12)),
 oq 52 (.ld lA1 24 (.t 51)),
 oq 53 (.mov (.t 2)),
 oq 54 (.call 15 [lA1, lS] [lA1, lB] [(.t 52), (.t 53)]),
 oq 50 (.mov (.t 54)),
 oq 55 (.ext 0 (.t 50)),
 oq 56 (.ext 1 (.t 50)),
 oq 13 (.allocO 0 lA1 [.int 0, .int 0, .str [], .nils]),
 ⟨none, .st lA1 (.t 13) (.t 55), none, []⟩,
 oq 14 (.mov (.t 56))] false 1)
 (.seq (.region [] [oq 57 (.mov (.t 14)),
 oq 58 (.not (.t 57))] false 0)
 (.cond (.t 58) (.seq (.region [] [oq 6 (.mov (.c (.one (.sl 32)) [.nils])),
 oq 7 (.mov (.c lI [.int 16]))] false 0)
 .ret)
 .skip))))))
 (.region [] [oq 59 (.ibin .add (.t 42) (.c lI [.int 1])),
 oq 42 (.mov (.t 59))] false 0))))
noncomputable def align_ByKey_l1 (E : Env) (v0 : List UInt8) (v1 : C) (v2 : C) (v3 : C) (v4 : Int) (v5 : Int) (v6 : C) (v7 : Int) (v8 : Int) : Option (Nat × List PV) := E.fix (stepOf E align_ByKey_c1 align_ByKey_h1 align_ByKey_o1) [.r [.str v0], .r [v1], .r [v2], .r [v3], .r [.int v4], .r [.int v5], .r [v6], .r [.int v7], .r [.int v8]]
noncomputable def align_ByKey_b1 (E : Env) (X : List UInt8 → C → C → C → Int → Int → C → Int → Int → Option (Nat × List PV)) (v0 : List UInt8) (v1 : C) (v2 : C) (v3 : C) (v4 : Int) (v5 : Int) (v6 : C) (v7 : Int) (v8 : Int) : Option (Nat × List PV) :=
 if (decide (v8 < v7)) = true then
 if (0 : Int) ≤ v8 ∧ v8 < (v6.rows.length : Int) then
 if (((at_ (rowsAt v6.rows v8.toNat) 1).toI) != 6) = true then
 some (1, [.r [.nils], .r [.int 8]])
 else
 (E.pc n_value_Get [[at_ (rowsAt v6.rows v8.toNat) 1, at_ (rowsAt v6.rows v8.toNat) 2, at_ (rowsAt v6.rows v8.toNat) 3, at_ (rowsAt v6.rows v8.toNat) 4], [.str v0]]).bind fun y2 =>
 if (!((at_ (rowsAt y2 1) 0).toB)) = true then
 some (1, [.r [.nils], .r [.int 16]])
 else
 X v0 v1 v2 v3 v4 v5 v6 v7 (Go.IntKind.i64.wrap (v8 + 1))
 else none
 else
 some (0, [.r [.str v0], .r [v1], .r [v2], .r [v3], .r [.int v4], .r [.int v5]])
theorem align_ByKey_s1 (E : Env) (X : List PV → Option (Nat × List PV)) (v0 : List UInt8) (v1 : C) (v2 : C) (v3 : C) (v4 : Int) (v5 : Int) (v6 : C) (v7 : Int) (v8 : Int) : stepOf E align_ByKey_c1 align_ByKey_h1 align_ByKey_o1 X [.r [.str v0], .r [v1], .r [v2], .r [v3], .r [.int v4], .r [.int v5], .r [v6], .r [.int v7], .r [.int v8]] = align_ByKey_b1 E (fun (v0 : List UInt8) (v1 : C) (v2 : C) (v3 : C) (v4 : Int) (v5 : Int) (v6 : C) (v7 : Int) (v8 : Int) => X [.r [.str v0], .r [v1], .r [v2], .r [v3], .r [.int v4], .r [.int v5], .r [v6], .r [.int v7], .r [.int v8]]) v0 v1 v2 v3 v4 v5 v6 v7 v8 := by kernel_rfl
def align_ByKey_h0 : Shape := { slots := [(2, .d lS), (3, .d (.one (.ref 24))), (4, .d (.one (.ref 24))), (33, .d (.one (.sl 24))), (34, .d lI), (35, .d lI)], objs := [] }
def align_ByKey_o0 : List (Exit' × Shape) := [(.exit 0, { slots := [(2, .d lS), (3, .d (.one (.ref 24))), (4, .d (.one (.ref 24)))], objs := [] }), (.ret, { slots := [(6, .d (.one (.sl 32))), (7, .d lI)], objs := [] })]
def align_ByKey_c0 : ACode := (.seq (.region [] [oq 36 (.icmp .lss (.t 35) (.t 34))] false 0)
 (.seq (.cond (.t 36) .skip
 (.exit 0))
 (.seq (.block 1 (.seq (.region [] [oq 37 (.iad 24 lA1 (.t 33) (.t 35)),
 oq 38 (.ld lA1 24 (.t 37)),
 oq 10 (.allocO 0 lA1 [.int 0, .int 0, .str [], .nils]),
 ⟨none, .st lA1 (.t 10) (.t 38), none, []⟩] false 1)
 (.seq (.region [] [oq 39 (.fad 3 1 24 22 (.t 10)),
 oq 40 (.ld (.one (.sl 47)) 22 (.t 39)),
 oq 41 (.lenL (.t 40)),
 oq 42 (.mov (.c lI [.int 0]))] false 0)
 (.block 2 (.loop align_ByKey_h1 align_ByKey_o1 align_ByKey_c1)))))
 (.region [] [oq 60 (.ibin .add (.t 35) (.c lI [.int 1])),
 oq 35 (.mov (.t 60))] false 0))))
noncomputable def align_ByKey_l0 (E : Env) (v0 : List UInt8) (v1 : C) (v2 : C) (v3 : C) (v4 : Int) (v5 : Int) : Option (Nat × List PV) := E.fix (stepOf E align_ByKey_c0 align_ByKey_h0 align_ByKey_o0) [.r [.str v0], .r [v1], .r [v2], .r [v3], .r [.int v4], .r [.int v5]]
noncomputable def align_ByKey_b0 (E : Env) (X : List UInt8 → C → C → C → Int → Int → Option (Nat × List PV)) (v0 : List UInt8) (v1 : C) (v2 : C) (v3 : C) (v4 : Int) (v5 : Int) : Option (Nat × List PV) :=
 if (decide (v5 < v4)) = true then
 if (0 : Int) ≤ v5 ∧ v5 < (v3.rows.length : Int) then
 (align_ByKey_l1 E v0 v1 v2 v3 v4 v5 (at_ (rowsAt v3.rows v5.toNat) 3) (((at_ (rowsAt v3.rows v5.toNat) 3).rows).length : Int) 0).bind fun x3 =>
 match x3.1 with
 | 0 =>
 X (gS 0 x3.2) (gC 1 x3.2) (gC 2 x3.2) (gC 3 x3.2) (gI 4 x3.2) (Go.IntKind.i64.wrap ((gI 5 x3.2) + 1))
 | i4 + 1 =>
 some (1, [.r [gC 0 x3.2], .r [.int (gI 1 x3.2)]])
 else none
 else
 some (0, [.r [.str v0], .r [v1], .r [v2]])
theorem align_ByKey_s0 (E : Env) (X : List PV → Option (Nat × List PV)) (v0 : List UInt8) (v1 : C) (v2 : C) (v3 : C) (v4 : Int) (v5 : Int) : stepOf E align_ByKey_c0 align_ByKey_h0 align_ByKey_o0 X [.r [.str v0], .r [v1], .r [v2], .r [v3], .r [.int v4], .r [.int v5]] = align_ByKey_b0 E (fun (v0 : List UInt8) (v1 : C) (v2 : C) (v3 : C) (v4 : Int) (v5 : Int) => X [.r [.str v0], .r [v1], .r [v2], .r [v3], .r [.int v4], .r [.int v5]]) v0 v1 v2 v3 v4 v5 := by kernel_rfl
def align_ByKey_h3 : Shape := { slots := [(2, .d lS), (3, .d (.one (.ref 24))), (15, .whole 0), (16, .sw 1), (17, .d lI), (19, .ptr 2 0), (66, .d (.one (.sl 47))), (67, .d lI), (68, .d lI), (81, .d (.one (.sl 47))), (82, .d lI), (83, .d lI)], objs := [.arr lB, .sarr 32 lA2, .var lA1] }
def align_ByKey_o3 : List (Exit' × Shape) := [(.exit 6, { slots := [(2, .d lS), (3, .d (.one (.ref 24))), (15, .whole 0), (16, .sw 1), (66, .d (.one (.sl 47))), (67, .d lI), (68, .d lI)], objs := [.arr lB, .sarr 32 lA2] })]
def align_ByKey_c3 : ACode := (.seq (.region [] [oq 84 (.icmp .lss (.t 83) (.t 82))] false 0)
 (.seq (.cond (.t 84) .skip
 (.exit 6))
 (.seq (.block 7 (.seq (.region [] [oq 85 (.mov (.t 83)),
 oq 86 (.iad 47 lA0 (.t 81) (.t 83)),
 oq 87 (.ld lA0 47 (.t 86)),
 oq 22 (.allocO 0 lA0 [.str [], .int 0, .int 0, .str [], .nils]),
 oq 21 (.mov (.t 85)),
 ⟨none, .st lA0 (.t 22) (.t 87), none, []⟩] false 1)
 (.seq (.region [] [oq 89 (.fad 1 4 47 24 (.t 22)),
 oq 90 (.ld lA1 24 (.t 89)),
 oq 91 (.mov (.t 2)),
 oq 92 (.call 15 [lA1, lS] [lA1, lB] [(.t 90), (.t 91)]),
 oq 88 (.mov (.t 92)),
 oq 93 (.ext 0 (.t 88)),
 oq 94 (.ext 1 (.t 88)),
 oq 23 (.allocO 0 lA1 [.int 0, .int 0, .str [], .nils]),
 ⟨none, .st lA1 (.t 23) (.t 93), none, []⟩,
 oq 24 (.mov (.t 94))] false 1)
 (.seq (.join [(.normal, { slots := [(2, .d lS), (3, .d (.one (.ref 24))), (15, .whole 0), (16, .sw 1), (17, .d lI), (19, .ptr 2 0), (21, .d lI), (66, .d (.one (.sl 47))), (67, .d lI), (68, .d lI), (81, .d (.one (.sl 47))), (82, .d lI), (83, .d lI), (104, .d lB)], objs := [.arr lB, .sarr 32 lA2, .var lA1] })] (.region [] [oq 95 (.mov (.t 15)),
 oq 96 (.mov (.t 21)),
 oq 97 (.iad 4 lB (.t 95) (.t 96)),
 oq 98 (.ld lB 4 (.t 97)),
 oq 99 (.not (.t 98)),
 oq 100 (.mov (.t 99)),
 ⟨some 101, .ld lA1 24 (.t 19), some (100, true), []⟩,
 ⟨some 102, .ld lA1 24 (.t 23), some (100, true), []⟩,
 ⟨some 103, .call 16 [lA1, lA1] [lB] [(.t 101), (.t 102)], some (100, true), []⟩,
 oq 104 (.pick (.t 100) (.t 103) (.c lB [.bool false]))] false 0))
 (.cond (.t 104) (.seq (.region [] [oq 105 (.mov (.t 15)),
 oq 106 (.mov (.t 21)),
 oq 107 (.iad 4 lB (.t 105) (.t 106)),
 ⟨none, .st lB (.t 107) (.c lB [.bool true]), none, []⟩] false 0)
 (.seq (.region [] [oq 108 (.mov (.t 16)),
 oq 109 (.mov (.t 21)),
 oq 110 (.mov (.t 17)),
 oq 111 (.bld lA2 [.int 0, .int 0] [(0, 1, (.t 109)), (1, 1, (.t 110))]),
 oq 112 (.bsl 32 lA2 1 [.int 0, .int 0] [(0, (.t 111))]),
 oq 113 (.appW 0 32 lA2 16 (.t 108) (.t 112)),
 oq 16 (.mov (.t 113))] false 1)
 (.exit 6)))
 .skip)))))
 (.region [] [oq 114 (.ibin .add (.t 83) (.c lI [.int 1])),
 oq 83 (.mov (.t 114))] false 0))))
noncomputable def align_ByKey_l3 (E : Env) (v0 : List UInt8) (v1 : C) (v2 : Int) (v3 : C) (v4 : Int) (v5 : Int) (v6 : C) (v7 : Int) (v8 : Int) (v9 : C) (v10 : C) (v11 : Row) : Option (Nat × List PV) := E.fix (stepOf E align_ByKey_c3 align_ByKey_h3 align_ByKey_o3) [.r [.str v0], .r [v1], .r [.int v2], .r [v3], .r [.int v4], .r [.int v5], .r [v6], .r [.int v7], .r [.int v8], .r [v9], .r [v10], .r v11]
noncomputable def align_ByKey_b3 (E : Env) (X : List UInt8 → C → Int → C → Int → Int → C → Int → Int → C → C → Row → Option (Nat × List PV)) (v0 : List UInt8) (v1 : C) (v2 : Int) (v3 : C) (v4 : Int) (v5 : Int) (v6 : C) (v7 : Int) (v8 : Int) (v9 : C) (v10 : C) (v11 : Row) : Option (Nat × List PV) :=
 if (decide (v8 < v7)) = true then
 if (0 : Int) ≤ v8 ∧ v8 < (v6.rows.length : Int) then
 (E.pc n_value_Get [[at_ (rowsAt v6.rows v8.toNat) 1, at_ (rowsAt v6.rows v8.toNat) 2, at_ (rowsAt v6.rows v8.toNat) 3, at_ (rowsAt v6.rows v8.toNat) 4], [.str v0]]).bind fun y8 =>
 (if (0 : Int) ≤ v8 ∧ v8 < (v9.rows.length : Int) then
 if v8.toNat < v9.rows.length then
 let K9 : Bool → Option (Nat × List PV) := fun q10 =>
 some (0, [.r [.str v0], .r [v1], .r [.int v2], .r [.int v8], .r [v3], .r [.int v4], .r [.int v5], .r [v6], .r [.int v7], .r [.int v8], .r [.bool q10], .r [v9], .r [v10], .r v11])
 if (!((at_ (rowsAt v9.rows v8.toNat) 0).toB)) = true then
 (E.pc n_value_Same [v11, rowsAt y8 0]).bind fun y11 =>
 K9 ((at_ (rowsAt y11 0) 0).toB)
 else
 K9 false
 else none
 else none).bind fun x12 =>
 if (gB 10 x12.2) = true then
 if (0 : Int) ≤ (gI 3 x12.2) ∧ (gI 3 x12.2) < (((gC 11 x12.2).rows).length : Int) then
 if ((gI 3 x12.2).toNat) < ((gC 11 x12.2).rows).length then
 if (((gC 12 x12.2).rows).length + ([[.int (gI 3 x12.2), .int (gI 2 x12.2)]] : List Row).length) * 16 ≤ 140737488355328 then
 some (0, [.r [.str (gS 0 x12.2)], .r [gC 1 x12.2], .r [gC 4 x12.2], .r [.int (gI 5 x12.2)], .r [.int (gI 6 x12.2)], .r [.sl (((gC 11 x12.2).rows).set ((gI 3 x12.2).toNat) [.bool true])], .r [appC (gC 12 x12.2) ([[.int (gI 3 x12.2), .int (gI 2 x12.2)]] : List Row)]])
 else none
 else none
 else none
 else
 X (gS 0 x12.2) (gC 1 x12.2) (gI 2 x12.2) (gC 4 x12.2) (gI 5 x12.2) (gI 6 x12.2) (gC 7 x12.2) (gI 8 x12.2) (Go.IntKind.i64.wrap ((gI 9 x12.2) + 1)) (gC 11 x12.2) (gC 12 x12.2) (gR 13 x12.2)
 else none
 else
 some (0, [.r [.str v0], .r [v1], .r [v3], .r [.int v4], .r [.int v5], .r [v9], .r [v10]])
theorem align_ByKey_s3 (E : Env) (X : List PV → Option (Nat × List PV)) (v0 : List UInt8) (v1 : C) (v2 : Int) (v3 : C) (v4 : Int) (v5 : Int) (v6 : C) (v7 : Int) (v8 : Int) (v9 : C) (v10 : C) (v11 : Row) : stepOf E align_ByKey_c3 align_ByKey_h3 align_ByKey_o3 X [.r [.str v0], .r [v1], .r [.int v2], .r [v3], .r [.int v4], .r [.int v5], .r [v6], .r [.int v7], .r [.int v8], .r [v9], .r [v10], .r v11] = align_ByKey_b3 E (fun (v0 : List UInt8) (v1 : C) (v2 : Int) (v3 : C) (v4 : Int) (v5 : Int) (v6 : C) (v7 : Int) (v8 : Int) (v9 : C) (v10 : C) (v11 : Row) => X [.r [.str v0], .r [v1], .r [.int v2], .r [v3], .r [.int v4], .r [.int v5], .r [v6], .r [.int v7], .r [.int v8], .r [v9], .r [v10], .r v11]) v0 v1 v2 v3 v4 v5 v6 v7 v8 v9 v10 v11 := by kernel_rfl
def align_ByKey_h2 : Shape := { slots := [(2, .d lS), (3, .d (.one (.ref 24))), (15, .whole 0), (16, .sw 1), (66, .d (.one (.sl 47))), (67, .d lI), (68, .d lI)], objs := [.arr lB, .sarr 32 lA2] }
def align_ByKey_o2 : List (Exit' × Shape) := [(.exit 4, { slots := [(16, .sw 0)], objs := [.sarr 32 lA2] })]
def align_ByKey_c2 : ACode := (.seq (.region [] [oq 69 (.icmp .lss (.t 68) (.t 67))] false 0)
 (.seq (.cond (.t 69) .skip
 (.exit 4))
 (.seq (.block 5 (.seq (.region [] [oq 70 (.mov (.t 68)),
 oq 71 (.iad 47 lA0 (.t 66) (.t 68)),
 oq 72 (.ld lA0 47 (.t 71)),
 oq 18 (.allocO 0 lA0 [.str [], .int 0, .int 0, .str [], .nils]),
 oq 17 (.mov (.t 70)),
 ⟨none, .st lA0 (.t 18) (.t 72), none, []⟩] false 1)
 (.seq (.region [] [oq 74 (.fad 1 4 47 24 (.t 18)),
 oq 75 (.ld lA1 24 (.t 74)),
 oq 76 (.mov (.t 2)),
 oq 77 (.call 15 [lA1, lS] [lA1, lB] [(.t 75), (.t 76)]),
 oq 73 (.mov (.t 77)),
 oq 78 (.ext 0 (.t 73)),
 oq 79 (.ext 1 (.t 73)),
 oq 19 (.allocO 0 lA1 [.int 0, .int 0, .str [], .nils]),
 ⟨none, .st lA1 (.t 19) (.t 78), none, []⟩,
 oq 20 (.mov (.t 79))] false 1)
 (.seq (.region [] [oq 80 (.fad 3 1 24 22 (.t 3)),
 oq 81 (.ld (.one (.sl 47)) 22 (.t 80)),
 oq 82 (.lenL (.t 81)),
 oq 83 (.mov (.c lI [.int 0]))] false 0)
 (.block 6 (.loop align_ByKey_h3 align_ByKey_o3 align_ByKey_c3))))))
 (.region [] [oq 115 (.ibin .add (.t 68) (.c lI [.int 1])),
 oq 68 (.mov (.t 115))] false 0))))
noncomputable def align_ByKey_l2 (E : Env) (v0 : List UInt8) (v1 : C) (v2 : C) (v3 : Int) (v4 : Int) (v5 : C) (v6 : C) : Option (Nat × List PV) := E.fix (stepOf E align_ByKey_c2 align_ByKey_h2 align_ByKey_o2) [.r [.str v0], .r [v1], .r [v2], .r [.int v3], .r [.int v4], .r [v5], .r [v6]]
noncomputable def align_ByKey_b2 (E : Env) (X : List UInt8 → C → C → Int → Int → C → C → Option (Nat × List PV)) (v0 : List UInt8) (v1 : C) (v2 : C) (v3 : Int) (v4 : Int) (v5 : C) (v6 : C) : Option (Nat × List PV) :=
 if (decide (v4 < v3)) = true then
 if (0 : Int) ≤ v4 ∧ v4 < (v2.rows.length : Int) then
 (E.pc n_value_Get [[at_ (rowsAt v2.rows v4.toNat) 1, at_ (rowsAt v2.rows v4.toNat) 2, at_ (rowsAt v2.rows v4.toNat) 3, at_ (rowsAt v2.rows v4.toNat) 4], [.str v0]]).bind fun y7 =>
 if v1.isDp = true then
 (align_ByKey_l3 E v0 v1 v4 v2 v3 v4 (at_ v1.dpRow 3) (((at_ v1.dpRow 3).rows).length : Int) 0 v5 v6 (rowsAt y7 0)).bind fun x13 =>
 X (gS 0 x13.2) (gC 1 x13.2) (gC 2 x13.2) (gI 3 x13.2) (Go.IntKind.i64.wrap ((gI 4 x13.2) + 1)) (gC 5 x13.2) (gC 6 x13.2)
 else none
 else none
 else
 some (0, [.r [v6]])
theorem align_ByKey_s2 (E : Env) (X : List PV → Option (Nat × List PV)) (v0 : List UInt8) (v1 : C) (v2 : C) (v3 : Int) (v4 : Int) (v5 : C) (v6 : C) : stepOf E align_ByKey_c2 align_ByKey_h2 align_ByKey_o2 X [.r [.str v0], .r [v1], .r [v2], .r [.int v3], .r [.int v4], .r [v5], .r [v6]] = align_ByKey_b2 E (fun (v0 : List UInt8) (v1 : C) (v2 : C) (v3 : Int) (v4 : Int) (v5 : C) (v6 : C) => X [.r [.str v0], .r [v1], .r [v2], .r [.int v3], .r [.int v4], .r [v5], .r [v6]]) v0 v1 v2 v3 v4 v5 v6 := by kernel_rfl
def align_ByKey_a : AFun := { ps := [lA1, lA1, lS], rs := [(.one (.sl 32)), lI], res := [(false, 6, (some lA2)), (false, 7, none)], body := (.seq (.region [] [oq 3 (.boxP lA1 24 (.t 0)),
 oq 4 (.boxP lA1 24 (.t 1)),
 oq 6 (.mov (.c (.one (.sl 32)) [.nils])),
 oq 7 (.mov (.c lI [.int 0]))] false 0)
 (.seq (.seq (.region [] [oq 25 (.ld lA1 24 (.t 3)),
 oq 26 (.ld lA1 24 (.t 4)),
 oq 27 (.call 13 [lA1, lA1] [lI] [(.t 25), (.t 26)]),
 oq 8 (.mov (.t 27))] false 0)
 (.seq (.region [] [oq 28 (.mov (.t 8)),
 oq 29 (.icmp .neq (.t 28) (.c lI [.int 0]))] false 0)
 (.cond (.t 29) (.seq (.region [] [oq 30 (.mov (.t 8)),
 oq 6 (.mov (.c (.one (.sl 32)) [.nils])),
 oq 7 (.mov (.t 30))] false 0)
 .ret)
 .skip)))
 (.seq (.seq (.region [] [oq 31 (.ld lA1 24 (.t 3)),
 oq 32 (.ld lA1 24 (.t 4)),
 oq 33 (.bsl 24 lA1 2 [.int 0, .int 0, .str [], .nils] [(0, (.t 31)), (1, (.t 32))]),
 oq 34 (.lenL (.t 33)),
 oq 35 (.mov (.c lI [.int 0]))] false 0)
 (.block 0 (.loop align_ByKey_h0 align_ByKey_o0 align_ByKey_c0)))
 (.seq (.region [] [oq 61 (.fad 3 1 24 22 (.t 3)),
 oq 62 (.ld (.one (.sl 47)) 22 (.t 61)),
 oq 63 (.lenL (.t 62)),
 oq 64 (.mk 0 4 lB [.bool false] 1 (.t 63) (.t 63)),
 oq 15 (.mov (.t 64))] false 1)
 (.seq (.region [] [oq 16 (.nilS 0 32 lA2)] false 1)
 (.seq (.seq (.region [] [oq 65 (.fad 3 1 24 22 (.t 4)),
 oq 66 (.ld (.one (.sl 47)) 22 (.t 65)),
 oq 67 (.lenL (.t 66)),
 oq 68 (.mov (.c lI [.int 0]))] false 0)
 (.block 4 (.loop align_ByKey_h2 align_ByKey_o2 align_ByKey_c2)))
 (.seq (.region [] [oq 116 (.mov (.t 16)),
 oq 6 (.mov (.t 116)),
 oq 7 (.mov (.c lI [.int 0]))] false 0)
 .ret))))))) }
noncomputable def align_ByKey (E : Env) (p0 : Row) (p1 : Row) (p2 : List UInt8) : Option (List Row) :=
 (E.pc n_align_check [p0, p1]).bind fun y1 =>
 if (((at_ (rowsAt y1 0) 0).toI) != 0) = true then
 some [[.nils], [.int ((at_ (rowsAt y1 0) 0).toI)]]
 else
 (align_ByKey_l0 E p2 (.dp p0) (.dp p1) (.sl ([p0, p1] : List Row)) (([p0, p1] : List Row).length : Int) 0).bind fun x5 =>
 match x5.1 with
 | 0 =>
 if (gC 1 x5.2).isDp = true then
 if (0 : Int) ≤ (((at_ ((gC 1 x5.2).dpRow) 3).rows).length : Int) ∧ (((at_ ((gC 1 x5.2).dpRow) 3).rows).length : Int) ≤ (((at_ ((gC 1 x5.2).dpRow) 3).rows).length : Int) ∧ (((at_ ((gC 1 x5.2).dpRow) 3).rows).length : Int) * 1 ≤ 140737488355328 ∧ (((at_ ((gC 1 x5.2).dpRow) 3).rows).length : Int) ≤ 1099511627776 then
 if (gC 2 x5.2).isDp = true then
 (align_ByKey_l2 E (gS 0 x5.2) (gC 1 x5.2) (at_ ((gC 2 x5.2).dpRow) 3) (((at_ ((gC 2 x5.2).dpRow) 3).rows).length : Int) 0 (.sl (List.replicate ((((at_ ((gC 1 x5.2).dpRow) 3).rows).length : Int).toNat) ([.bool false] : Row))) .nils).bind fun x14 =>
 some [[gC 0 x14.2], [.int 0]]
 else none
 else none
 else none
 | i6 + 1 =>
 some [[gC 0 x5.2], [.int (gI 1 x5.2)]]
theorem align_ByKey_eq (E : Env) (p0 : Row) (p1 : Row) (p2 : List UInt8) : runP E align_ByKey_a [p0, p1, [.str p2]] = align_ByKey E p0 p1 p2 := by kernel_rfl

def clapref3_ByKey_1_h0 : Shape := { slots := [(1, .d (.one (.ref 9))), (5, .sw 0), (11, .d (.one (.sl 47))), (12, .d lI), (13, .d lI)], objs := [.sarr 24 lA1] }
def clapref3_ByKey_1_o0 : List (Exit' × Shape) := [(.exit 0, { slots := [(5, .sw 0)], objs := [.sarr 24 lA1] }), (.ret, { slots := [(3, .d (.one (.sl 24))), (4, .d lI)], objs := [] })]
def clapref3_ByKey_1_c0 : ACode := (.seq (.region [] [oq 14 (.icmp .lss (.t 13) (.t 12))] false 0)
 (.seq (.cond (.t 14) .skip
 (.exit 0))
 (.seq (.block 1 (.seq (.region [] [oq 15 (.iad 47 lA0 (.t 11) (.t 13)),
 oq 16 (.ld lA0 47 (.t 15)),
 oq 7 (.allocO 0 lA0 [.str [], .int 0, .int 0, .str [], .nils]),
 ⟨none, .st lA0 (.t 7) (.t 16), none, []⟩] false 1)
 (.seq (.seq (.region [] [oq 17 (.fad 1 4 47 24 (.t 7)),
 oq 18 (.fad 0 1 24 3 (.t 17)),
 oq 19 (.ld lI 3 (.t 18)),
 oq 20 (.icmp .neq (.t 19) (.c lI [.int 6]))] false 0)
 (.cond (.t 20) (.seq (.region [] [oq 3 (.mov (.c (.one (.sl 24)) [.nils])),
 oq 4 (.mov (.c lI [.int 8]))] false 0)
 .ret)
 .skip))
 (.seq (.region [] [oq 22 (.fad 1 4 47 24 (.t 7)),
 oq 23 (.ld lA1 24 (.t 22)),
 oq 24 (.ld lS 9 (.t 1)),
 oq 25 (.call 15 [lA1, lS] [lA1, lB] [(.t 23), (.t 24)]),
 oq 21 (.mov (.t 25)),
 oq 26 (.ext 0 (.t 21)),
 oq 27 (.ext 1 (.t 21)),
 oq 8 (.allocO 0 lA1 [.int 0, .int 0, .str [], .nils]),
 ⟨none, .st lA1 (.t 8) (.t 26), none, []⟩,
 oq 9 (.mov (.t 27))] false 1)
 (.seq (.seq (.region [] [oq 28 (.mov (.t 9)),
 oq 29 (.not (.t 28))] false 0)
 (.cond (.t 29) (.seq (.region [] [oq 3 (.mov (.c (.one (.sl 24)) [.nils])),
 oq 4 (.mov (.c lI [.int 16]))] false 0)
 .ret)
 .skip))
 (.region [] [oq 30 (.mov (.t 5)),
 oq 31 (.ld lA1 24 (.t 8)),
 oq 32 (.bsl 24 lA1 1 [.int 0, .int 0, .str [], .nils] [(0, (.t 31))]),
 oq 33 (.appW 0 24 lA1 56 (.t 30) (.t 32)),
 oq 5 (.mov (.t 33))] false 1))))))
 (.region [] [oq 34 (.ibin .add (.t 13) (.c lI [.int 1])),
 oq 13 (.mov (.t 34))] false 0))))
noncomputable def clapref3_ByKey_1_l0 (E : Env) (v0 : C) (v1 : C) (v2 : Int) (v3 : Int) (v4 : C) : Option (Nat × List PV) := E.fix (stepOf E clapref3_ByKey_1_c0 clapref3_ByKey_1_h0 clapref3_ByKey_1_o0) [.r [v0], .r [v1], .r [.int v2], .r [.int v3], .r [v4]]
noncomputable def clapref3_ByKey_1_b0 (E : Env) (X : C → C → Int → Int → C → Option (Nat × List PV)) (v0 : C) (v1 : C) (v2 : Int) (v3 : Int) (v4 : C) : Option (Nat × List PV) :=
 if (decide (v3 < v2)) = true then
 if (0 : Int) ≤ v3 ∧ v3 < (v1.rows.length : Int) then
 if (((at_ (rowsAt v1.rows v3.toNat) 1).toI) != 6) = true then
 some (1, [.r [.nils], .r [.int 8]])
 else
 if v0.isDp = true then
 (E.pc n_value_Get [[at_ (rowsAt v1.rows v3.toNat) 1, at_ (rowsAt v1.rows v3.toNat) 2, at_ (rowsAt v1.rows v3.toNat) 3, at_ (rowsAt v1.rows v3.toNat) 4], [.str ((at_ v0.dpRow 0).toS)]]).bind fun y1 =>
 if (!((at_ (rowsAt y1 1) 0).toB)) = true then
 some (1, [.r [.nils], .r [.int 16]])
 else
 if (v4.rows.length + ([rowsAt y1 0] : List Row).length) * 56 ≤ 140737488355328 then
 X v0 v1 v2 (Go.IntKind.i64.wrap (v3 + 1)) (appC v4 ([rowsAt y1 0] : List Row))
 else none
 else none
 else none
 else
 some (0, [.r [v4]])
theorem clapref3_ByKey_1_s0 (E : Env) (X : List PV → Option (Nat × List PV)) (v0 : C) (v1 : C) (v2 : Int) (v3 : Int) (v4 : C) : stepOf E clapref3_ByKey_1_c0 clapref3_ByKey_1_h0 clapref3_ByKey_1_o0 X [.r [v0], .r [v1], .r [.int v2], .r [.int v3], .r [v4]] = clapref3_ByKey_1_b0 E (fun (v0 : C) (v1 : C) (v2 : Int) (v3 : Int) (v4 : C) => X [.r [v0], .r [v1], .r [.int v2], .r [.int v3], .r [v4]]) v0 v1 v2 v3 v4 := by kernel_rfl
def clapref3_ByKey_1_a : AFun := { ps := [lA1, (.one (.ref 9))], rs := [(.one (.sl 24)), lI], res := [(false, 3, (some lA1)), (false, 4, none)], body := (.seq (.region [] [oq 2 (.boxP lA1 24 (.t 0)),
 oq 3 (.mov (.c (.one (.sl 24)) [.nils])),
 oq 4 (.mov (.c lI [.int 0]))] false 0)
 (.seq (.region [] [oq 5 (.nilS 0 24 lA1)] false 1)
 (.seq (.seq (.region [] [oq 10 (.fad 3 1 24 22 (.t 2)),
 oq 11 (.ld (.one (.sl 47)) 22 (.t 10)),
 oq 12 (.lenL (.t 11)),
 oq 13 (.mov (.c lI [.int 0]))] false 0)
 (.block 0 (.loop clapref3_ByKey_1_h0 clapref3_ByKey_1_o0 clapref3_ByKey_1_c0)))
 (.seq (.region [] [oq 35 (.mov (.t 5)),
 oq 3 (.mov (.t 35)),
 oq 4 (.mov (.c lI [.int 0]))] false 0)
 .ret)))) }
noncomputable def clapref3_ByKey_1 (E : Env) (p0 : Row) (p1 : C) : Option (List Row) :=
 (clapref3_ByKey_1_l0 E p1 (at_ p0 3) (((at_ p0 3).rows).length : Int) 0 .nils).bind fun x2 =>
 match x2.1 with
 | 0 =>
 some [[gC 0 x2.2], [.int 0]]
 | i3 + 1 =>
 some [[gC 0 x2.2], [.int (gI 1 x2.2)]]
theorem clapref3_ByKey_1_eq (E : Env) (p0 : Row) (p1 : C) : runP E clapref3_ByKey_1_a [p0, [p1]] = clapref3_ByKey_1 E p0 p1 := by kernel_rfl

def clapref3_same_h0 : Shape := { slots := [(3, .d (.one (.ref 24))), (36, .d (.one (.sl 47))), (37, .d lI), (38, .d lI)], objs := [] }
def clapref3_same_o0 : List (Exit' × Shape) := [(.exit 0, { slots := [], objs := [] }), (.ret, { slots := [(4, .d lB)], objs := [] })]
def clapref3_same_c0 : ACode := (.seq (.region [] [oq 39 (.icmp .lss (.t 38) (.t 37))] false 0)
 (.seq (.cond (.t 39) .skip
 (.exit 0))
 (.seq (.block 1 (.seq (.region [] [oq 40 (.mov (.t 38)),
 oq 41 (.iad 47 lA0 (.t 36) (.t 38)),
 oq 42 (.ld lA0 47 (.t 41)),
 oq 6 (.allocO 0 lA0 [.str [], .int 0, .int 0, .str [], .nils]),
 oq 5 (.mov (.t 40)),
 ⟨none, .st lA0 (.t 6) (.t 42), none, []⟩] false 1)
 (.seq (.region [] [oq 43 (.fad 0 1 47 9 (.t 6)),
 ⟨some 44, .ld lS 9 (.t 43), none, [0]⟩,
 oq 45 (.fad 3 1 24 22 (.t 3)),
 ⟨some 46, .ld (.one (.sl 47)) 22 (.t 45), none, [2]⟩,
 oq 47 (.mov (.t 5)),
 ⟨some 48, .iad 47 lA0 (.t 46) (.t 47), none, [2, 3, 4]⟩,
 ⟨some 49, .fad 0 1 47 9 (.t 48), none, [2, 3, 4, 5]⟩,
 ⟨some 50, .ld lS 9 (.t 49), none, [2, 3, 4, 5, 6]⟩,
 ⟨some 51, .scmp .neq (.t 44) (.t 50), none, [0, 1, 2, 3, 4, 5, 6, 7]⟩,
 ⟨some 52, .mov (.t 51), none, [0, 1, 2, 3, 4, 5, 6, 7, 8]⟩,
 ⟨some 53, .fad 1 4 47 24 (.t 6), some (52, false), [0, 1, 2, 3, 4, 5, 6, 7, 8, 9]⟩,
 ⟨some 54, .ld lA1 24 (.t 53), some (52, false), [0, 1, 2, 3, 4, 5, 6, 7, 8, 9, 10]⟩,
 ⟨some 55, .fad 3 1 24 22 (.t 3), some (52, false), [0, 1, 2, 3, 4, 5, 6, 7, 8, 9]⟩,
 ⟨some 56, .ld (.one (.sl 47)) 22 (.t 55), some (52, false), [0, 1, 2, 3, 4, 5, 6, 7, 8, 9, 12]⟩,
 ⟨some 57, .mov (.t 5), some (52, false), [0, 1, 2, 3, 4, 5, 6, 7, 8, 9]⟩,
 ⟨some 58, .iad 47 lA0 (.t 56) (.t 57), some (52, false), [0, 1, 2, 3, 4, 5, 6, 7, 8, 9, 12, 13, 14]⟩,
 ⟨some 59, .fad 1 4 47 24 (.t 58), some (52, false), [0, 1, 2, 3, 4, 5, 6, 7, 8, 9, 12, 13, 14, 15]⟩,
 ⟨some 60, .ld lA1 24 (.t 59), some (52, false), [0, 1, 2, 3, 4, 5, 6, 7, 8, 9, 12, 13, 14, 15, 16]⟩,
 ⟨some 61, .call 18 [lA1, lA1] [lB] [(.t 54), (.t 60)], some (52, false), [0, 1, 2, 3, 4, 5, 6, 7, 8, 9, 10, 11, 12, 13, 14, 15, 16, 17]⟩,
 ⟨some 62, .not (.t 61), some (52, false), [0, 1, 2, 3, 4, 5, 6, 7, 8, 9, 10, 11, 12, 13, 14, 15, 16, 17, 18]⟩,
 ⟨some 63, .pick (.t 52) (.c lB [.bool true]) (.t 62), none, [0, 1, 2, 3, 4, 5, 6, 7, 8, 9, 10, 11, 12, 13, 14, 15, 16, 17, 18, 19]⟩] true 0)
 (.cond (.t 63) (.seq (.region [] [oq 4 (.mov (.c lB [.bool false]))] false 0)
 .ret)
 .skip))))
 (.region [] [oq 64 (.ibin .add (.t 38) (.c lI [.int 1])),
 oq 38 (.mov (.t 64))] false 0))))
noncomputable def clapref3_same_l0 (E : Env) (v0 : C) (v1 : C) (v2 : Int) (v3 : Int) : Option (Nat × List PV) := E.fix (stepOf E clapref3_same_c0 clapref3_same_h0 clapref3_same_o0) [.r [v0], .r [v1], .r [.int v2], .r [.int v3]]
noncomputable def clapref3_same_b0 (E : Env) (X : C → C → Int → Int → Option (Nat × List PV)) (v0 : C) (v1 : C) (v2 : Int) (v3 : Int) : Option (Nat × List PV) :=
 if (decide (v3 < v2)) = true then
 if (0 : Int) ≤ v3 ∧ v3 < (v1.rows.length : Int) then
 if v0.isDp = true then
 if (0 : Int) ≤ v3 ∧ v3 < (((at_ v0.dpRow 3).rows).length : Int) then
 let K8 : Bool → Option (Nat × List PV) := fun q9 =>
 if q9 = true then
 some (1, [.r [.bool false]])
 else
 X v0 v1 v2 (Go.IntKind.i64.wrap (v3 + 1))
 if (!(((at_ (rowsAt v1.rows v3.toNat) 0).toS) == ((at_ (rowsAt ((at_ v0.dpRow 3).rows) v3.toNat) 0).toS))) = true then
 K8 true
 else
 if v0.isDp = true then
 if (0 : Int) ≤ v3 ∧ v3 < (((at_ v0.dpRow 3).rows).length : Int) then
 (E.pc n_clapref3_same [[at_ (rowsAt v1.rows v3.toNat) 1, at_ (rowsAt v1.rows v3.toNat) 2, at_ (rowsAt v1.rows v3.toNat) 3, at_ (rowsAt v1.rows v3.toNat) 4], [at_ (rowsAt ((at_ v0.dpRow 3).rows) v3.toNat) 1, at_ (rowsAt ((at_ v0.dpRow 3).rows) v3.toNat) 2, at_ (rowsAt ((at_ v0.dpRow 3).rows) v3.toNat) 3, at_ (rowsAt ((at_ v0.dpRow 3).rows) v3.toNat) 4]]).bind fun y10 =>
 K8 (!((at_ (rowsAt y10 0) 0).toB))
 else none
 else none
 else none
 else none
 else none
 else
 some (0, [])
theorem clapref3_same_s0 (E : Env) (X : List PV → Option (Nat × List PV)) (v0 : C) (v1 : C) (v2 : Int) (v3 : Int) : stepOf E clapref3_same_c0 clapref3_same_h0 clapref3_same_o0 X [.r [v0], .r [v1], .r [.int v2], .r [.int v3]] = clapref3_same_b0 E (fun (v0 : C) (v1 : C) (v2 : Int) (v3 : Int) => X [.r [v0], .r [v1], .r [.int v2], .r [.int v3]]) v0 v1 v2 v3 := by kernel_rfl
def clapref3_same_a : AFun := { ps := [lA1, lA1], rs := [lB], res := [(false, 4, none)], body := (.seq (.region [] [oq 2 (.boxP lA1 24 (.t 0)),
 oq 3 (.boxP lA1 24 (.t 1)),
 oq 4 (.mov (.c lB [.bool false]))] false 0)
 (.seq (.seq (.join [(.normal, { slots := [(2, .d (.one (.ref 24))), (3, .d (.one (.ref 24))), (34, .d lB)], objs := [] })] (.region [] [oq 7 (.fad 0 1 24 3 (.t 2)),
 oq 8 (.ld lI 3 (.t 7)),
 oq 9 (.fad 0 1 24 3 (.t 3)),
 oq 10 (.ld lI 3 (.t 9)),
 oq 11 (.icmp .neq (.t 8) (.t 10)),
 oq 12 (.mov (.t 11)),
 ⟨some 13, .fad 1 1 24 3 (.t 2), some (12, false), []⟩,
 ⟨some 14, .ld lI 3 (.t 13), some (12, false), []⟩,
 ⟨some 15, .fad 1 1 24 3 (.t 3), some (12, false), []⟩,
 ⟨some 16, .ld lI 3 (.t 15), some (12, false), []⟩,
 ⟨some 17, .icmp .neq (.t 14) (.t 16), some (12, false), []⟩,
 oq 18 (.pick (.t 12) (.c lB [.bool true]) (.t 17)),
 oq 19 (.mov (.t 18)),
 ⟨some 20, .fad 2 1 24 9 (.t 2), some (19, false), []⟩,
 ⟨some 21, .ld lS 9 (.t 20), some (19, false), []⟩,
 ⟨some 22, .fad 2 1 24 9 (.t 3), some (19, false), []⟩,
 ⟨some 23, .ld lS 9 (.t 22), some (19, false), []⟩,
 ⟨some 24, .scmp .neq (.t 21) (.t 23), some (19, false), []⟩,
 oq 25 (.pick (.t 19) (.c lB [.bool true]) (.t 24)),
 oq 26 (.mov (.t 25)),
 ⟨some 27, .fad 3 1 24 22 (.t 2), some (26, false), []⟩,
 ⟨some 28, .ld (.one (.sl 47)) 22 (.t 27), some (26, false), []⟩,
 ⟨some 29, .lenL (.t 28), some (26, false), []⟩,
 ⟨some 30, .fad 3 1 24 22 (.t 3), some (26, false), []⟩,
 ⟨some 31, .ld (.one (.sl 47)) 22 (.t 30), some (26, false), []⟩,
 ⟨some 32, .lenL (.t 31), some (26, false), []⟩,
 ⟨some 33, .icmp .neq (.t 29) (.t 32), some (26, false), []⟩,
 oq 34 (.pick (.t 26) (.c lB [.bool true]) (.t 33))] false 0))
 (.cond (.t 34) (.seq (.region [] [oq 4 (.mov (.c lB [.bool false]))] false 0)
 .ret)
 .skip))
 (.seq (.seq (.region [] [oq 35 (.fad 3 1 24 22 (.t 2)),
 oq 36 (.ld (.one (.sl 47)) 22 (.t 35)),
 oq 37 (.lenL (.t 36)),
 oq 38 (.mov (.c lI [.int 0]))] false 0)
 (.block 0 (.loop clapref3_same_h0 clapref3_same_o0 clapref3_same_c0)))
 (.seq (.region [] [oq 4 (.mov (.c lB [.bool true]))] false 0)
 .ret)))) }
noncomputable def clapref3_same (E : Env) (p0 : Row) (p1 : Row) : Option (List Row) :=
 (let K1 : Bool → Option (Nat × List PV) := fun q2 =>
 let K3 : Bool → Option (Nat × List PV) := fun q4 =>
 let K5 : Bool → Option (Nat × List PV) := fun q6 =>
 some (0, [.r [.dp p0], .r [.dp p1], .r [.bool q6]])
 if q4 = true then
 K5 true
 else
 K5 ((((at_ p0 3).rows).length : Int) != (((at_ p1 3).rows).length : Int))
 if q2 = true then
 K3 true
 else
 K3 (!(((at_ p0 2).toS) == ((at_ p1 2).toS)))
 if (((at_ p0 0).toI) != ((at_ p1 0).toI)) = true then
 K1 true
 else
 K1 (((at_ p0 1).toI) != ((at_ p1 1).toI))).bind fun x7 =>
 if (gB 2 x7.2) = true then
 some [[.bool false]]
 else
 if (gC 0 x7.2).isDp = true then
 (clapref3_same_l0 E (gC 1 x7.2) (at_ ((gC 0 x7.2).dpRow) 3) (((at_ ((gC 0 x7.2).dpRow) 3).rows).length : Int) 0).bind fun x11 =>
 match x11.1 with
 | 0 =>
 some [[.bool true]]
 | i12 + 1 =>
 some [[.bool (gB 0 x11.2)]]
 else none
theorem clapref3_same_eq (E : Env) (p0 : Row) (p1 : Row) : runP E clapref3_same_a [p0, p1] = clapref3_same E p0 p1 := by kernel_rfl
end Go.Ev
