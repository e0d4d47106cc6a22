/-
  A part of the proof: what the functions of the program compute.
-/
import Derived.Test.YtoopeecnlhgfbaaZNum
set_option linter.all false
set_option maxRecDepth 100000
namespace Go.Ev
def claplaw3_list_h0 : Shape := { slots := [(2, .ptr 0 0), (3, .ptr 1 0), (7, .d (.one (.sl 3))), (8, .d lI), (9, .d lI)], objs := [.var lA1, oS0, .sarr 46 lA0] }
def claplaw3_list_o0 : List (Exit' × Shape) := [(.exit 0, { slots := [(2, .ptr 0 0), (3, .ptr 1 0)], objs := [.var lA1, oS0, .sarr 46 lA0] })]
def claplaw3_list_c0 : ACode := (.seq (.region [] [oq 10 (.icmp .lss (.t 9) (.t 8))] false 0)
 (.seq (.cond (.t 10) .skip
 (.exit 0))
 (.seq (.block 1 (.seq (.region [] [oq 11 (.iad 3 lI (.t 7) (.t 9)),
 oq 12 (.ld lI 3 (.t 11)),
 oq 5 (.mov (.t 12))] false 0)
 (.region [] [oq 13 (.fad 3 1 24 22 (.t 3)),
 ⟨some 14, .ldC (.t 13), none, [0]⟩,
 oq 15 (.mov (.t 5)),
 ⟨some 16, .call 18 [lI] [lA1] [(.t 15)], none, [2]⟩,
 ⟨some 17, .bld lA0 [.str [], .int 0, .int 0, .str [], .nils] [(1, 4, (.t 16))], none, [2, 3]⟩,
 ⟨some 18, .bsl 46 lA0 1 [.str [], .int 0, .int 0, .str [], .nils] [(0, (.t 17))], none, [2, 3, 4]⟩,
 ⟨some 19, .appW 0 46 lA0 72 (.t 14) (.t 18), none, [0, 1, 2, 3, 4, 5]⟩,
 ⟨some 20, .fad 3 1 24 22 (.t 3), none, [0, 1, 2, 3, 4, 5, 6]⟩,
 ⟨none, .stC (.t 20) (.t 19), none, [0, 1, 2, 3, 4, 5, 6, 7]⟩] true 1)))
 (.region [] [oq 21 (.ibin .add (.t 9) (.c lI [.int 1])),
 oq 9 (.mov (.t 21))] false 0))))
noncomputable def claplaw3_list_l0 (E : Env) (v0 : C) (v1 : Int) (v2 : Int) (v3 : Row) (v4 : Int) (v5 : Int) (v6 : List UInt8) (v7 : C) : Option (Nat × List PV) := E.fix (stepOf E claplaw3_list_c0 claplaw3_list_h0 claplaw3_list_o0) [.r [v0], .r [.int v1], .r [.int v2], .r v3, .r [.int v4], .r [.int v5], .r [.str v6], .r [v7]]
noncomputable def claplaw3_list_b0 (E : Env) (X : C → Int → Int → Row → Int → Int → List UInt8 → C → Option (Nat × List PV)) (v0 : C) (v1 : Int) (v2 : Int) (v3 : Row) (v4 : Int) (v5 : Int) (v6 : List UInt8) (v7 : C) : Option (Nat × List PV) :=
 if (decide (v2 < v1)) = true then
 if (0 : Int) ≤ v2 ∧ v2 < (v0.rows.length : Int) then
 (E.pc n_claplaw3_num [[.int ((at_ (rowsAt v0.rows v2.toNat) 0).toI)]]).bind fun y1 =>
 if (v7.rows.length + ([[.str [], at_ (rowsAt y1 0) 0, at_ (rowsAt y1 0) 1, at_ (rowsAt y1 0) 2, at_ (rowsAt y1 0) 3]] : List Row).length) * 72 ≤ 140737488355328 then
 X v0 v1 (Go.IntKind.i64.wrap (v2 + 1)) v3 v4 v5 v6 (appC v7 ([[.str [], at_ (rowsAt y1 0) 0, at_ (rowsAt y1 0) 1, at_ (rowsAt y1 0) 2, at_ (rowsAt y1 0) 3]] : List Row))
 else none
 else none
 else
 some (0, [.r v3, .r [.int v4], .r [.int v5], .r [.str v6], .r [v7]])
def claplaw3_list_a : AFun := { ps := [(.one (.sl 3))], rs := [lA1], res := [(true, 2, none)], body := (.seq (.region [] [oq 2 (.allocO 0 lA1 [.int 0, .int 0, .str [], .nils])] false 1)
 (.seq (.post (.lft 3 (some 3) 46 lA0) (.region [] [oq 6 (.bldA [some ((.int .i64), .int 0), some ((.int .i64), .int 0), some ((.str), .str []), some ((.sl 46), .nils)] [(0, 1, (.c lI [.int 8]))]),
 oq 3 (.allocA 0 [some ((.int .i64), .int 0), some ((.int .i64), .int 0), some ((.str), .str []), some ((.sl 46), .nils)]),
 ⟨none, .stA 4 (.t 3) (.t 6), none, []⟩] false 1))
 (.seq (.seq (.region [] [oq 7 (.mov (.t 0)),
 oq 8 (.lenL (.t 7)),
 oq 9 (.mov (.c lI [.int 0]))] false 0)
 (.block 0 (.loop claplaw3_list_h0 claplaw3_list_o0 claplaw3_list_c0)))
 (.seq (.region [] [oq 22 (.ldA 4 (.t 3)),
 ⟨none, .st lA1 (.t 2) (.t 22), none, []⟩] false 0)
 .ret)))) }
noncomputable def claplaw3_list (E : Env) (p0 : C) : Option (List Row) :=
 (claplaw3_list_l0 E p0 (p0.rows.length : Int) 0 [.int 0, .int 0, .str [], .nils] 8 0 [] .nils).bind fun x2 =>
 some [[.int (gI 1 x2.2), .int (gI 2 x2.2), .str (gS 3 x2.2), gC 4 x2.2]]
def claplaw3_aligned_a : AFun := { ps := [], rs := [lB], res := [(false, 0, none)], body := (.seq (.region [] [oq 0 (.mov (.c lB [.bool false]))] false 0)
 (.seq (.region [] [oq 5 (.bsl 3 lI 2 [.int 0] [(0, (.c lI [.int 1])), (1, (.c lI [.int 2]))]),
 oq 6 (.call 11 [(.one (.sl 3))] [lA1] [(.t 5)]),
 oq 7 (.bsl 3 lI 1 [.int 0] [(0, (.c lI [.int 2]))]),
 oq 8 (.call 11 [(.one (.sl 3))] [lA1] [(.t 7)]),
 oq 9 (.call 5 [lA1, lA1] [(.one (.sl 40)), lI, lI] [(.t 6), (.t 8)]),
 oq 4 (.mov (.t 9)),
 oq 10 (.ext 0 (.t 4)),
 oq 11 (.ext 1 (.t 4)),
 oq 12 (.ext 2 (.t 4)),
 oq 1 (.mov (.t 10)),
 oq 2 (.mov (.t 11)),
 oq 3 (.mov (.t 12))] false 0)
 (.seq (.region [] [oq 13 (.mov (.t 3)),
 oq 14 (.icmp .eql (.t 13) (.c lI [.int 0])),
 oq 15 (.mov (.t 14)),
 ⟨some 16, .mov (.t 2), some (15, true), []⟩,
 ⟨some 17, .icmp .eql (.t 16) (.c lI [.int 2]), some (15, true), []⟩,
 oq 18 (.pick (.t 15) (.t 17) (.c lB [.bool false])),
 oq 19 (.mov (.t 18)),
 ⟨some 20, .mov (.t 1), some (19, true), []⟩,
 ⟨some 21, .lenL (.t 20), some (19, true), []⟩,
 ⟨some 22, .icmp .eql (.t 21) (.c lI [.int 1]), some (19, true), []⟩,
 oq 23 (.pick (.t 19) (.t 22) (.c lB [.bool false])),
 oq 24 (.mov (.t 23)),
 ⟨some 25, .mov (.t 1), some (24, true), []⟩,
 ⟨some 26, .iad 40 lA2 (.t 25) (.c lI [.int 0]), some (24, true), []⟩,
 ⟨some 27, .ld lA2 40 (.t 26), some (24, true), []⟩,
 ⟨some 28, .bld lA2 [.int 0, .int 0] [(0, 1, (.c lI [.int 1])), (1, 1, (.c lI [.int 0]))], some (24, true), []⟩,
 ⟨some 29, .aeq false lA2 (.t 27) (.t 28), some (24, true), []⟩,
 oq 30 (.pick (.t 24) (.t 29) (.c lB [.bool false])),
 oq 0 (.mov (.t 30))] false 0)
 .ret))) }
noncomputable def claplaw3_aligned (E : Env) : Option (List Row) :=
 (E.pc n_claplaw3_list [[.sl ([[.int 1], [.int 2]] : List Row)]]).bind fun y1 =>
 (E.pc n_claplaw3_list [[.sl ([[.int 2]] : List Row)]]).bind fun y2 =>
 (E.pc n_align_ByEdits [rowsAt y1 0, rowsAt y2 0]).bind fun y3 =>
 let K4 : Bool → Option (List Row) := fun q5 =>
 let K6 : Bool → Option (List Row) := fun q7 =>
 let K8 : Bool → Option (List Row) := fun q9 =>
 some [[.bool q9]]
 if q7 = true then
 if (0 : Int) ≤ 0 ∧ 0 < (((at_ (rowsAt y3 0) 0).rows).length : Int) then
 K8 (ceq [.int .i64, .int .i64] (rowsAt ((at_ (rowsAt y3 0) 0).rows) 0) [.int 1, .int 0])
 else none
 else
 K8 false
 if q5 = true then
 K6 ((((at_ (rowsAt y3 0) 0).rows).length : Int) == 1)
 else
 K6 false
 if (((at_ (rowsAt y3 2) 0).toI) == 0) = true then
 K4 (((at_ (rowsAt y3 1) 0).toI) == 2)
 else
 K4 false
def clapref3_same_h0 : Shape := { slots := [(3, .d (.one (.ref 24))), (36, .d (.one (.sl 46))), (37, .d lI), (38, .d lI)], objs := [] }
def clapref3_same_o0 : List (Exit' × Shape) := [(.exit 0, { slots := [], objs := [] }), (.ret, { slots := [(4, .d lB)], objs := [] })]
def clapref3_same_c0 : ACode := (.seq (.region [] [oq 39 (.icmp .lss (.t 38) (.t 37))] false 0)
 (.seq (.cond (.t 39) .skip
 (.exit 0))
 (.seq (.block 1 (.seq (.region [] [oq 40 (.mov (.t 38)),
 oq 41 (.iad 46 lA0 (.t 36) (.t 38)),
 oq 42 (.ld lA0 46 (.t 41)),
 oq 6 (.allocO 0 lA0 [.str [], .int 0, .int 0, .str [], .nils]),
 oq 5 (.mov (.t 40)),
 ⟨none, .st lA0 (.t 6) (.t 42), none, []⟩] false 1)
 (.seq (.region [] [oq 43 (.fad 0 1 46 9 (.t 6)),
 ⟨some 44, .ld lS 9 (.t 43), none, [0]⟩,
 oq 45 (.fad 3 1 24 22 (.t 3)),
 ⟨some 46, .ld (.one (.sl 46)) 22 (.t 45), none, [2]⟩,
 oq 47 (.mov (.t 5)),
 ⟨some 48, .iad 46 lA0 (.t 46) (.t 47), none, [2, 3, 4]⟩,
 ⟨some 49, .fad 0 1 46 9 (.t 48), none, [2, 3, 4, 5]⟩,
 ⟨some 50, .ld lS 9 (.t 49), none, [2, 3, 4, 5, 6]⟩,
 ⟨some 51, .scmp .neq (.t 44) (.t 50), none, [0, 1, 2, 3, 4, 5, 6, 7]⟩,
 ⟨some 52, .mov (.t 51), none, [0, 1, 2, 3, 4, 5, 6, 7, 8]⟩,
 ⟨some 53, .fad 1 4 46 24 (.t 6), some (52, false), [0, 1, 2, 3, 4, 5, 6, 7, 8, 9]⟩,
 ⟨some 54, .ld lA1 24 (.t 53), some (52, false), [0, 1, 2, 3, 4, 5, 6, 7, 8, 9, 10]⟩,
 ⟨some 55, .fad 3 1 24 22 (.t 3), some (52, false), [0, 1, 2, 3, 4, 5, 6, 7, 8, 9]⟩,
 ⟨some 56, .ld (.one (.sl 46)) 22 (.t 55), some (52, false), [0, 1, 2, 3, 4, 5, 6, 7, 8, 9, 12]⟩,
 ⟨some 57, .mov (.t 5), some (52, false), [0, 1, 2, 3, 4, 5, 6, 7, 8, 9]⟩,
 ⟨some 58, .iad 46 lA0 (.t 56) (.t 57), some (52, false), [0, 1, 2, 3, 4, 5, 6, 7, 8, 9, 12, 13, 14]⟩,
 ⟨some 59, .fad 1 4 46 24 (.t 58), some (52, false), [0, 1, 2, 3, 4, 5, 6, 7, 8, 9, 12, 13, 14, 15]⟩,
 ⟨some 60, .ld lA1 24 (.t 59), some (52, false), [0, 1, 2, 3, 4, 5, 6, 7, 8, 9, 12, 13, 14, 15, 16]⟩,
 ⟨some 61, .call 17 [lA1, lA1] [lB] [(.t 54), (.t 60)], some (52, false), [0, 1, 2, 3, 4, 5, 6, 7, 8, 9, 10, 11, 12, 13, 14, 15, 16, 17]⟩,
 ⟨some 62, .not (.t 61), some (52, false), [0, 1, 2, 3, 4, 5, 6, 7, 8, 9, 10, 11, 12, 13, 14, 15, 16, 17, 18]⟩,
 ⟨some 63, .pick (.t 52) (.c lB [.bool true]) (.t 62), none, [0, 1, 2, 3, 4, 5, 6, 7, 8, 9, 10, 11, 12, 13, 14, 15, 16, 17, 18, 19]⟩] true 0)
 (.cond (.t 63) (.seq (.region [] [oq 4 (.mov (.c lB [.bool false]))] false 0)
 .ret)
 .skip))))
 (.region [] [oq 64 (.ibin .add (.t 38) (.c lI [.int 1])),
 oq 38 (.mov (.t 64))] false 0))))
noncomputable def clapref3_same_l0 (E : Env) (v0 : C) (v1 : C) (v2 : Int) (v3 : Int) : Option (Nat × List PV) := E.fix (stepOf E clapref3_same_c0 clapref3_same_h0 clapref3_same_o0) [.r [v0], .r [v1], .r [.int v2], .r [.int v3]]
noncomputable def clapref3_same_b0 (E : Env) (X : C → C → Int → Int → Option (Nat × List PV)) (v0 : C) (v1 : C) (v2 : Int) (v3 : Int) : Option (Nat × List PV) :=
 if (decide (v3 < v2)) = true then
 if (0 : Int) ≤ v3 ∧ v3 < (v1.rows.length : Int) then
 if v0.isDp = true then
 if (0 : Int) ≤ v3 ∧ v3 < (((at_ v0.dpRow 3).rows).length : Int) then
 let K8 : Bool → Option (Nat × List PV) := fun q9 =>
 if q9 = true then
 some (1, [.r [.bool false]])
 else
 X v0 v1 v2 (Go.IntKind.i64.wrap (v3 + 1))
 if (!(((at_ (rowsAt v1.rows v3.toNat) 0).toS) == ((at_ (rowsAt ((at_ v0.dpRow 3).rows) v3.toNat) 0).toS))) = true then
 K8 true
 else
 if v0.isDp = true then
 if (0 : Int) ≤ v3 ∧ v3 < (((at_ v0.dpRow 3).rows).length : Int) then
 (E.pc n_clapref3_same [[at_ (rowsAt v1.rows v3.toNat) 1, at_ (rowsAt v1.rows v3.toNat) 2, at_ (rowsAt v1.rows v3.toNat) 3, at_ (rowsAt v1.rows v3.toNat) 4], [at_ (rowsAt ((at_ v0.dpRow 3).rows) v3.toNat) 1, at_ (rowsAt ((at_ v0.dpRow 3).rows) v3.toNat) 2, at_ (rowsAt ((at_ v0.dpRow 3).rows) v3.toNat) 3, at_ (rowsAt ((at_ v0.dpRow 3).rows) v3.toNat) 4]]).bind fun y10 =>
 K8 (!((at_ (rowsAt y10 0) 0).toB))
 else none
 else none
 else none
 else none
 else none
 else
 some (0, [])
theorem clapref3_same_s0 (E : Env) (X : List PV → Option (Nat × List PV)) (v0 : C) (v1 : C) (v2 : Int) (v3 : Int) : stepOf E clapref3_same_c0 clapref3_same_h0 clapref3_same_o0 X [.r [v0], .r [v1], .r [.int v2], .r [.int v3]] = clapref3_same_b0 E (fun (v0 : C) (v1 : C) (v2 : Int) (v3 : Int) => X [.r [v0], .r [v1], .r [.int v2], .r [.int v3]]) v0 v1 v2 v3 := by kernel_rfl
def clapref3_same_a : AFun := { ps := [lA1, lA1], rs := [lB], res := [(false, 4, none)], body := (.seq (.region [] [oq 2 (.boxP lA1 24 (.t 0)),
 oq 3 (.boxP lA1 24 (.t 1)),
 oq 4 (.mov (.c lB [.bool false]))] false 0)
 (.seq (.seq (.join [(.normal, { slots := [(2, .d (.one (.ref 24))), (3, .d (.one (.ref 24))), (34, .d lB)], objs := [] })] (.region [] [oq 7 (.fad 0 1 24 3 (.t 2)),
 oq 8 (.ld lI 3 (.t 7)),
 oq 9 (.fad 0 1 24 3 (.t 3)),
 oq 10 (.ld lI 3 (.t 9)),
 oq 11 (.icmp .neq (.t 8) (.t 10)),
 oq 12 (.mov (.t 11)),
 ⟨some 13, .fad 1 1 24 3 (.t 2), some (12, false), []⟩,
 ⟨some 14, .ld lI 3 (.t 13), some (12, false), []⟩,
 ⟨some 15, .fad 1 1 24 3 (.t 3), some (12, false), []⟩,
 ⟨some 16, .ld lI 3 (.t 15), some (12, false), []⟩,
 ⟨some 17, .icmp .neq (.t 14) (.t 16), some (12, false), []⟩,
 oq 18 (.pick (.t 12) (.c lB [.bool true]) (.t 17)),
 oq 19 (.mov (.t 18)),
 ⟨some 20, .fad 2 1 24 9 (.t 2), some (19, false), []⟩,
 ⟨some 21, .ld lS 9 (.t 20), some (19, false), []⟩,
 ⟨some 22, .fad 2 1 24 9 (.t 3), some (19, false), []⟩,
 ⟨some 23, .ld lS 9 (.t 22), some (19, false), []⟩,
 ⟨some 24, .scmp .neq (.t 21) (.t 23), some (19, false), []⟩,
 oq 25 (.pick (.t 19) (.c lB [.bool true]) (.t 24)),
 oq 26 (.mov (.t 25)),
 ⟨some 27, .fad 3 1 24 22 (.t 2), some (26, false), []⟩,
 ⟨some 28, .ld (.one (.sl 46)) 22 (.t 27), some (26, false), []⟩,
 ⟨some 29, .lenL (.t 28), some (26, false), []⟩,
 ⟨some 30, .fad 3 1 24 22 (.t 3), some (26, false), []⟩,
 ⟨some 31, .ld (.one (.sl 46)) 22 (.t 30), some (26, false), []⟩,
 ⟨some 32, .lenL (.t 31), some (26, false), []⟩,
 ⟨some 33, .icmp .neq (.t 29) (.t 32), some (26, false), []⟩,
 oq 34 (.pick (.t 26) (.c lB [.bool true]) (.t 33))] false 0))
 (.cond (.t 34) (.seq (.region [] [oq 4 (.mov (.c lB [.bool false]))] false 0)
 .ret)
 .skip))
 (.seq (.seq (.region [] [oq 35 (.fad 3 1 24 22 (.t 2)),
 oq 36 (.ld (.one (.sl 46)) 22 (.t 35)),
 oq 37 (.lenL (.t 36)),
 oq 38 (.mov (.c lI [.int 0]))] false 0)
 (.block 0 (.loop clapref3_same_h0 clapref3_same_o0 clapref3_same_c0)))
 (.seq (.region [] [oq 4 (.mov (.c lB [.bool true]))] false 0)
 .ret)))) }
noncomputable def clapref3_same (E : Env) (p0 : Row) (p1 : Row) : Option (List Row) :=
 (let K1 : Bool → Option (Nat × List PV) := fun q2 =>
 let K3 : Bool → Option (Nat × List PV) := fun q4 =>
 let K5 : Bool → Option (Nat × List PV) := fun q6 =>
 some (0, [.r [.dp p0], .r [.dp p1], .r [.bool q6]])
 if q4 = true then
 K5 true
 else
 K5 ((((at_ p0 3).rows).length : Int) != (((at_ p1 3).rows).length : Int))
 if q2 = true then
 K3 true
 else
 K3 (!(((at_ p0 2).toS) == ((at_ p1 2).toS)))
 if (((at_ p0 0).toI) != ((at_ p1 0).toI)) = true then
 K1 true
 else
 K1 (((at_ p0 1).toI) != ((at_ p1 1).toI))).bind fun x7 =>
 if (gB 2 x7.2) = true then
 some [[.bool false]]
 else
 if (gC 0 x7.2).isDp = true then
 (clapref3_same_l0 E (gC 1 x7.2) (at_ ((gC 0 x7.2).dpRow) 3) (((at_ ((gC 0 x7.2).dpRow) 3).rows).length : Int) 0).bind fun x11 =>
 match x11.1 with
 | 0 =>
 some [[.bool true]]
 | i12 + 1 =>
 some [[.bool (gB 0 x11.2)]]
 else none
theorem clapref3_same_eq (E : Env) (p0 : Row) (p1 : Row) : runP E clapref3_same_a [p0, p1] = clapref3_same E p0 p1 := by kernel_rfl

def clapref3_Cost_h0 : Shape := { slots := [(3, .d (.one (.ref 24))), (5, .d lI), (30, .d (.one (.sl 46))), (31, .d lI), (32, .d lI)], objs := [] }
def clapref3_Cost_o0 : List (Exit' × Shape) := [(.exit 0, { slots := [(5, .d lI)], objs := [] }), (.ret, { slots := [(4, .d lI)], objs := [] })]
def clapref3_Cost_c0 : ACode := (.seq (.region [] [oq 33 (.icmp .lss (.t 32) (.t 31))] false 0)
 (.seq (.cond (.t 33) .skip
 (.exit 0))
 (.seq (.block 1 (.seq (.region [] [oq 34 (.mov (.t 32)),
 oq 35 (.iad 46 lA0 (.t 30) (.t 32)),
 oq 36 (.ld lA0 46 (.t 35)),
 oq 7 (.allocO 0 lA0 [.str [], .int 0, .int 0, .str [], .nils]),
 oq 6 (.mov (.t 34)),
 ⟨none, .st lA0 (.t 7) (.t 36), none, []⟩] false 1)
 (.seq (.region [] [oq 37 (.fad 3 1 24 22 (.t 3)),
 oq 38 (.ld (.one (.sl 46)) 22 (.t 37)),
 oq 39 (.mov (.t 6)),
 oq 40 (.iad 46 lA0 (.t 38) (.t 39)),
 oq 41 (.ld lA0 46 (.t 40)),
 oq 8 (.allocO 0 lA0 [.str [], .int 0, .int 0, .str [], .nils]),
 ⟨none, .st lA0 (.t 8) (.t 41), none, []⟩] false 1)
 (.seq (.seq (.region [] [oq 42 (.fad 0 1 46 9 (.t 7)),
 oq 43 (.ld lS 9 (.t 42)),
 oq 44 (.fad 0 1 46 9 (.t 8)),
 oq 45 (.ld lS 9 (.t 44)),
 oq 46 (.scmp .neq (.t 43) (.t 45))] false 0)
 (.cond (.t 46) (.seq (.region [] [oq 4 (.mov (.c lI [.int 3]))] false 0)
 .ret)
 .skip))
 (.seq (.region [] [oq 47 (.fad 1 4 46 24 (.t 7)),
 oq 48 (.ld lA1 24 (.t 47)),
 oq 49 (.fad 1 4 46 24 (.t 8)),
 oq 50 (.ld lA1 24 (.t 49)),
 oq 51 (.call 17 [lA1, lA1] [lB] [(.t 48), (.t 50)]),
 oq 52 (.not (.t 51))] false 0)
 (.cond (.t 52) (.region [] [oq 53 (.mov (.t 5)),
 oq 54 (.ibin .add (.t 53) (.c lI [.int 1])),
 oq 5 (.mov (.t 54))] false 0)
 .skip))))))
 (.region [] [oq 55 (.ibin .add (.t 32) (.c lI [.int 1])),
 oq 32 (.mov (.t 55))] false 0))))
noncomputable def clapref3_Cost_l0 (E : Env) (v0 : C) (v1 : Int) (v2 : C) (v3 : Int) (v4 : Int) : Option (Nat × List PV) := E.fix (stepOf E clapref3_Cost_c0 clapref3_Cost_h0 clapref3_Cost_o0) [.r [v0], .r [.int v1], .r [v2], .r [.int v3], .r [.int v4]]
noncomputable def clapref3_Cost_b0 (E : Env) (X : C → Int → C → Int → Int → Option (Nat × List PV)) (v0 : C) (v1 : Int) (v2 : C) (v3 : Int) (v4 : Int) : Option (Nat × List PV) :=
 if (decide (v4 < v3)) = true then
 if (0 : Int) ≤ v4 ∧ v4 < (v2.rows.length : Int) then
 if v0.isDp = true then
 if (0 : Int) ≤ v4 ∧ v4 < (((at_ v0.dpRow 3).rows).length : Int) then
 if (!(((at_ (rowsAt v2.rows v4.toNat) 0).toS) == ((at_ (rowsAt ((at_ v0.dpRow 3).rows) v4.toNat) 0).toS))) = true then
 some (1, [.r [.int 3]])
 else
 (E.pc n_clapref3_same [[at_ (rowsAt v2.rows v4.toNat) 1, at_ (rowsAt v2.rows v4.toNat) 2, at_ (rowsAt v2.rows v4.toNat) 3, at_ (rowsAt v2.rows v4.toNat) 4], [at_ (rowsAt ((at_ v0.dpRow 3).rows) v4.toNat) 1, at_ (rowsAt ((at_ v0.dpRow 3).rows) v4.toNat) 2, at_ (rowsAt ((at_ v0.dpRow 3).rows) v4.toNat) 3, at_ (rowsAt ((at_ v0.dpRow 3).rows) v4.toNat) 4]]).bind fun y7 =>
 if (!((at_ (rowsAt y7 0) 0).toB)) = true then
 X v0 (Go.IntKind.i64.wrap (v1 + 1)) v2 v3 (Go.IntKind.i64.wrap (v4 + 1))
 else
 X v0 v1 v2 v3 (Go.IntKind.i64.wrap (v4 + 1))
 else none
 else none
 else none
 else
 some (0, [.r [.int v1]])
theorem clapref3_Cost_s0 (E : Env) (X : List PV → Option (Nat × List PV)) (v0 : C) (v1 : Int) (v2 : C) (v3 : Int) (v4 : Int) : stepOf E clapref3_Cost_c0 clapref3_Cost_h0 clapref3_Cost_o0 X [.r [v0], .r [.int v1], .r [v2], .r [.int v3], .r [.int v4]] = clapref3_Cost_b0 E (fun (v0 : C) (v1 : Int) (v2 : C) (v3 : Int) (v4 : Int) => X [.r [v0], .r [.int v1], .r [v2], .r [.int v3], .r [.int v4]]) v0 v1 v2 v3 v4 := by kernel_rfl
def clapref3_Cost_a : AFun := { ps := [lA1, lA1], rs := [lI], res := [(false, 4, none)], body := (.seq (.region [] [oq 2 (.boxP lA1 24 (.t 0)),
 oq 3 (.boxP lA1 24 (.t 1)),
 oq 4 (.mov (.c lI [.int 0]))] false 0)
 (.seq (.seq (.region [] [oq 9 (.ld lA1 24 (.t 2)),
 oq 10 (.ld lA1 24 (.t 3)),
 oq 11 (.call 17 [lA1, lA1] [lB] [(.t 9), (.t 10)])] false 0)
 (.cond (.t 11) (.seq (.region [] [oq 4 (.mov (.c lI [.int 0]))] false 0)
 .ret)
 .skip))
 (.seq (.seq (.join [(.normal, { slots := [(2, .d (.one (.ref 24))), (3, .d (.one (.ref 24))), (28, .d lB)], objs := [] })] (.region [] [oq 12 (.fad 0 1 24 3 (.t 2)),
 oq 13 (.ld lI 3 (.t 12)),
 oq 14 (.icmp .neq (.t 13) (.c lI [.int 6])),
 oq 15 (.mov (.t 14)),
 ⟨some 16, .fad 0 1 24 3 (.t 3), some (15, false), []⟩,
 ⟨some 17, .ld lI 3 (.t 16), some (15, false), []⟩,
 ⟨some 18, .icmp .neq (.t 17) (.c lI [.int 6]), some (15, false), []⟩,
 oq 19 (.pick (.t 15) (.c lB [.bool true]) (.t 18)),
 oq 20 (.mov (.t 19)),
 ⟨some 21, .fad 3 1 24 22 (.t 2), some (20, false), []⟩,
 ⟨some 22, .ld (.one (.sl 46)) 22 (.t 21), some (20, false), []⟩,
 ⟨some 23, .lenL (.t 22), some (20, false), []⟩,
 ⟨some 24, .fad 3 1 24 22 (.t 3), some (20, false), []⟩,
 ⟨some 25, .ld (.one (.sl 46)) 22 (.t 24), some (20, false), []⟩,
 ⟨some 26, .lenL (.t 25), some (20, false), []⟩,
 ⟨some 27, .icmp .neq (.t 23) (.t 26), some (20, false), []⟩,
 oq 28 (.pick (.t 20) (.c lB [.bool true]) (.t 27))] false 0))
 (.cond (.t 28) (.seq (.region [] [oq 4 (.mov (.c lI [.int 3]))] false 0)
 .ret)
 .skip))
 (.seq (.region [] [oq 5 (.mov (.c lI [.int 0]))] false 0)
 (.seq (.seq (.region [] [oq 29 (.fad 3 1 24 22 (.t 2)),
 oq 30 (.ld (.one (.sl 46)) 22 (.t 29)),
 oq 31 (.lenL (.t 30)),
 oq 32 (.mov (.c lI [.int 0]))] false 0)
 (.block 0 (.loop clapref3_Cost_h0 clapref3_Cost_o0 clapref3_Cost_c0)))
 (.seq (.seq (.region [] [oq 56 (.mov (.t 5)),
 oq 57 (.icmp .gtr (.t 56) (.c lI [.int 3]))] false 0)
 (.cond (.t 57) (.seq (.region [] [oq 4 (.mov (.c lI [.int 3]))] false 0)
 .ret)
 .skip))
 (.seq (.region [] [oq 58 (.mov (.t 5)),
 oq 4 (.mov (.t 58))] false 0)
 .ret))))))) }
noncomputable def clapref3_Cost (E : Env) (p0 : Row) (p1 : Row) : Option (List Row) :=
 (E.pc n_clapref3_same [p0, p1]).bind fun y1 =>
 if ((at_ (rowsAt y1 0) 0).toB) = true then
 some [[.int 0]]
 else
 (let K2 : Bool → Option (Nat × List PV) := fun q3 =>
 let K4 : Bool → Option (Nat × List PV) := fun q5 =>
 some (0, [.r [.dp p0], .r [.dp p1], .r [.bool q5]])
 if q3 = true then
 K4 true
 else
 K4 ((((at_ p0 3).rows).length : Int) != (((at_ p1 3).rows).length : Int))
 if (((at_ p0 0).toI) != 6) = true then
 K2 true
 else
 K2 (((at_ p1 0).toI) != 6)).bind fun x6 =>
 if (gB 2 x6.2) = true then
 some [[.int 3]]
 else
 if (gC 0 x6.2).isDp = true then
 (clapref3_Cost_l0 E (gC 1 x6.2) 0 (at_ ((gC 0 x6.2).dpRow) 3) (((at_ ((gC 0 x6.2).dpRow) 3).rows).length : Int) 0).bind fun x8 =>
 match x8.1 with
 | 0 =>
 if (decide ((gI 0 x8.2) > 3)) = true then
 some [[.int 3]]
 else
 some [[.int (gI 0 x8.2)]]
 | i9 + 1 =>
 some [[.int (gI 0 x8.2)]]
 else none
theorem clapref3_Cost_eq (E : Env) (p0 : Row) (p1 : Row) : runP E clapref3_Cost_a [p0, p1] = clapref3_Cost E p0 p1 := by kernel_rfl

def clapref3_Lists_h0 : Shape := { slots := [(10, .d (.one (.sl 24))), (11, .d lI), (12, .d lI)], objs := [] }
def clapref3_Lists_o0 : List (Exit' × Shape) := [(.exit 0, { slots := [], objs := [] }), (.ret, { slots := [(4, .d lI)], objs := [] })]
def clapref3_Lists_c0 : ACode := (.seq (.region [] [oq 13 (.icmp .lss (.t 12) (.t 11))] false 0)
 (.seq (.cond (.t 13) .skip
 (.exit 0))
 (.seq (.block 1 (.seq (.region [] [oq 14 (.iad 24 lA1 (.t 10) (.t 12)),
 oq 15 (.ld lA1 24 (.t 14)),
 oq 6 (.allocO 0 lA1 [.int 0, .int 0, .str [], .nils]),
 ⟨none, .st lA1 (.t 6) (.t 15), none, []⟩] false 1)
 (.seq (.seq (.region [] [oq 16 (.ld lA1 24 (.t 6)),
 oq 17 (.call 19 [lA1] [lI] [(.t 16)]),
 oq 7 (.mov (.t 17))] false 0)
 (.seq (.region [] [oq 18 (.mov (.t 7)),
 oq 19 (.icmp .neq (.t 18) (.c lI [.int 0]))] false 0)
 (.cond (.t 19) (.seq (.region [] [oq 20 (.mov (.t 7)),
 oq 4 (.mov (.t 20))] false 0)
 .ret)
 .skip)))
 (.seq (.region [] [oq 21 (.fad 0 1 24 3 (.t 6)),
 oq 22 (.ld lI 3 (.t 21)),
 oq 23 (.icmp .neq (.t 22) (.c lI [.int 8]))] false 0)
 (.cond (.t 23) (.seq (.region [] [oq 4 (.mov (.c lI [.int 8]))] false 0)
 .ret)
 .skip)))))
 (.region [] [oq 24 (.ibin .add (.t 12) (.c lI [.int 1])),
 oq 12 (.mov (.t 24))] false 0))))
noncomputable def clapref3_Lists_l0 (E : Env) (v0 : C) (v1 : Int) (v2 : Int) : Option (Nat × List PV) := E.fix (stepOf E clapref3_Lists_c0 clapref3_Lists_h0 clapref3_Lists_o0) [.r [v0], .r [.int v1], .r [.int v2]]
noncomputable def clapref3_Lists_b0 (E : Env) (X : C → Int → Int → Option (Nat × List PV)) (v0 : C) (v1 : Int) (v2 : Int) : Option (Nat × List PV) :=
 if (decide (v2 < v1)) = true then
 if (0 : Int) ≤ v2 ∧ v2 < (v0.rows.length : Int) then
 (E.pc n_value_Check [rowsAt v0.rows v2.toNat]).bind fun y1 =>
 if (((at_ (rowsAt y1 0) 0).toI) != 0) = true then
 some (1, [.r [.int ((at_ (rowsAt y1 0) 0).toI)]])
 else
 if (((at_ (rowsAt v0.rows v2.toNat) 0).toI) != 8) = true then
 some (1, [.r [.int 8]])
 else
 X v0 v1 (Go.IntKind.i64.wrap (v2 + 1))
 else none
 else
 some (0, [])
theorem clapref3_Lists_s0 (E : Env) (X : List PV → Option (Nat × List PV)) (v0 : C) (v1 : Int) (v2 : Int) : stepOf E clapref3_Lists_c0 clapref3_Lists_h0 clapref3_Lists_o0 X [.r [v0], .r [.int v1], .r [.int v2]] = clapref3_Lists_b0 E (fun (v0 : C) (v1 : Int) (v2 : Int) => X [.r [v0], .r [.int v1], .r [.int v2]]) v0 v1 v2 := by kernel_rfl
def clapref3_Lists_a : AFun := { ps := [lA1, lA1], rs := [lI], res := [(false, 4, none)], body := (.seq (.region [] [oq 2 (.boxP lA1 24 (.t 0)),
 oq 3 (.boxP lA1 24 (.t 1)),
 oq 4 (.mov (.c lI [.int 0]))] false 0)
 (.seq (.seq (.region [] [oq 8 (.ld lA1 24 (.t 2)),
 oq 9 (.ld lA1 24 (.t 3)),
 oq 10 (.bsl 24 lA1 2 [.int 0, .int 0, .str [], .nils] [(0, (.t 8)), (1, (.t 9))]),
 oq 11 (.lenL (.t 10)),
 oq 12 (.mov (.c lI [.int 0]))] false 0)
 (.block 0 (.loop clapref3_Lists_h0 clapref3_Lists_o0 clapref3_Lists_c0)))
 (.seq (.region [] [oq 4 (.mov (.c lI [.int 0]))] false 0)
 .ret))) }
noncomputable def clapref3_Lists (E : Env) (p0 : Row) (p1 : Row) : Option (List Row) :=
 (clapref3_Lists_l0 E (.sl ([p0, p1] : List Row)) (([p0, p1] : List Row).length : Int) 0).bind fun x2 =>
 match x2.1 with
 | 0 =>
 some [[.int 0]]
 | i3 + 1 =>
 some [[.int (gI 0 x2.2)]]
theorem clapref3_Lists_eq (E : Env) (p0 : Row) (p1 : Row) : runP E clapref3_Lists_a [p0, p1] = clapref3_Lists E p0 p1 := by kernel_rfl

def clapref3_ByEdits_1_i0_a : AImp := { fn := 15, entry := clapref3_ByEdits_1_i0_en, res := [.tmp 8], exit := clapref3_ByEdits_1_i0_ex, body := (.seq (.region [] [oq 8 (.mov (.c lI [.int 0]))] false 0)
 (.seq (.seq (.region [] [oq 13 (.ldC (.t 2)),
 oq 14 (.mov (.t 0)),
 oq 15 (.mov (.t 1)),
 oq 16 (.bld lA2 [.int 0, .int 0] [(0, 1, (.t 14)), (1, 1, (.t 15))]),
 oq 17 (.lk lA2 lI [.int 0] (.t 13) (.t 16) true),
 oq 12 (.mov (.t 17)),
 oq 18 (.ext 0 (.t 12)),
 oq 19 (.ext 1 (.t 12)),
 oq 9 (.mov (.t 18)),
 oq 10 (.mov (.t 19))] false 0)
 (.seq (.region [] [oq 20 (.mov (.t 10))] false 0)
 (.cond (.t 20) (.seq (.region [] [oq 21 (.mov (.t 9)),
 oq 8 (.mov (.t 21))] false 0)
 .ret)
 .skip)))
 (.seq (.region [] [oq 22 (.fad 3 1 24 22 (.t 3)),
 oq 23 (.ld (.one (.sl 46)) 22 (.t 22)),
 oq 24 (.lenL (.t 23)),
 oq 25 (.mov (.t 0)),
 oq 26 (.ibin .sub (.t 24) (.t 25)),
 oq 27 (.fad 3 1 24 22 (.t 4)),
 oq 28 (.ld (.one (.sl 46)) 22 (.t 27)),
 oq 29 (.lenL (.t 28)),
 oq 30 (.ibin .add (.t 26) (.t 29)),
 oq 31 (.mov (.t 1)),
 oq 32 (.ibin .sub (.t 30) (.t 31)),
 oq 33 (.ibin .mul (.c lI [.int 2]) (.t 32)),
 oq 11 (.mov (.t 33))] false 0)
 (.seq (.seq (.join [(.normal, { slots := [(0, .d lI), (1, .d lI), (2, .ptr 0 0), (3, .d (.one (.ref 24))), (4, .d (.one (.ref 24))), (5, .ptr 1 0), (11, .d lI), (45, .d lB)], objs := [.cells false [.map 2], .cells true [.fn 15 [.ptr 0 0, .d (.one (.ref 24)), .d (.one (.ref 24)), .ptr 1 0]], .map lA2 lI], m := 3 })] (.region [] [oq 34 (.mov (.t 0)),
 oq 35 (.fad 3 1 24 22 (.t 3)),
 oq 36 (.ld (.one (.sl 46)) 22 (.t 35)),
 oq 37 (.lenL (.t 36)),
 oq 38 (.icmp .lss (.t 34) (.t 37)),
 oq 39 (.mov (.t 38)),
 ⟨some 40, .mov (.t 1), some (39, true), []⟩,
 ⟨some 41, .fad 3 1 24 22 (.t 4), some (39, true), []⟩,
 ⟨some 42, .ld (.one (.sl 46)) 22 (.t 41), some (39, true), []⟩,
 ⟨some 43, .lenL (.t 42), some (39, true), []⟩,
 ⟨some 44, .icmp .lss (.t 40) (.t 43), some (39, true), []⟩,
 oq 45 (.pick (.t 39) (.t 44) (.c lB [.bool false]))] false 0))
 (.cond (.t 45) (.region [] [oq 46 (.fad 3 1 24 22 (.t 3)),
 ⟨some 47, .ld (.one (.sl 46)) 22 (.t 46), none, [0]⟩,
 oq 48 (.mov (.t 0)),
 ⟨some 49, .iad 46 lA0 (.t 47) (.t 48), none, [0, 1, 2]⟩,
 ⟨some 50, .fad 1 4 46 24 (.t 49), none, [0, 1, 2, 3]⟩,
 ⟨some 51, .ld lA1 24 (.t 50), none, [0, 1, 2, 3, 4]⟩,
 oq 52 (.fad 3 1 24 22 (.t 4)),
 ⟨some 53, .ld (.one (.sl 46)) 22 (.t 52), none, [6]⟩,
 oq 54 (.mov (.t 1)),
 ⟨some 55, .iad 46 lA0 (.t 53) (.t 54), none, [6, 7, 8]⟩,
 ⟨some 56, .fad 1 4 46 24 (.t 55), none, [6, 7, 8, 9]⟩,
 ⟨some 57, .ld lA1 24 (.t 56), none, [6, 7, 8, 9, 10]⟩,
 ⟨some 58, .call 8 [lA1, lA1] [lI] [(.t 51), (.t 57)], none, [0, 1, 2, 3, 4, 5, 6, 7, 8, 9, 10, 11]⟩,
 oq 59 (.ldC (.t 5)),
 oq 60 (.mov (.t 0)),
 ⟨some 61, .ibin .add (.t 60) (.c lI [.int 1]), none, [14]⟩,
 oq 62 (.mov (.t 1)),
 ⟨some 63, .ibin .add (.t 62) (.c lI [.int 1]), none, [16]⟩,
 ⟨some 64, .icall 59 15 (clapref3_ByEdits_1_i0_en) (clapref3_ByEdits_1_i0_ex) [0, 1, 2] 0 (some (.t 59)) [(.t 61), (.t 63)], none, [0, 1, 2, 3, 4, 5, 6, 7, 8, 9, 10, 11, 12, 13, 14, 15, 16, 17]⟩,
 ⟨some 65, .ibin .add (.t 58) (.t 64), none, [0, 1, 2, 3, 4, 5, 6, 7, 8, 9, 10, 11, 12, 13, 14, 15, 16, 17, 18]⟩,
 oq 66 (.ldC (.t 5)),
 oq 67 (.mov (.t 0)),
 ⟨some 68, .ibin .add (.t 67) (.c lI [.int 1]), none, [21]⟩,
 oq 69 (.mov (.t 1)),
 ⟨some 70, .icall 59 15 (clapref3_ByEdits_1_i0_en) (clapref3_ByEdits_1_i0_ex) [0, 1, 2] 0 (some (.t 66)) [(.t 68), (.t 69)], none, [0, 1, 2, 3, 4, 5, 6, 7, 8, 9, 10, 11, 12, 13, 14, 15, 16, 17, 18, 20, 21, 22, 23]⟩,
 ⟨some 71, .ibin .add (.c lI [.int 2]) (.t 70), none, [0, 1, 2, 3, 4, 5, 6, 7, 8, 9, 10, 11, 12, 13, 14, 15, 16, 17, 18, 20, 21, 22, 23, 24]⟩,
 oq 72 (.ldC (.t 5)),
 oq 73 (.mov (.t 0)),
 oq 74 (.mov (.t 1)),
 ⟨some 75, .ibin .add (.t 74) (.c lI [.int 1]), none, [28]⟩,
 ⟨some 76, .icall 59 15 (clapref3_ByEdits_1_i0_en) (clapref3_ByEdits_1_i0_ex) [0, 1, 2] 0 (some (.t 72)) [(.t 73), (.t 75)], none, [0, 1, 2, 3, 4, 5, 6, 7, 8, 9, 10, 11, 12, 13, 14, 15, 16, 17, 18, 20, 21, 22, 23, 24, 26, 27, 28, 29]⟩,
 ⟨some 77, .ibin .add (.c lI [.int 2]) (.t 76), none, [0, 1, 2, 3, 4, 5, 6, 7, 8, 9, 10, 11, 12, 13, 14, 15, 16, 17, 18, 20, 21, 22, 23, 24, 26, 27, 28, 29, 30]⟩,
 ⟨some 78, .imin false [(.t 65), (.t 71), (.t 77)], none, [0, 1, 2, 3, 4, 5, 6, 7, 8, 9, 10, 11, 12, 13, 14, 15, 16, 17, 18, 19, 20, 21, 22, 23, 24, 25, 26, 27, 28, 29, 30, 31]⟩,
 ⟨some 11, .mov (.t 78), none, [0, 1, 2, 3, 4, 5, 6, 7, 8, 9, 10, 11, 12, 13, 14, 15, 16, 17, 18, 19, 20, 21, 22, 23, 24, 25, 26, 27, 28, 29, 30, 31, 32]⟩] true 0)
 .skip))
 (.seq (.region [] [oq 79 (.ldC (.t 2)),
 oq 80 (.mov (.t 0)),
 oq 81 (.mov (.t 1)),
 oq 82 (.bld lA2 [.int 0, .int 0] [(0, 1, (.t 80)), (1, 1, (.t 81))]),
 oq 83 (.mov (.t 11)),
 ⟨none, .mup lA2 (.t 79) (.t 82) (.t 83), none, []⟩] false 0)
 (.seq (.region [] [oq 84 (.mov (.t 11)),
 oq 8 (.mov (.t 84))] false 0)
 .ret)))))) }
noncomputable def clapref3_ByEdits_1_i0 (E : Env) (p0 : Int) (p1 : Int) (p2 : C) (p3 : C) (p4 : C) (p5 : C) (p6 : List (Row × Row)) : Option (List PV) :=
 if ((findE lA2 [.int p0, .int p1] p6).isSome) = true then
 some [.r [.int ((at_ ((findE lA2 [.int p0, .int p1] p6).getD [.int 0]) 0).toI)], .r [p4], .r [p5], .m p6]
 else
 if p2.isDp = true then
 if p3.isDp = true then
 (if p2.isDp = true then
 let K1 : Bool → Option (Nat × List PV) := fun q2 =>
 some (0, [.r [.int p0], .r [.int p1], .r [p2], .r [p3], .r [.int (Go.IntKind.i64.wrap (2 * (Go.IntKind.i64.wrap ((Go.IntKind.i64.wrap ((Go.IntKind.i64.wrap ((((at_ p2.dpRow 3).rows).length : Int) - p0)) + (((at_ p3.dpRow 3).rows).length : Int))) - p1))))], .r [.bool q2], .r [p4], .r [p5], .m p6])
 if (decide (p0 < (((at_ p2.dpRow 3).rows).length : Int))) = true then
 if p3.isDp = true then
 K1 (decide (p1 < (((at_ p3.dpRow 3).rows).length : Int)))
 else none
 else
 K1 false
 else none).bind fun x3 =>
 if (gB 5 x3.2) = true then
 if (gC 2 x3.2).isDp = true then
 if (0 : Int) ≤ (gI 0 x3.2) ∧ (gI 0 x3.2) < (((at_ ((gC 2 x3.2).dpRow) 3).rows).length : Int) then
 if (gC 3 x3.2).isDp = true then
 if (0 : Int) ≤ (gI 1 x3.2) ∧ (gI 1 x3.2) < (((at_ ((gC 3 x3.2).dpRow) 3).rows).length : Int) then
 (E.pc n_clapref3_Cost [[at_ (rowsAt ((at_ ((gC 2 x3.2).dpRow) 3).rows) ((gI 0 x3.2).toNat)) 1, at_ (rowsAt ((at_ ((gC 2 x3.2).dpRow) 3).rows) ((gI 0 x3.2).toNat)) 2, at_ (rowsAt ((at_ ((gC 2 x3.2).dpRow) 3).rows) ((gI 0 x3.2).toNat)) 3, at_ (rowsAt ((at_ ((gC 2 x3.2).dpRow) 3).rows) ((gI 0 x3.2).toNat)) 4], [at_ (rowsAt ((at_ ((gC 3 x3.2).dpRow) 3).rows) ((gI 1 x3.2).toNat)) 1, at_ (rowsAt ((at_ ((gC 3 x3.2).dpRow) 3).rows) ((gI 1 x3.2).toNat)) 2, at_ (rowsAt ((at_ ((gC 3 x3.2).dpRow) 3).rows) ((gI 1 x3.2).toNat)) 3, at_ (rowsAt ((at_ ((gC 3 x3.2).dpRow) 3).rows) ((gI 1 x3.2).toNat)) 4]]).bind fun y4 =>
 (E.ic clapref3_ByEdits_1_i0_n [.r [.int (Go.IntKind.i64.wrap ((gI 0 x3.2) + 1))], .r [.int (Go.IntKind.i64.wrap ((gI 1 x3.2) + 1))], .r [gC 6 x3.2], .r [gC 7 x3.2], .r [gC 6 x3.2], .r [gC 7 x3.2], .m (gM 8 x3.2)]).bind fun y5 =>
 (E.ic clapref3_ByEdits_1_i0_n [.r [.int (Go.IntKind.i64.wrap ((gI 0 x3.2) + 1))], .r [.int (gI 1 x3.2)], .r [gC 6 x3.2], .r [gC 7 x3.2], .r [gC 6 x3.2], .r [gC 7 x3.2], .m (gM 3 y5)]).bind fun y6 =>
 (E.ic clapref3_ByEdits_1_i0_n [.r [.int (gI 0 x3.2)], .r [.int (Go.IntKind.i64.wrap ((gI 1 x3.2) + 1))], .r [gC 6 x3.2], .r [gC 7 x3.2], .r [gC 6 x3.2], .r [gC 7 x3.2], .m (gM 3 y6)]).bind fun y7 =>
 some [.r [.int (if (Go.IntKind.i64.wrap (2 + (gI 0 y7))) < (if (Go.IntKind.i64.wrap (2 + (gI 0 y6))) < (Go.IntKind.i64.wrap (((at_ (rowsAt y4 0) 0).toI) + (gI 0 y5))) then Go.IntKind.i64.wrap (2 + (gI 0 y6)) else Go.IntKind.i64.wrap (((at_ (rowsAt y4 0) 0).toI) + (gI 0 y5))) then Go.IntKind.i64.wrap (2 + (gI 0 y7)) else if (Go.IntKind.i64.wrap (2 + (gI 0 y6))) < (Go.IntKind.i64.wrap (((at_ (rowsAt y4 0) 0).toI) + (gI 0 y5))) then Go.IntKind.i64.wrap (2 + (gI 0 y6)) else Go.IntKind.i64.wrap (((at_ (rowsAt y4 0) 0).toI) + (gI 0 y5)))], .r [gC 6 x3.2], .r [gC 7 x3.2], .m (setE lA2 [.int (gI 0 x3.2), .int (gI 1 x3.2)] [.int (if (Go.IntKind.i64.wrap (2 + (gI 0 y7))) < (if (Go.IntKind.i64.wrap (2 + (gI 0 y6))) < (Go.IntKind.i64.wrap (((at_ (rowsAt y4 0) 0).toI) + (gI 0 y5))) then Go.IntKind.i64.wrap (2 + (gI 0 y6)) else Go.IntKind.i64.wrap (((at_ (rowsAt y4 0) 0).toI) + (gI 0 y5))) then Go.IntKind.i64.wrap (2 + (gI 0 y7)) else if (Go.IntKind.i64.wrap (2 + (gI 0 y6))) < (Go.IntKind.i64.wrap (((at_ (rowsAt y4 0) 0).toI) + (gI 0 y5))) then Go.IntKind.i64.wrap (2 + (gI 0 y6)) else Go.IntKind.i64.wrap (((at_ (rowsAt y4 0) 0).toI) + (gI 0 y5)))] (gM 3 y7))]
 else none
 else none
 else none
 else none
 else
 some [.r [.int (gI 4 x3.2)], .r [gC 6 x3.2], .r [gC 7 x3.2], .m (setE lA2 [.int (gI 0 x3.2), .int (gI 1 x3.2)] [.int (gI 4 x3.2)] (gM 8 x3.2))]
 else none
 else none
theorem clapref3_ByEdits_1_i0_eq (E : Env) (p0 : Int) (p1 : Int) (p2 : C) (p3 : C) (p4 : C) (p5 : C) (p6 : List (Row × Row)) : runI E clapref3_ByEdits_1_i0_a [.r [.int p0], .r [.int p1], .r [p2], .r [p3], .r [p4], .r [p5], .m p6] = clapref3_ByEdits_1_i0 E p0 p1 p2 p3 p4 p5 p6 := by kernel_rfl

def clapref3_ByEdits_h0 : Shape := { slots := [(2, .d (.one (.ref 24))), (3, .d (.one (.ref 24))), (9, .ptr 0 0), (10, .sw 1), (11, .d lI), (12, .d lI)], objs := [.cells true [.fn 15 [.ptr 2 0, .d (.one (.ref 24)), .d (.one (.ref 24)), .ptr 0 0]], .sarr 36 lA2, .cells false [.map 3], .map lA2 lI] }
def clapref3_ByEdits_o0 : List (Exit' × Shape) := [(.exit 0, { slots := [(9, .ptr 0 0), (10, .sw 1)], objs := [.cells true [.fn 15 [.ptr 2 0, .d (.one (.ref 24)), .d (.one (.ref 24)), .ptr 0 0]], .sarr 36 lA2, .cells false [.map 3], .map lA2 lI] })]
def clapref3_ByEdits_c0 : ACode := (.seq (.seq (.join [(.normal, { slots := [(2, .d (.one (.ref 24))), (3, .d (.one (.ref 24))), (9, .ptr 0 0), (10, .sw 1), (11, .d lI), (12, .d lI), (32, .d lB)], objs := [.cells true [.fn 15 [.ptr 2 0, .d (.one (.ref 24)), .d (.one (.ref 24)), .ptr 0 0]], .sarr 36 lA2, .cells false [.map 3], .map lA2 lI] })] (.region [] [oq 21 (.mov (.t 11)),
 oq 22 (.fad 3 1 24 22 (.t 2)),
 oq 23 (.ld (.one (.sl 46)) 22 (.t 22)),
 oq 24 (.lenL (.t 23)),
 oq 25 (.icmp .lss (.t 21) (.t 24)),
 oq 26 (.mov (.t 25)),
 ⟨some 27, .mov (.t 12), some (26, true), []⟩,
 ⟨some 28, .fad 3 1 24 22 (.t 3), some (26, true), []⟩,
 ⟨some 29, .ld (.one (.sl 46)) 22 (.t 28), some (26, true), []⟩,
 ⟨some 30, .lenL (.t 29), some (26, true), []⟩,
 ⟨some 31, .icmp .lss (.t 27) (.t 30), some (26, true), []⟩,
 oq 32 (.pick (.t 26) (.t 31) (.c lB [.bool false]))] false 0))
 (.cond (.t 32) .skip
 (.exit 0)))
 (.block 1 (.seq (.region [] [oq 33 (.ldC (.t 9)),
 oq 34 (.mov (.t 11)),
 oq 35 (.mov (.t 12)),
 oq 36 (.icall 59 15 (clapref3_ByEdits_1_i0_en) (clapref3_ByEdits_1_i0_ex) [2, 0, 3] 0 (some (.t 33)) [(.t 34), (.t 35)])] false 0)
 (.block 2 (.seq (.region [] [oq 40 (.fad 3 1 24 22 (.t 2)),
 ⟨some 41, .ld (.one (.sl 46)) 22 (.t 40), none, [0]⟩,
 oq 42 (.mov (.t 11)),
 ⟨some 43, .iad 46 lA0 (.t 41) (.t 42), none, [0, 1, 2]⟩,
 ⟨some 44, .fad 1 4 46 24 (.t 43), none, [0, 1, 2, 3]⟩,
 ⟨some 45, .ld lA1 24 (.t 44), none, [0, 1, 2, 3, 4]⟩,
 oq 46 (.fad 3 1 24 22 (.t 3)),
 ⟨some 47, .ld (.one (.sl 46)) 22 (.t 46), none, [6]⟩,
 oq 48 (.mov (.t 12)),
 ⟨some 49, .iad 46 lA0 (.t 47) (.t 48), none, [6, 7, 8]⟩,
 ⟨some 50, .fad 1 4 46 24 (.t 49), none, [6, 7, 8, 9]⟩,
 ⟨some 51, .ld lA1 24 (.t 50), none, [6, 7, 8, 9, 10]⟩,
 ⟨some 52, .call 8 [lA1, lA1] [lI] [(.t 45), (.t 51)], none, [0, 1, 2, 3, 4, 5, 6, 7, 8, 9, 10, 11]⟩,
 oq 53 (.ldC (.t 9)),
 oq 54 (.mov (.t 11)),
 ⟨some 55, .ibin .add (.t 54) (.c lI [.int 1]), none, [14]⟩,
 oq 56 (.mov (.t 12)),
 ⟨some 57, .ibin .add (.t 56) (.c lI [.int 1]), none, [16]⟩,
 ⟨some 58, .icall 59 15 (clapref3_ByEdits_1_i0_en) (clapref3_ByEdits_1_i0_ex) [2, 0, 3] 0 (some (.t 53)) [(.t 55), (.t 57)], none, [0, 1, 2, 3, 4, 5, 6, 7, 8, 9, 10, 11, 12, 13, 14, 15, 16, 17]⟩,
 ⟨some 59, .ibin .add (.t 52) (.t 58), none, [0, 1, 2, 3, 4, 5, 6, 7, 8, 9, 10, 11, 12, 13, 14, 15, 16, 17, 18]⟩,
 ⟨some 60, .icmp .eql (.t 36) (.t 59), none, [0, 1, 2, 3, 4, 5, 6, 7, 8, 9, 10, 11, 12, 13, 14, 15, 16, 17, 18, 19]⟩,
 ⟨some 39, .mov (.t 60), none, [0, 1, 2, 3, 4, 5, 6, 7, 8, 9, 10, 11, 12, 13, 14, 15, 16, 17, 18, 19, 20]⟩] true 0)
 (.cond (.t 39) (.seq (.region [] [oq 61 (.mov (.t 10)),
 oq 62 (.mov (.t 11)),
 oq 63 (.mov (.t 12)),
 oq 64 (.bld lA2 [.int 0, .int 0] [(0, 1, (.t 62)), (1, 1, (.t 63))]),
 oq 65 (.bsl 36 lA2 1 [.int 0, .int 0] [(0, (.t 64))]),
 oq 66 (.appW 0 36 lA2 16 (.t 61) (.t 65)),
 oq 10 (.mov (.t 66))] false 1)
 (.region [] [oq 67 (.mov (.t 11)),
 oq 68 (.ibin .add (.t 67) (.c lI [.int 1])),
 oq 69 (.mov (.t 12)),
 oq 70 (.ibin .add (.t 69) (.c lI [.int 1])),
 oq 11 (.mov (.t 68)),
 oq 12 (.mov (.t 70))] false 0))
 (.seq (.region [] [oq 72 (.ldC (.t 9)),
 oq 73 (.mov (.t 11)),
 oq 74 (.ibin .add (.t 73) (.c lI [.int 1])),
 oq 75 (.mov (.t 12)),
 oq 76 (.icall 59 15 (clapref3_ByEdits_1_i0_en) (clapref3_ByEdits_1_i0_ex) [2, 0, 3] 0 (some (.t 72)) [(.t 74), (.t 75)]),
 oq 77 (.ibin .add (.c lI [.int 2]) (.t 76)),
 oq 78 (.icmp .eql (.t 36) (.t 77)),
 oq 71 (.mov (.t 78))] false 0)
 (.cond (.t 71) (.region [] [oq 79 (.mov (.t 11)),
 oq 80 (.ibin .add (.t 79) (.c lI [.int 1])),
 oq 11 (.mov (.t 80))] false 0)
 (.region [] [oq 37 (.mov (.t 12)),
 oq 38 (.ibin .add (.t 37) (.c lI [.int 1])),
 oq 12 (.mov (.t 38))] false 0)))))))))
noncomputable def clapref3_ByEdits_l0 (E : Env) (v0 : C) (v1 : C) (v2 : Int) (v3 : Int) (v4 : C) (v5 : C) (v6 : C) (v7 : List (Row × Row)) : Option (Nat × List PV) := E.fix (stepOf E clapref3_ByEdits_c0 clapref3_ByEdits_h0 clapref3_ByEdits_o0) [.r [v0], .r [v1], .r [.int v2], .r [.int v3], .r [v4], .r [v5], .r [v6], .m v7]
noncomputable def clapref3_ByEdits_b0 (E : Env) (X : C → C → Int → Int → C → C → C → List (Row × Row) → Option (Nat × List PV)) (v0 : C) (v1 : C) (v2 : Int) (v3 : Int) (v4 : C) (v5 : C) (v6 : C) (v7 : List (Row × Row)) : Option (Nat × List PV) :=
 (if v0.isDp = true then
 let K2 : Bool → Option (Nat × List PV) := fun q3 =>
 some (0, [.r [v0], .r [v1], .r [.int v2], .r [.int v3], .r [.bool q3], .r [v4], .r [v5], .r [v6], .m v7])
 if (decide (v2 < (((at_ v0.dpRow 3).rows).length : Int))) = true then
 if v1.isDp = true then
 K2 (decide (v3 < (((at_ v1.dpRow 3).rows).length : Int)))
 else none
 else
 K2 false
 else none).bind fun x4 =>
 if (gB 4 x4.2) = true then
 (E.ic clapref3_ByEdits_1_i0_n [.r [.int (gI 2 x4.2)], .r [.int (gI 3 x4.2)], .r [gC 5 x4.2], .r [gC 6 x4.2], .r [gC 5 x4.2], .r [gC 6 x4.2], .m (gM 8 x4.2)]).bind fun y5 =>
 if (gC 0 x4.2).isDp = true then
 if (0 : Int) ≤ (gI 2 x4.2) ∧ (gI 2 x4.2) < (((at_ ((gC 0 x4.2).dpRow) 3).rows).length : Int) then
 if (gC 1 x4.2).isDp = true then
 if (0 : Int) ≤ (gI 3 x4.2) ∧ (gI 3 x4.2) < (((at_ ((gC 1 x4.2).dpRow) 3).rows).length : Int) then
 (E.pc n_clapref3_Cost [[at_ (rowsAt ((at_ ((gC 0 x4.2).dpRow) 3).rows) ((gI 2 x4.2).toNat)) 1, at_ (rowsAt ((at_ ((gC 0 x4.2).dpRow) 3).rows) ((gI 2 x4.2).toNat)) 2, at_ (rowsAt ((at_ ((gC 0 x4.2).dpRow) 3).rows) ((gI 2 x4.2).toNat)) 3, at_ (rowsAt ((at_ ((gC 0 x4.2).dpRow) 3).rows) ((gI 2 x4.2).toNat)) 4], [at_ (rowsAt ((at_ ((gC 1 x4.2).dpRow) 3).rows) ((gI 3 x4.2).toNat)) 1, at_ (rowsAt ((at_ ((gC 1 x4.2).dpRow) 3).rows) ((gI 3 x4.2).toNat)) 2, at_ (rowsAt ((at_ ((gC 1 x4.2).dpRow) 3).rows) ((gI 3 x4.2).toNat)) 3, at_ (rowsAt ((at_ ((gC 1 x4.2).dpRow) 3).rows) ((gI 3 x4.2).toNat)) 4]]).bind fun y6 =>
 (E.ic clapref3_ByEdits_1_i0_n [.r [.int (Go.IntKind.i64.wrap ((gI 2 x4.2) + 1))], .r [.int (Go.IntKind.i64.wrap ((gI 3 x4.2) + 1))], .r [gC 5 x4.2], .r [gC 6 x4.2], .r [gC 5 x4.2], .r [gC 6 x4.2], .m (gM 3 y5)]).bind fun y7 =>
 if ((gI 0 y5) == (Go.IntKind.i64.wrap (((at_ (rowsAt y6 0) 0).toI) + (gI 0 y7)))) = true then
 if (((gC 7 x4.2).rows).length + ([[.int (gI 2 x4.2), .int (gI 3 x4.2)]] : List Row).length) * 16 ≤ 140737488355328 then
 X (gC 0 x4.2) (gC 1 x4.2) (Go.IntKind.i64.wrap ((gI 2 x4.2) + 1)) (Go.IntKind.i64.wrap ((gI 3 x4.2) + 1)) (gC 5 x4.2) (gC 6 x4.2) (appC (gC 7 x4.2) ([[.int (gI 2 x4.2), .int (gI 3 x4.2)]] : List Row)) (gM 3 y7)
 else none
 else
 (E.ic clapref3_ByEdits_1_i0_n [.r [.int (Go.IntKind.i64.wrap ((gI 2 x4.2) + 1))], .r [.int (gI 3 x4.2)], .r [gC 5 x4.2], .r [gC 6 x4.2], .r [gC 5 x4.2], .r [gC 6 x4.2], .m (gM 3 y7)]).bind fun y8 =>
 if ((gI 0 y5) == (Go.IntKind.i64.wrap (2 + (gI 0 y8)))) = true then
 X (gC 0 x4.2) (gC 1 x4.2) (Go.IntKind.i64.wrap ((gI 2 x4.2) + 1)) (gI 3 x4.2) (gC 5 x4.2) (gC 6 x4.2) (gC 7 x4.2) (gM 3 y8)
 else
 X (gC 0 x4.2) (gC 1 x4.2) (gI 2 x4.2) (Go.IntKind.i64.wrap ((gI 3 x4.2) + 1)) (gC 5 x4.2) (gC 6 x4.2) (gC 7 x4.2) (gM 3 y8)
 else none
 else none
 else none
 else none
 else
 some (0, [.r [gC 5 x4.2], .r [gC 6 x4.2], .r [gC 7 x4.2], .m (gM 8 x4.2)])
theorem clapref3_ByEdits_s0 (E : Env) (X : List PV → Option (Nat × List PV)) (v0 : C) (v1 : C) (v2 : Int) (v3 : Int) (v4 : C) (v5 : C) (v6 : C) (v7 : List (Row × Row)) : stepOf E clapref3_ByEdits_c0 clapref3_ByEdits_h0 clapref3_ByEdits_o0 X [.r [v0], .r [v1], .r [.int v2], .r [.int v3], .r [v4], .r [v5], .r [v6], .m v7] = clapref3_ByEdits_b0 E (fun (v0 : C) (v1 : C) (v2 : Int) (v3 : Int) (v4 : C) (v5 : C) (v6 : C) (v7 : List (Row × Row)) => X [.r [v0], .r [v1], .r [.int v2], .r [.int v3], .r [v4], .r [v5], .r [v6], .m v7]) v0 v1 v2 v3 v4 v5 v6 v7 := by kernel_rfl
def clapref3_ByEdits_a : AFun := { ps := [lA1, lA1], rs := [(.one (.sl 36)), lI, lI], res := [(false, 4, (some lA2)), (false, 5, none), (false, 6, none)], body := (.seq (.region [] [oq 2 (.boxP lA1 24 (.t 0)),
 oq 3 (.boxP lA1 24 (.t 1)),
 oq 4 (.mov (.c (.one (.sl 36)) [.nils])),
 oq 5 (.mov (.c lI [.int 0])),
 oq 6 (.mov (.c lI [.int 0]))] false 0)
 (.seq (.seq (.region [] [oq 13 (.ld lA1 24 (.t 2)),
 oq 14 (.ld lA1 24 (.t 3)),
 oq 15 (.call 14 [lA1, lA1] [lI] [(.t 13), (.t 14)]),
 oq 7 (.mov (.t 15))] false 0)
 (.seq (.region [] [oq 16 (.mov (.t 7)),
 oq 17 (.icmp .neq (.t 16) (.c lI [.int 0]))] false 0)
 (.cond (.t 17) (.seq (.region [] [oq 18 (.mov (.t 7)),
 oq 4 (.mov (.c (.one (.sl 36)) [.nils])),
 oq 5 (.mov (.c lI [.int 0])),
 oq 6 (.mov (.t 18))] false 0)
 .ret)
 .skip)))
 (.seq (.region [] [oq 19 (.mkm 0 lA2 lI),
 oq 8 (.allocA 1 [none]),
 ⟨none, .stC (.t 8) (.t 19), none, []⟩] false 2)
 (.seq (.region [] [oq 9 (.allocA 0 [some ((.fn 48), .nilfn)])] false 1)
 (.seq (.region [] [oq 20 (.mkfO 15 [(.t 8), (.t 2), (.t 3), (.t 9)]),
 ⟨none, .stC (.t 9) (.t 20), none, []⟩] false 0)
 (.seq (.region [(9, 0, none)] [oq 10 (.nilS 0 36 lA2)] false 1)
 (.seq (.region [] [oq 11 (.mov (.c lI [.int 0])),
 oq 12 (.mov (.c lI [.int 0]))] false 0)
 (.seq (.block 0 (.loop clapref3_ByEdits_h0 clapref3_ByEdits_o0 clapref3_ByEdits_c0))
 (.seq (.region [] [oq 81 (.mov (.t 10)),
 oq 82 (.ldC (.t 9)),
 oq 83 (.icall 59 15 (clapref3_ByEdits_1_i0_en) (clapref3_ByEdits_1_i0_ex) [2, 0, 3] 0 (some (.t 82)) [(.c lI [.int 0]), (.c lI [.int 0])]),
 oq 4 (.mov (.t 81)),
 oq 5 (.mov (.t 83)),
 oq 6 (.mov (.c lI [.int 0]))] false 0)
 .ret))))))))) }
noncomputable def clapref3_ByEdits (E : Env) (p0 : Row) (p1 : Row) : Option (List Row) :=
 (E.pc n_clapref3_Lists [p0, p1]).bind fun y1 =>
 if (((at_ (rowsAt y1 0) 0).toI) != 0) = true then
 some [[.nils], [.int 0], [.int ((at_ (rowsAt y1 0) 0).toI)]]
 else
 (clapref3_ByEdits_l0 E (.dp p0) (.dp p1) 0 0 (.dp p0) (.dp p1) .nils []).bind fun x9 =>
 (E.ic clapref3_ByEdits_1_i0_n [.r [.int 0], .r [.int 0], .r [gC 0 x9.2], .r [gC 1 x9.2], .r [gC 0 x9.2], .r [gC 1 x9.2], .m (gM 3 x9.2)]).bind fun y10 =>
 some [[gC 2 x9.2], [.int (gI 0 y10)], [.int 0]]
theorem clapref3_ByEdits_eq (E : Env) (p0 : Row) (p1 : Row) : runP E clapref3_ByEdits_a [p0, p1] = clapref3_ByEdits E p0 p1 := by kernel_rfl

def slices_Equal_clapref3_Two_h0 : Shape := { slots := [(0, .d (.one (.sl 36))), (1, .d (.one (.sl 36))), (12, .d lI), (13, .d lI)], objs := [] }
def slices_Equal_clapref3_Two_o0 : List (Exit' × Shape) := [(.exit 0, { slots := [], objs := [] }), (.ret, { slots := [(4, .d lB)], objs := [] })]
def slices_Equal_clapref3_Two_c0 : ACode := (.seq (.region [] [oq 14 (.icmp .lss (.t 13) (.t 12))] false 0)
 (.seq (.cond (.t 14) .skip
 (.exit 0))
 (.seq (.block 1 (.seq (.region [] [oq 15 (.mov (.t 13)),
 oq 5 (.mov (.t 15))] false 0)
 (.seq (.region [] [oq 16 (.mov (.t 0)),
 oq 17 (.mov (.t 5)),
 ⟨some 18, .iad 36 lA2 (.t 16) (.t 17), none, [0, 1]⟩,
 ⟨some 19, .ld lA2 36 (.t 18), none, [0, 1, 2]⟩,
 oq 20 (.mov (.t 1)),
 oq 21 (.mov (.t 5)),
 ⟨some 22, .iad 36 lA2 (.t 20) (.t 21), none, [4, 5]⟩,
 ⟨some 23, .ld lA2 36 (.t 22), none, [4, 5, 6]⟩,
 ⟨some 24, .aeq true lA2 (.t 19) (.t 23), none, [0, 1, 2, 3, 4, 5, 6, 7]⟩] true 0)
 (.cond (.t 24) (.seq (.region [] [oq 4 (.mov (.c lB [.bool false]))] false 0)
 .ret)
 .skip))))
 (.region [] [oq 25 (.ibin .add (.t 13) (.c lI [.int 1])),
 oq 13 (.mov (.t 25))] false 0))))
noncomputable def slices_Equal_clapref3_Two_l0 (E : Env) (v0 : C) (v1 : C) (v2 : Int) (v3 : Int) : Option (Nat × List PV) := E.fix (stepOf E slices_Equal_clapref3_Two_c0 slices_Equal_clapref3_Two_h0 slices_Equal_clapref3_Two_o0) [.r [v0], .r [v1], .r [.int v2], .r [.int v3]]
noncomputable def slices_Equal_clapref3_Two_b0 (E : Env) (X : C → C → Int → Int → Option (Nat × List PV)) (v0 : C) (v1 : C) (v2 : Int) (v3 : Int) : Option (Nat × List PV) :=
 if (decide (v3 < v2)) = true then
 if (0 : Int) ≤ v3 ∧ v3 < (v0.rows.length : Int) then
 if (0 : Int) ≤ v3 ∧ v3 < (v1.rows.length : Int) then
 if (!(ceq [.int .i64, .int .i64] (rowsAt v0.rows v3.toNat) (rowsAt v1.rows v3.toNat))) = true then
 some (1, [.r [.bool false]])
 else
 X v0 v1 v2 (Go.IntKind.i64.wrap (v3 + 1))
 else none
 else none
 else
 some (0, [])
theorem slices_Equal_clapref3_Two_s0 (E : Env) (X : List PV → Option (Nat × List PV)) (v0 : C) (v1 : C) (v2 : Int) (v3 : Int) : stepOf E slices_Equal_clapref3_Two_c0 slices_Equal_clapref3_Two_h0 slices_Equal_clapref3_Two_o0 X [.r [v0], .r [v1], .r [.int v2], .r [.int v3]] = slices_Equal_clapref3_Two_b0 E (fun (v0 : C) (v1 : C) (v2 : Int) (v3 : Int) => X [.r [v0], .r [v1], .r [.int v2], .r [.int v3]]) v0 v1 v2 v3 := by kernel_rfl
def slices_Equal_clapref3_Two_a : AFun := { ps := [(.one (.sl 36)), (.one (.sl 36))], rs := [lB], res := [(false, 4, none)], body := (.seq (.region [] [oq 4 (.mov (.c lB [.bool false]))] false 0)
 (.seq (.seq (.region [] [oq 6 (.mov (.t 0)),
 oq 7 (.lenL (.t 6)),
 oq 8 (.mov (.t 1)),
 oq 9 (.lenL (.t 8)),
 oq 10 (.icmp .neq (.t 7) (.t 9))] false 0)
 (.cond (.t 10) (.seq (.region [] [oq 4 (.mov (.c lB [.bool false]))] false 0)
 .ret)
 .skip))
 (.seq (.seq (.region [] [oq 11 (.mov (.t 0)),
 oq 12 (.lenL (.t 11)),
 oq 13 (.mov (.c lI [.int 0]))] false 0)
 (.block 0 (.loop slices_Equal_clapref3_Two_h0 slices_Equal_clapref3_Two_o0 slices_Equal_clapref3_Two_c0)))
 (.seq (.region [] [oq 4 (.mov (.c lB [.bool true]))] false 0)
 .ret)))) }
noncomputable def slices_Equal_clapref3_Two (E : Env) (p0 : C) (p1 : C) : Option (List Row) :=
 if ((p0.rows.length : Int) != (p1.rows.length : Int)) = true then
 some [[.bool false]]
 else
 (slices_Equal_clapref3_Two_l0 E p0 p1 (p0.rows.length : Int) 0).bind fun x1 =>
 match x1.1 with
 | 0 =>
 some [[.bool true]]
 | i2 + 1 =>
 some [[.bool (gB 0 x1.2)]]
theorem slices_Equal_clapref3_Two_eq (E : Env) (p0 : C) (p1 : C) : runP E slices_Equal_clapref3_Two_a [[p0], [p1]] = slices_Equal_clapref3_Two E p0 p1 := by kernel_rfl

def claplaw3_twos_h0 : Shape := { slots := [(3, .sw 0), (6, .d (.one (.sl 40))), (7, .d lI), (8, .d lI)], objs := [.sarr 36 lA2] }
def claplaw3_twos_o0 : List (Exit' × Shape) := [(.exit 0, { slots := [(3, .sw 0)], objs := [.sarr 36 lA2] })]
def claplaw3_twos_c0 : ACode := (.seq (.region [] [oq 9 (.icmp .lss (.t 8) (.t 7))] false 0)
 (.seq (.cond (.t 9) .skip
 (.exit 0))
 (.seq (.block 1 (.seq (.region [] [oq 10 (.iad 40 lA2 (.t 6) (.t 8)),
 oq 11 (.ld lA2 40 (.t 10)),
 oq 5 (.allocO 0 lA2 [.int 0, .int 0]),
 ⟨none, .st lA2 (.t 5) (.t 11), none, []⟩] false 1)
 (.region [] [oq 12 (.mov (.t 3)),
 oq 13 (.fad 0 1 40 3 (.t 5)),
 oq 14 (.ld lI 3 (.t 13)),
 oq 15 (.fad 1 1 40 3 (.t 5)),
 oq 16 (.ld lI 3 (.t 15)),
 oq 17 (.bld lA2 [.int 0, .int 0] [(0, 1, (.t 14)), (1, 1, (.t 16))]),
 oq 18 (.bsl 36 lA2 1 [.int 0, .int 0] [(0, (.t 17))]),
 oq 19 (.appW 0 36 lA2 16 (.t 12) (.t 18)),
 oq 3 (.mov (.t 19))] false 1)))
 (.region [] [oq 20 (.ibin .add (.t 8) (.c lI [.int 1])),
 oq 8 (.mov (.t 20))] false 0))))
noncomputable def claplaw3_twos_l0 (E : Env) (v0 : C) (v1 : Int) (v2 : Int) (v3 : C) : Option (Nat × List PV) := E.fix (stepOf E claplaw3_twos_c0 claplaw3_twos_h0 claplaw3_twos_o0) [.r [v0], .r [.int v1], .r [.int v2], .r [v3]]
noncomputable def claplaw3_twos_b0 (E : Env) (X : C → Int → Int → C → Option (Nat × List PV)) (v0 : C) (v1 : Int) (v2 : Int) (v3 : C) : Option (Nat × List PV) :=
 if (decide (v2 < v1)) = true then
 if (0 : Int) ≤ v2 ∧ v2 < (v0.rows.length : Int) then
 if (v3.rows.length + ([[.int ((at_ (rowsAt v0.rows v2.toNat) 0).toI), .int ((at_ (rowsAt v0.rows v2.toNat) 1).toI)]] : List Row).length) * 16 ≤ 140737488355328 then
 X v0 v1 (Go.IntKind.i64.wrap (v2 + 1)) (appC v3 ([[.int ((at_ (rowsAt v0.rows v2.toNat) 0).toI), .int ((at_ (rowsAt v0.rows v2.toNat) 1).toI)]] : List Row))
 else none
 else none
 else
 some (0, [.r [v3]])
theorem claplaw3_twos_s0 (E : Env) (X : List PV → Option (Nat × List PV)) (v0 : C) (v1 : Int) (v2 : Int) (v3 : C) : stepOf E claplaw3_twos_c0 claplaw3_twos_h0 claplaw3_twos_o0 X [.r [v0], .r [.int v1], .r [.int v2], .r [v3]] = claplaw3_twos_b0 E (fun (v0 : C) (v1 : Int) (v2 : Int) (v3 : C) => X [.r [v0], .r [.int v1], .r [.int v2], .r [v3]]) v0 v1 v2 v3 := by kernel_rfl
def claplaw3_twos_a : AFun := { ps := [(.one (.sl 40))], rs := [(.one (.sl 36))], res := [(false, 2, (some lA2))], body := (.seq (.region [] [oq 2 (.mov (.c (.one (.sl 36)) [.nils]))] false 0)
 (.seq (.region [] [oq 3 (.nilS 0 36 lA2)] false 1)
 (.seq (.seq (.region [] [oq 6 (.mov (.t 0)),
 oq 7 (.lenL (.t 6)),
 oq 8 (.mov (.c lI [.int 0]))] false 0)
 (.block 0 (.loop claplaw3_twos_h0 claplaw3_twos_o0 claplaw3_twos_c0)))
 (.seq (.region [] [oq 21 (.mov (.t 3)),
 oq 2 (.mov (.t 21))] false 0)
 .ret)))) }
noncomputable def claplaw3_twos (E : Env) (p0 : C) : Option (List Row) :=
 (claplaw3_twos_l0 E p0 (p0.rows.length : Int) 0 .nils).bind fun x1 =>
 some [[gC 0 x1.2]]
theorem claplaw3_twos_eq (E : Env) (p0 : C) : runP E claplaw3_twos_a [[p0]] = claplaw3_twos E p0 := by kernel_rfl

def claplaw3_AlignEdits_a : AFun := { ps := [lA1, lA1], rs := [lB], res := [(false, 4, none)], body := (.seq (.region [] [oq 2 (.boxP lA1 24 (.t 0)),
 oq 3 (.boxP lA1 24 (.t 1)),
 oq 4 (.mov (.c lB [.bool false]))] false 0)
 (.seq (.seq (.region [] [oq 11 (.call 4 [] [lB] []),
 oq 12 (.not (.t 11))] false 0)
 (.cond (.t 12) (.seq (.region [] [oq 4 (.mov (.c lB [.bool false]))] false 0)
 .ret)
 .skip))
 (.seq (.region [] [oq 14 (.ld lA1 24 (.t 2)),
 oq 15 (.ld lA1 24 (.t 3)),
 oq 16 (.call 5 [lA1, lA1] [(.one (.sl 40)), lI, lI] [(.t 14), (.t 15)]),
 oq 13 (.mov (.t 16)),
 oq 17 (.ext 0 (.t 13)),
 oq 18 (.ext 1 (.t 13)),
 oq 19 (.ext 2 (.t 13)),
 oq 5 (.mov (.t 17)),
 oq 6 (.mov (.t 18)),
 oq 7 (.mov (.t 19))] false 0)
 (.seq (.region [] [oq 21 (.ld lA1 24 (.t 2)),
 oq 22 (.ld lA1 24 (.t 3)),
 oq 23 (.call 6 [lA1, lA1] [(.one (.sl 36)), lI, lI] [(.t 21), (.t 22)]),
 oq 20 (.mov (.t 23)),
 oq 24 (.ext 0 (.t 20)),
 oq 25 (.ext 1 (.t 20)),
 oq 26 (.ext 2 (.t 20)),
 oq 8 (.mov (.t 24)),
 oq 9 (.mov (.t 25)),
 oq 10 (.mov (.t 26))] false 0)
 (.seq (.region [] [oq 27 (.ld lA1 24 (.t 2)),
 oq 28 (.ld lA1 24 (.t 3)),
 ⟨some 29, .call 7 [lA1, lA1] [lI] [(.t 27), (.t 28)], none, [0, 1]⟩,
 oq 30 (.ld lA1 24 (.t 2)),
 oq 31 (.ld lA1 24 (.t 3)),
 ⟨some 32, .call 8 [lA1, lA1] [lI] [(.t 30), (.t 31)], none, [0, 1, 2, 3, 4]⟩,
 ⟨some 33, .icmp .eql (.t 29) (.t 32), none, [0, 1, 2, 3, 4, 5]⟩,
 ⟨some 34, .mov (.t 33), none, [0, 1, 2, 3, 4, 5, 6]⟩,
 ⟨some 35, .mov (.t 7), some (34, true), [0, 1, 2, 3, 4, 5, 6, 7]⟩,
 ⟨some 36, .mov (.t 10), some (34, true), [0, 1, 2, 3, 4, 5, 6, 7]⟩,
 ⟨some 37, .icmp .eql (.t 35) (.t 36), some (34, true), [0, 1, 2, 3, 4, 5, 6, 7, 8, 9]⟩,
 ⟨some 38, .pick (.t 34) (.t 37) (.c lB [.bool false]), none, [0, 1, 2, 3, 4, 5, 6, 7, 8, 9, 10]⟩,
 ⟨some 39, .mov (.t 38), none, [0, 1, 2, 3, 4, 5, 6, 7, 8, 9, 10, 11]⟩,
 ⟨some 40, .mov (.t 6), some (39, true), [0, 1, 2, 3, 4, 5, 6, 7, 8, 9, 10, 11, 12]⟩,
 ⟨some 41, .mov (.t 9), some (39, true), [0, 1, 2, 3, 4, 5, 6, 7, 8, 9, 10, 11, 12]⟩,
 ⟨some 42, .icmp .eql (.t 40) (.t 41), some (39, true), [0, 1, 2, 3, 4, 5, 6, 7, 8, 9, 10, 11, 12, 13, 14]⟩,
 ⟨some 43, .pick (.t 39) (.t 42) (.c lB [.bool false]), none, [0, 1, 2, 3, 4, 5, 6, 7, 8, 9, 10, 11, 12, 13, 14, 15]⟩,
 ⟨some 44, .mov (.t 43), none, [0, 1, 2, 3, 4, 5, 6, 7, 8, 9, 10, 11, 12, 13, 14, 15, 16]⟩,
 ⟨some 45, .mov (.t 5), some (44, true), [0, 1, 2, 3, 4, 5, 6, 7, 8, 9, 10, 11, 12, 13, 14, 15, 16, 17]⟩,
 ⟨some 46, .call 10 [(.one (.sl 40))] [(.one (.sl 36))] [(.t 45)], some (44, true), [0, 1, 2, 3, 4, 5, 6, 7, 8, 9, 10, 11, 12, 13, 14, 15, 16, 17, 18]⟩,
 ⟨some 47, .mov (.t 8), some (44, true), [0, 1, 2, 3, 4, 5, 6, 7, 8, 9, 10, 11, 12, 13, 14, 15, 16, 17]⟩,
 ⟨some 48, .call 9 [(.one (.sl 36)), (.one (.sl 36))] [lB] [(.t 46), (.t 47)], some (44, true), [0, 1, 2, 3, 4, 5, 6, 7, 8, 9, 10, 11, 12, 13, 14, 15, 16, 17, 18, 19, 20]⟩,
 ⟨some 49, .pick (.t 44) (.t 48) (.c lB [.bool false]), none, [0, 1, 2, 3, 4, 5, 6, 7, 8, 9, 10, 11, 12, 13, 14, 15, 16, 17, 18, 19, 20, 21]⟩,
 ⟨some 4, .mov (.t 49), none, [0, 1, 2, 3, 4, 5, 6, 7, 8, 9, 10, 11, 12, 13, 14, 15, 16, 17, 18, 19, 20, 21, 22]⟩] true 0)
 .ret))))) }
noncomputable def claplaw3_AlignEdits (E : Env) (p0 : Row) (p1 : Row) : Option (List Row) :=
 (E.pc n_claplaw3_aligned []).bind fun y1 =>
 if (!((at_ (rowsAt y1 0) 0).toB)) = true then
 some [[.bool false]]
 else
 (E.pc n_align_ByEdits [p0, p1]).bind fun y2 =>
 (E.pc n_clapref3_ByEdits [p0, p1]).bind fun y3 =>
 (E.pc n_align_Cost [p0, p1]).bind fun y4 =>
 (E.pc n_clapref3_Cost [p0, p1]).bind fun y5 =>
 let K6 : Bool → Option (List Row) := fun q7 =>
 let K8 : Bool → Option (List Row) := fun q9 =>
 let K10 : Bool → Option (List Row) := fun q11 =>
 some [[.bool q11]]
 if q9 = true then
 (E.pc n_claplaw3_twos [[at_ (rowsAt y2 0) 0]]).bind fun y12 =>
 (E.pc n_slices_Equal_clapref3_Two [[at_ (rowsAt y12 0) 0], [at_ (rowsAt y3 0) 0]]).bind fun y13 =>
 K10 ((at_ (rowsAt y13 0) 0).toB)
 else
 K10 false
 if q7 = true then
 K8 (((at_ (rowsAt y2 1) 0).toI) == ((at_ (rowsAt y3 1) 0).toI))
 else
 K8 false
 if (((at_ (rowsAt y4 0) 0).toI) == ((at_ (rowsAt y5 0) 0).toI)) = true then
 K6 (((at_ (rowsAt y2 2) 0).toI) == ((at_ (rowsAt y3 2) 0).toI))
 else
 K6 false
theorem claplaw3_AlignEdits_eq (E : Env) (p0 : Row) (p1 : Row) : runP E claplaw3_AlignEdits_a [p0, p1] = claplaw3_AlignEdits E p0 p1 := by kernel_rfl
end Go.Ev
