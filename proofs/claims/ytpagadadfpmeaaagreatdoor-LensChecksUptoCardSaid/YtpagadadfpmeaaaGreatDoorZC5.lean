/-
  A part of the proof: what the functions of the program compute.
-/
import Derived.Test.YtpagadadfpmeaaaGreatDoorZNum
set_option linter.all false
set_option maxRecDepth 100000
namespace Go.Ev
def lens_special_h0 : Shape := { slots := [(52, .d (.one (.sl 9))), (53, .d lI), (54, .d lI)], objs := [] }
def lens_special_o0 : List (Exit' × Shape) := [(.exit 1, { slots := [], objs := [] }), (.ret, { slots := [(2, .d lI)], objs := [] })]
def lens_special_c0 : ACode := (.seq (.region [] [oq 55 (.icmp .lss (.t 54) (.t 53))] false 0)
 (.seq (.cond (.t 55) .skip
 (.exit 1))
 (.seq (.block 2 (.seq (.region [] [oq 56 (.iad 9 lS (.t 52) (.t 54)),
 oq 57 (.ld lS 9 (.t 56)),
 oq 4 (.mov (.t 57))] false 0)
 (.seq (.region [] [oq 58 (.mov (.t 4)),
 oq 59 (.call 35 [lS] [lI] [(.t 58)]),
 oq 5 (.mov (.t 59))] false 0)
 (.seq (.region [] [oq 60 (.mov (.t 5)),
 oq 61 (.icmp .neq (.t 60) (.c lI [.int 0]))] false 0)
 (.cond (.t 61) (.seq (.region [] [oq 62 (.mov (.t 5)),
 oq 2 (.mov (.t 62))] false 0)
 .ret)
 .skip)))))
 (.region [] [oq 63 (.ibin .add (.t 54) (.c lI [.int 1])),
 oq 54 (.mov (.t 63))] false 0))))
noncomputable def lens_special_l0 (E : Env) (v0 : C) (v1 : Int) (v2 : Int) : Option (Nat × List PV) := E.fix (stepOf E lens_special_c0 lens_special_h0 lens_special_o0) [.r [v0], .r [.int v1], .r [.int v2]]
noncomputable def lens_special_b0 (E : Env) (X : C → Int → Int → Option (Nat × List PV)) (v0 : C) (v1 : Int) (v2 : Int) : Option (Nat × List PV) :=
 if (decide (v2 < v1)) = true then
 if (0 : Int) ≤ v2 ∧ v2 < (v0.rows.length : Int) then
 (E.pc n_pattern_Check [[.str ((at_ (rowsAt v0.rows v2.toNat) 0).toS)]]).bind fun y7 =>
 if (((at_ (rowsAt y7 0) 0).toI) != 0) = true then
 some (1, [.r [.int ((at_ (rowsAt y7 0) 0).toI)]])
 else
 X v0 v1 (Go.IntKind.i64.wrap (v2 + 1))
 else none
 else
 some (0, [])
theorem lens_special_s0 (E : Env) (X : List PV → Option (Nat × List PV)) (v0 : C) (v1 : Int) (v2 : Int) : stepOf E lens_special_c0 lens_special_h0 lens_special_o0 X [.r [v0], .r [.int v1], .r [.int v2]] = lens_special_b0 E (fun (v0 : C) (v1 : Int) (v2 : Int) => X [.r [v0], .r [.int v1], .r [.int v2]]) v0 v1 v2 := by kernel_rfl
def lens_special_a : AFun := { ps := [lA0], rs := [lI], res := [(false, 2, none)], body := (.seq (.region [] [oq 1 (.boxP lA0 29 (.t 0)),
 oq 2 (.mov (.c lI [.int 0]))] false 0)
 (.seq (.seq (.region [] [oq 6 (.fad 0 1 29 3 (.t 1)),
 oq 7 (.ld lI 3 (.t 6))] false 0)
 (.block 0 (.seq (.region [] [oq 9 (.icmp .eql (.t 7) (.c lI [.int 5])),
 oq 8 (.mov (.t 9))] false 0)
 (.cond (.t 8) (.seq (.region [] [oq 10 (.fad 8 4 29 25 (.t 1)),
 oq 11 (.fad 0 1 25 3 (.t 10)),
 oq 12 (.ld lI 3 (.t 11)),
 oq 13 (.icmp .neq (.t 12) (.c lI [.int 0])),
 oq 14 (.mov (.t 13)),
 ⟨some 15, .fad 8 4 29 25 (.t 1), some (14, true), []⟩,
 ⟨some 16, .fad 0 1 25 3 (.t 15), some (14, true), []⟩,
 ⟨some 17, .ld lI 3 (.t 16), some (14, true), []⟩,
 ⟨some 18, .call 33 [lI] [lB] [(.t 17)], some (14, true), []⟩,
 ⟨some 19, .not (.t 18), some (14, true), []⟩,
 oq 20 (.pick (.t 14) (.t 19) (.c lB [.bool false]))] false 0)
 (.cond (.t 20) (.seq (.region [] [oq 2 (.mov (.c lI [.int 8]))] false 0)
 .ret)
 .skip))
 (.seq (.region [] [oq 22 (.icmp .eql (.t 7) (.c lI [.int 15])),
 oq 21 (.mov (.t 22))] false 0)
 (.cond (.t 21) (.seq (.region [] [oq 23 (.fad 8 4 29 25 (.t 1)),
 oq 24 (.fad 0 1 25 3 (.t 23)),
 oq 25 (.ld lI 3 (.t 24)),
 oq 26 (.call 33 [lI] [lB] [(.t 25)]),
 oq 27 (.not (.t 26))] false 0)
 (.cond (.t 27) (.seq (.region [] [oq 2 (.mov (.c lI [.int 8]))] false 0)
 .ret)
 .skip))
 (.seq (.region [] [oq 29 (.icmp .eql (.t 7) (.c lI [.int 6])),
 oq 28 (.mov (.t 29))] false 0)
 (.cond (.t 28) (.seq (.region [] [oq 30 (.fad 3 1 29 22 (.t 1)),
 oq 31 (.ld (.one (.sl 9)) 22 (.t 30)),
 oq 32 (.call 34 [(.one (.sl 9))] [lI] [(.t 31)]),
 oq 2 (.mov (.t 32))] false 0)
 .ret)
 (.seq (.region [] [oq 34 (.icmp .eql (.t 7) (.c lI [.int 14])),
 oq 33 (.mov (.t 34))] false 0)
 (.cond (.t 33) (.seq (.seq (.region [] [oq 35 (.fad 3 1 29 22 (.t 1)),
 oq 36 (.ld (.one (.sl 9)) 22 (.t 35)),
 oq 37 (.lenL (.t 36)),
 oq 38 (.fad 13 1 29 27 (.t 1)),
 oq 39 (.ld (.one (.sl 29)) 27 (.t 38)),
 oq 40 (.lenL (.t 39)),
 oq 41 (.icmp .neq (.t 37) (.t 40))] false 0)
 (.cond (.t 41) (.seq (.region [] [oq 2 (.mov (.c lI [.int 3]))] false 0)
 .ret)
 .skip))
 (.seq (.region [] [oq 42 (.fad 3 1 29 22 (.t 1)),
 oq 43 (.ld (.one (.sl 9)) 22 (.t 42)),
 oq 44 (.call 34 [(.one (.sl 9))] [lI] [(.t 43)]),
 oq 2 (.mov (.t 44))] false 0)
 .ret))
 (.seq (.region [] [oq 46 (.icmp .eql (.t 7) (.c lI [.int 9])),
 oq 45 (.mov (.t 46))] false 0)
 (.cond (.t 45) (.seq (.seq (.region [] [oq 47 (.fad 3 1 29 22 (.t 1)),
 oq 48 (.ld (.one (.sl 9)) 22 (.t 47)),
 oq 49 (.lenL (.t 48)),
 oq 50 (.icmp .neq (.t 49) (.c lI [.int 2]))] false 0)
 (.cond (.t 50) (.seq (.region [] [oq 2 (.mov (.c lI [.int 3]))] false 0)
 .ret)
 .skip))
 (.seq (.region [] [oq 51 (.fad 3 1 29 22 (.t 1)),
 oq 52 (.ld (.one (.sl 9)) 22 (.t 51)),
 oq 53 (.lenL (.t 52)),
 oq 54 (.mov (.c lI [.int 0]))] false 0)
 (.block 1 (.loop lens_special_h0 lens_special_o0 lens_special_c0))))
 (.seq (.region [] [oq 65 (.icmp .eql (.t 7) (.c lI [.int 11])),
 oq 64 (.mov (.t 65))] false 0)
 (.cond (.t 64) (.seq (.region [] [oq 66 (.fad 12 1 29 26 (.t 1)),
 oq 67 (.ld (.one (.sl 87)) 26 (.t 66)),
 oq 68 (.call 36 [(.one (.sl 87))] [lI] [(.t 67)]),
 oq 2 (.mov (.t 68))] false 0)
 .ret)
 (.seq (.region [] [oq 70 (.icmp .eql (.t 7) (.c lI [.int 12])),
 oq 69 (.mov (.t 70))] false 0)
 (.cond (.t 69) (.seq (.region [] [oq 71 (.fad 5 1 29 3 (.t 1)),
 oq 72 (.ld lI 3 (.t 71)),
 oq 73 (.icmp .lss (.t 72) (.c lI [.int 0])),
 oq 74 (.mov (.t 73)),
 ⟨some 75, .fad 6 1 29 3 (.t 1), some (74, false), []⟩,
 ⟨some 76, .ld lI 3 (.t 75), some (74, false), []⟩,
 ⟨some 77, .fad 5 1 29 3 (.t 1), some (74, false), []⟩,
 ⟨some 78, .ld lI 3 (.t 77), some (74, false), []⟩,
 ⟨some 79, .icmp .lss (.t 76) (.t 78), some (74, false), []⟩,
 oq 80 (.pick (.t 74) (.c lB [.bool true]) (.t 79)),
 oq 81 (.mov (.t 80)),
 ⟨some 82, .fad 6 1 29 3 (.t 1), some (81, false), []⟩,
 ⟨some 83, .ld lI 3 (.t 82), some (81, false), []⟩,
 ⟨some 84, .icmp .gtr (.t 83) (.c lI [.int 999999999]), some (81, false), []⟩,
 oq 85 (.pick (.t 81) (.c lB [.bool true]) (.t 84))] false 0)
 (.cond (.t 85) (.seq (.region [] [oq 2 (.mov (.c lI [.int 11]))] false 0)
 .ret)
 .skip))
 .skip))))))))))))))))
 (.seq (.region [] [oq 2 (.mov (.c lI [.int 0]))] false 0)
 .ret))) }
/-- clapperbridge/lens.special -/
noncomputable def lens_special (E : Env) (p0 : Row) : Option (List Row) :=
 if (((at_ p0 0).toI) == 5) = true then
 let K1 : Bool → Option (List Row) := fun q2 =>
 if q2 = true then
 some [[.int 8]]
 else
 some [[.int 0]]
 if (((at_ p0 8).toI) != 0) = true then
 (E.pc n_lens_Plain [[.int ((at_ p0 8).toI)]]).bind fun y3 =>
 K1 (!((at_ (rowsAt y3 0) 0).toB))
 else
 K1 false
 else
 if (((at_ p0 0).toI) == 15) = true then
 (E.pc n_lens_Plain [[.int ((at_ p0 8).toI)]]).bind fun y4 =>
 if (!((at_ (rowsAt y4 0) 0).toB)) = true then
 some [[.int 8]]
 else
 some [[.int 0]]
 else
 if (((at_ p0 0).toI) == 6) = true then
 (E.pc n_lens_names [[at_ p0 3]]).bind fun y5 =>
 some [[.int ((at_ (rowsAt y5 0) 0).toI)]]
 else
 if (((at_ p0 0).toI) == 14) = true then
 if ((((at_ p0 3).rows).length : Int) != (((at_ p0 13).rows).length : Int)) = true then
 some [[.int 3]]
 else
 (E.pc n_lens_names [[at_ p0 3]]).bind fun y6 =>
 some [[.int ((at_ (rowsAt y6 0) 0).toI)]]
 else
 if (((at_ p0 0).toI) == 9) = true then
 if ((((at_ p0 3).rows).length : Int) != 2) = true then
 some [[.int 3]]
 else
 (lens_special_l0 E (at_ p0 3) (((at_ p0 3).rows).length : Int) 0).bind fun x8 =>
 match x8.1 with
 | 0 =>
 some [[.int 0]]
 | i9 + 1 =>
 some [[.int (gI 0 x8.2)]]
 else
 if (((at_ p0 0).toI) == 11) = true then
 (E.pc n_lens_pairs [[at_ p0 12]]).bind fun y10 =>
 some [[.int ((at_ (rowsAt y10 0) 0).toI)]]
 else
 if (((at_ p0 0).toI) == 12) = true then
 let K11 : Bool → Option (List Row) := fun q12 =>
 let K13 : Bool → Option (List Row) := fun q14 =>
 if q14 = true then
 some [[.int 11]]
 else
 some [[.int 0]]
 if q12 = true then
 K13 true
 else
 K13 (decide (((at_ p0 6).toI) > 999999999))
 if (decide (((at_ p0 5).toI) < 0)) = true then
 K11 true
 else
 K11 (decide (((at_ p0 6).toI) < ((at_ p0 5).toI)))
 else
 some [[.int 0]]
theorem lens_special_eq (E : Env) (p0 : Row) : runP E lens_special_a [p0] = lens_special E p0 := by kernel_rfl

def lens_Node_a : AFun := { ps := [lA0], rs := [lI], res := [(false, 2, none)], body := (.seq (.region [] [oq 1 (.boxP lA0 29 (.t 0)),
 oq 2 (.mov (.c lI [.int 0]))] false 0)
 (.seq (.seq (.join [(.normal, { slots := [(1, .d (.one (.ref 29))), (12, .d lB)], objs := [] })] (.region [] [oq 5 (.fad 0 1 29 3 (.t 1)),
 oq 6 (.ld lI 3 (.t 5)),
 oq 7 (.icmp .lss (.t 6) (.c lI [.int 0])),
 oq 8 (.mov (.t 7)),
 ⟨some 9, .fad 0 1 29 3 (.t 1), some (8, false), []⟩,
 ⟨some 10, .ld lI 3 (.t 9), some (8, false), []⟩,
 ⟨some 11, .icmp .geq (.t 10) (.c lI [.int 19]), some (8, false), []⟩,
 oq 12 (.pick (.t 8) (.c lB [.bool true]) (.t 11))] false 0))
 (.cond (.t 12) (.seq (.region [] [oq 2 (.mov (.c lI [.int 1]))] false 0)
 .ret)
 .skip))
 (.seq (.region [] [oq 13 (.fad 0 1 29 3 (.t 1)),
 oq 14 (.ld lI 3 (.t 13)),
 oq 15 (.call 16 [lI] [lA1] [(.t 14)]),
 oq 3 (.allocO 0 lA1 [.bool false, .bool false, .bool false, .bool false, .bool false, .bool false, .bool false, .bool false, .int 0]),
 ⟨none, .st lA1 (.t 3) (.t 15), none, []⟩] false 1)
 (.seq (.seq (.join [(.normal, { slots := [(1, .d (.one (.ref 29))), (3, .ptr 0 0), (102, .d lB)], objs := [.var lA1] })] (.region [] [oq 16 (.fad 1 1 29 9 (.t 1)),
 oq 17 (.ld lS 9 (.t 16)),
 oq 18 (.scmp .neq (.t 17) (.c lS [.str ([] : List UInt8)])),
 oq 19 (.mov (.t 18)),
 ⟨some 20, .fad 0 1 40 4 (.t 3), some (19, true), []⟩,
 ⟨some 21, .ld lB 4 (.t 20), some (19, true), []⟩,
 ⟨some 22, .not (.t 21), some (19, true), []⟩,
 oq 23 (.pick (.t 19) (.t 22) (.c lB [.bool false])),
 oq 24 (.mov (.t 23)),
 ⟨some 25, .fad 2 1 29 9 (.t 1), some (24, false), []⟩,
 ⟨some 26, .ld lS 9 (.t 25), some (24, false), []⟩,
 ⟨some 27, .scmp .neq (.t 26) (.c lS [.str ([] : List UInt8)]), some (24, false), []⟩,
 ⟨some 28, .mov (.t 27), some (24, false), []⟩,
 ⟨some 29, .fad 1 1 40 4 (.t 3), some (28, true), []⟩,
 ⟨some 30, .ld lB 4 (.t 29), some (28, true), []⟩,
 ⟨some 31, .not (.t 30), some (28, true), []⟩,
 ⟨some 32, .pick (.t 28) (.t 31) (.c lB [.bool false]), some (24, false), []⟩,
 oq 33 (.pick (.t 24) (.c lB [.bool true]) (.t 32)),
 oq 34 (.mov (.t 33)),
 ⟨some 35, .fad 3 1 29 22 (.t 1), some (34, false), []⟩,
 ⟨some 36, .ld (.one (.sl 9)) 22 (.t 35), some (34, false), []⟩,
 ⟨some 37, .lenL (.t 36), some (34, false), []⟩,
 ⟨some 38, .icmp .gtr (.t 37) (.c lI [.int 0]), some (34, false), []⟩,
 ⟨some 39, .mov (.t 38), some (34, false), []⟩,
 ⟨some 40, .fad 2 1 40 4 (.t 3), some (39, true), []⟩,
 ⟨some 41, .ld lB 4 (.t 40), some (39, true), []⟩,
 ⟨some 42, .not (.t 41), some (39, true), []⟩,
 ⟨some 43, .pick (.t 39) (.t 42) (.c lB [.bool false]), some (34, false), []⟩,
 oq 44 (.pick (.t 34) (.c lB [.bool true]) (.t 43)),
 oq 45 (.mov (.t 44)),
 ⟨some 46, .fad 4 1 29 3 (.t 1), some (45, false), []⟩,
 ⟨some 47, .ld lI 3 (.t 46), some (45, false), []⟩,
 ⟨some 48, .icmp .neq (.t 47) (.c lI [.int 0]), some (45, false), []⟩,
 ⟨some 49, .mov (.t 48), some (45, false), []⟩,
 ⟨some 50, .fad 3 1 40 4 (.t 3), some (49, true), []⟩,
 ⟨some 51, .ld lB 4 (.t 50), some (49, true), []⟩,
 ⟨some 52, .not (.t 51), some (49, true), []⟩,
 ⟨some 53, .pick (.t 49) (.t 52) (.c lB [.bool false]), some (45, false), []⟩,
 oq 54 (.pick (.t 45) (.c lB [.bool true]) (.t 53)),
 oq 55 (.mov (.t 54)),
 ⟨some 56, .fad 5 1 29 3 (.t 1), some (55, false), []⟩,
 ⟨some 57, .ld lI 3 (.t 56), some (55, false), []⟩,
 ⟨some 58, .icmp .neq (.t 57) (.c lI [.int 0]), some (55, false), []⟩,
 ⟨some 59, .mov (.t 58), some (55, false), []⟩,
 ⟨some 60, .fad 6 1 29 3 (.t 1), some (59, false), []⟩,
 ⟨some 61, .ld lI 3 (.t 60), some (59, false), []⟩,
 ⟨some 62, .icmp .neq (.t 61) (.c lI [.int 0]), some (59, false), []⟩,
 ⟨some 63, .pick (.t 59) (.c lB [.bool true]) (.t 62), some (55, false), []⟩,
 ⟨some 64, .mov (.t 63), some (55, false), []⟩,
 ⟨some 65, .fad 4 1 40 4 (.t 3), some (64, true), []⟩,
 ⟨some 66, .ld lB 4 (.t 65), some (64, true), []⟩,
 ⟨some 67, .not (.t 66), some (64, true), []⟩,
 ⟨some 68, .pick (.t 64) (.t 67) (.c lB [.bool false]), some (55, false), []⟩,
 oq 69 (.pick (.t 55) (.c lB [.bool true]) (.t 68)),
 oq 70 (.mov (.t 69)),
 ⟨some 71, .fad 7 1 29 5 (.t 1), some (70, false), []⟩,
 ⟨some 72, .ld lU 5 (.t 71), some (70, false), []⟩,
 ⟨some 73, .icmp .neq (.t 72) (.c lU [.int 0]), some (70, false), []⟩,
 ⟨some 74, .mov (.t 73), some (70, false), []⟩,
 ⟨some 75, .fad 5 1 40 4 (.t 3), some (74, true), []⟩,
 ⟨some 76, .ld lB 4 (.t 75), some (74, true), []⟩,
 ⟨some 77, .not (.t 76), some (74, true), []⟩,
 ⟨some 78, .pick (.t 74) (.t 77) (.c lB [.bool false]), some (70, false), []⟩,
 oq 79 (.pick (.t 70) (.c lB [.bool true]) (.t 78)),
 oq 80 (.mov (.t 79)),
 ⟨some 81, .fad 12 1 29 26 (.t 1), some (80, false), []⟩,
 ⟨some 82, .ld (.one (.sl 87)) 26 (.t 81), some (80, false), []⟩,
 ⟨some 83, .lenL (.t 82), some (80, false), []⟩,
 ⟨some 84, .icmp .gtr (.t 83) (.c lI [.int 0]), some (80, false), []⟩,
 ⟨some 85, .mov (.t 84), some (80, false), []⟩,
 ⟨some 86, .fad 7 1 40 4 (.t 3), some (85, true), []⟩,
 ⟨some 87, .ld lB 4 (.t 86), some (85, true), []⟩,
 ⟨some 88, .not (.t 87), some (85, true), []⟩,
 ⟨some 89, .pick (.t 85) (.t 88) (.c lB [.bool false]), some (80, false), []⟩,
 oq 90 (.pick (.t 80) (.c lB [.bool true]) (.t 89)),
 oq 91 (.mov (.t 90)),
 ⟨some 92, .fad 6 1 40 4 (.t 3), some (91, false), []⟩,
 ⟨some 93, .ld lB 4 (.t 92), some (91, false), []⟩,
 ⟨some 94, .not (.t 93), some (91, false), []⟩,
 ⟨some 95, .mov (.t 94), some (91, false), []⟩,
 ⟨some 96, .fad 8 4 29 25 (.t 1), some (95, true), []⟩,
 ⟨some 97, .ld lA3 25 (.t 96), some (95, true), []⟩,
 ⟨some 98, .bld lA3 [.int 0, .int 0, .str [], .nils] [], some (95, true), []⟩,
 ⟨some 99, .call 17 [lA3, lA3] [lB] [(.t 97), (.t 98)], some (95, true), []⟩,
 ⟨some 100, .not (.t 99), some (95, true), []⟩,
 ⟨some 101, .pick (.t 95) (.t 100) (.c lB [.bool false]), some (91, false), []⟩,
 oq 102 (.pick (.t 91) (.c lB [.bool true]) (.t 101))] false 0))
 (.cond (.t 102) (.seq (.region [] [oq 2 (.mov (.c lI [.int 3]))] false 0)
 .ret)
 .skip))
 (.seq (.seq (.join [(.normal, { slots := [(1, .d (.one (.ref 29))), (3, .ptr 0 0), (124, .d lB)], objs := [.var lA1] })] (.region [] [oq 103 (.fad 8 1 40 3 (.t 3)),
 oq 104 (.ld lI 3 (.t 103)),
 oq 105 (.icmp .geq (.t 104) (.c lI [.int 0])),
 oq 106 (.mov (.t 105)),
 ⟨some 107, .fad 13 1 29 27 (.t 1), some (106, true), []⟩,
 ⟨some 108, .ld (.one (.sl 29)) 27 (.t 107), some (106, true), []⟩,
 ⟨some 109, .lenL (.t 108), some (106, true), []⟩,
 ⟨some 110, .fad 8 1 40 3 (.t 3), some (106, true), []⟩,
 ⟨some 111, .ld lI 3 (.t 110), some (106, true), []⟩,
 ⟨some 112, .icmp .neq (.t 109) (.t 111), some (106, true), []⟩,
 oq 113 (.pick (.t 106) (.t 112) (.c lB [.bool false])),
 oq 114 (.mov (.t 113)),
 ⟨some 115, .fad 8 1 40 3 (.t 3), some (114, false), []⟩,
 ⟨some 116, .ld lI 3 (.t 115), some (114, false), []⟩,
 ⟨some 117, .icmp .lss (.t 116) (.c lI [.int 0]), some (114, false), []⟩,
 ⟨some 118, .mov (.t 117), some (114, false), []⟩,
 ⟨some 119, .fad 13 1 29 27 (.t 1), some (118, true), []⟩,
 ⟨some 120, .ld (.one (.sl 29)) 27 (.t 119), some (118, true), []⟩,
 ⟨some 121, .lenL (.t 120), some (118, true), []⟩,
 ⟨some 122, .icmp .eql (.t 121) (.c lI [.int 0]), some (118, true), []⟩,
 ⟨some 123, .pick (.t 118) (.t 122) (.c lB [.bool false]), some (114, false), []⟩,
 oq 124 (.pick (.t 114) (.c lB [.bool true]) (.t 123))] false 0))
 (.cond (.t 124) (.seq (.region [] [oq 2 (.mov (.c lI [.int 3]))] false 0)
 .ret)
 .skip))
 (.seq (.seq (.join [(.normal, { slots := [(1, .d (.one (.ref 29))), (3, .ptr 0 0), (153, .d lB)], objs := [.var lA1] })] (.region [] [oq 125 (.fad 0 1 40 4 (.t 3)),
 oq 126 (.ld lB 4 (.t 125)),
 oq 127 (.mov (.t 126)),
 ⟨some 128, .fad 1 1 29 9 (.t 1), some (127, true), []⟩,
 ⟨some 129, .ld lS 9 (.t 128), some (127, true), []⟩,
 ⟨some 130, .call 18 [lS] [lB] [(.t 129)], some (127, true), []⟩,
 ⟨some 131, .not (.t 130), some (127, true), []⟩,
 oq 132 (.pick (.t 127) (.t 131) (.c lB [.bool false])),
 oq 133 (.mov (.t 132)),
 ⟨some 134, .fad 0 1 29 3 (.t 1), some (133, true), []⟩,
 ⟨some 135, .ld lI 3 (.t 134), some (133, true), []⟩,
 ⟨some 136, .icmp .eql (.t 135) (.c lI [.int 13]), some (133, true), []⟩,
 ⟨some 137, .mov (.t 136), some (133, true), []⟩,
 ⟨some 138, .fad 1 1 29 9 (.t 1), some (137, true), []⟩,
 ⟨some 139, .ld lS 9 (.t 138), some (137, true), []⟩,
 ⟨some 140, .scmp .eql (.t 139) (.c lS [.str ([] : List UInt8)]), some (137, true), []⟩,
 ⟨some 141, .pick (.t 137) (.t 140) (.c lB [.bool false]), some (133, true), []⟩,
 ⟨some 142, .not (.t 141), some (133, true), []⟩,
 oq 143 (.pick (.t 133) (.t 142) (.c lB [.bool false])),
 oq 144 (.mov (.t 143)),
 ⟨some 145, .fad 1 1 40 4 (.t 3), some (144, false), []⟩,
 ⟨some 146, .ld lB 4 (.t 145), some (144, false), []⟩,
 ⟨some 147, .mov (.t 146), some (144, false), []⟩,
 ⟨some 148, .fad 2 1 29 9 (.t 1), some (147, true), []⟩,
 ⟨some 149, .ld lS 9 (.t 148), some (147, true), []⟩,
 ⟨some 150, .call 18 [lS] [lB] [(.t 149)], some (147, true), []⟩,
 ⟨some 151, .not (.t 150), some (147, true), []⟩,
 ⟨some 152, .pick (.t 147) (.t 151) (.c lB [.bool false]), some (144, false), []⟩,
 oq 153 (.pick (.t 144) (.c lB [.bool true]) (.t 152))] false 0))
 (.cond (.t 153) (.seq (.region [] [oq 2 (.mov (.c lI [.int 15]))] false 0)
 .ret)
 .skip))
 (.seq (.seq (.region [] [oq 154 (.fad 6 1 40 4 (.t 3)),
 oq 155 (.ld lB 4 (.t 154))] false 0)
 (.cond (.t 155) (.seq (.region [] [oq 156 (.fad 8 4 29 25 (.t 1)),
 oq 157 (.ld lA3 25 (.t 156)),
 oq 158 (.call 19 [lA3] [lI] [(.t 157)]),
 oq 4 (.mov (.t 158))] false 0)
 (.seq (.region [] [oq 159 (.mov (.t 4)),
 oq 160 (.icmp .neq (.t 159) (.c lI [.int 0]))] false 0)
 (.cond (.t 160) (.seq (.region [] [oq 161 (.mov (.t 4)),
 oq 2 (.mov (.t 161))] false 0)
 .ret)
 .skip)))
 .skip))
 (.seq (.region [] [oq 162 (.ld lA0 29 (.t 1)),
 oq 163 (.call 20 [lA0] [lI] [(.t 162)]),
 oq 2 (.mov (.t 163))] false 0)
 .ret)))))))) }
/-- clapperbridge/lens.Node -/
noncomputable def lens_Node (E : Env) (p0 : Row) : Option (List Row) :=
 (let K1 : Bool → Option (Nat × List PV) := fun q2 =>
 some (0, [.r [.dp p0], .r [.bool q2]])
 if (decide (((at_ p0 0).toI) < 0)) = true then
 K1 true
 else
 K1 (decide (((at_ p0 0).toI) ≥ 19))).bind fun x3 =>
 if (gB 1 x3.2) = true then
 some [[.int 1]]
 else
 if (gC 0 x3.2).isDp = true then
 (E.pc n_lens_table [[.int ((at_ ((gC 0 x3.2).dpRow) 0).toI)]]).bind fun y4 =>
 (if (gC 0 x3.2).isDp = true then
 let K5 : Bool → Option (Nat × List PV) := fun q6 =>
 let K7 : Bool → Option (Nat × List PV) := fun q8 =>
 let K9 : Bool → Option (Nat × List PV) := fun q10 =>
 let K11 : Bool → Option (Nat × List PV) := fun q12 =>
 let K13 : Bool → Option (Nat × List PV) := fun q14 =>
 let K15 : Bool → Option (Nat × List PV) := fun q16 =>
 let K17 : Bool → Option (Nat × List PV) := fun q18 =>
 let K19 : Bool → Option (Nat × List PV) := fun q20 =>
 some (0, [.r [gC 0 x3.2], .r [.bool q20], .r (rowsAt y4 0)])
 if q18 = true then
 K19 true
 else
 let K21 : Bool → Option (Nat × List PV) := fun q22 =>
 K19 q22
 if (!((at_ (rowsAt y4 0) 6).toB)) = true then
 if (gC 0 x3.2).isDp = true then
 (E.pc n_value_Same [[at_ ((gC 0 x3.2).dpRow) 8, at_ ((gC 0 x3.2).dpRow) 9, at_ ((gC 0 x3.2).dpRow) 10, at_ ((gC 0 x3.2).dpRow) 11], [.int 0, .int 0, .str [], .nils]]).bind fun y23 =>
 K21 (!((at_ (rowsAt y23 0) 0).toB))
 else none
 else
 K21 false
 if q16 = true then
 K17 true
 else
 if (gC 0 x3.2).isDp = true then
 let K24 : Bool → Option (Nat × List PV) := fun q25 =>
 K17 q25
 if (decide ((((at_ ((gC 0 x3.2).dpRow) 12).rows).length : Int) > 0)) = true then
 K24 (!((at_ (rowsAt y4 0) 7).toB))
 else
 K24 false
 else none
 if q14 = true then
 K15 true
 else
 if (gC 0 x3.2).isDp = true then
 let K26 : Bool → Option (Nat × List PV) := fun q27 =>
 K15 q27
 if (((at_ ((gC 0 x3.2).dpRow) 7).toI) != 0) = true then
 K26 (!((at_ (rowsAt y4 0) 5).toB))
 else
 K26 false
 else none
 if q12 = true then
 K13 true
 else
 if (gC 0 x3.2).isDp = true then
 let K28 : Bool → Option (Nat × List PV) := fun q29 =>
 let K30 : Bool → Option (Nat × List PV) := fun q31 =>
 K13 q31
 if q29 = true then
 K30 (!((at_ (rowsAt y4 0) 4).toB))
 else
 K30 false
 if (((at_ ((gC 0 x3.2).dpRow) 5).toI) != 0) = true then
 K28 true
 else
 if (gC 0 x3.2).isDp = true then
 K28 (((at_ ((gC 0 x3.2).dpRow) 6).toI) != 0)
 else none
 else none
 if q10 = true then
 K11 true
 else
 if (gC 0 x3.2).isDp = true then
 let K32 : Bool → Option (Nat × List PV) := fun q33 =>
 K11 q33
 if (((at_ ((gC 0 x3.2).dpRow) 4).toI) != 0) = true then
 K32 (!((at_ (rowsAt y4 0) 3).toB))
 else
 K32 false
 else none
 if q8 = true then
 K9 true
 else
 if (gC 0 x3.2).isDp = true then
 let K34 : Bool → Option (Nat × List PV) := fun q35 =>
 K9 q35
 if (decide ((((at_ ((gC 0 x3.2).dpRow) 3).rows).length : Int) > 0)) = true then
 K34 (!((at_ (rowsAt y4 0) 2).toB))
 else
 K34 false
 else none
 if q6 = true then
 K7 true
 else
 if (gC 0 x3.2).isDp = true then
 let K36 : Bool → Option (Nat × List PV) := fun q37 =>
 K7 q37
 if (!(((at_ ((gC 0 x3.2).dpRow) 2).toS) == ([] : List UInt8))) = true then
 K36 (!((at_ (rowsAt y4 0) 1).toB))
 else
 K36 false
 else none
 if (!(((at_ ((gC 0 x3.2).dpRow) 1).toS) == ([] : List UInt8))) = true then
 K5 (!((at_ (rowsAt y4 0) 0).toB))
 else
 K5 false
 else none).bind fun x38 =>
 if (gB 1 x38.2) = true then
 some [[.int 3]]
 else
 (let K39 : Bool → Option (Nat × List PV) := fun q40 =>
 let K41 : Bool → Option (Nat × List PV) := fun q42 =>
 some (0, [.r [gC 0 x38.2], .r [.bool q42], .r (gR 2 x38.2)])
 if q40 = true then
 K41 true
 else
 let K43 : Bool → Option (Nat × List PV) := fun q44 =>
 K41 q44
 if (decide (((at_ (gR 2 x38.2) 8).toI) < 0)) = true then
 if (gC 0 x38.2).isDp = true then
 K43 ((((at_ ((gC 0 x38.2).dpRow) 13).rows).length : Int) == 0)
 else none
 else
 K43 false
 if (decide (((at_ (gR 2 x38.2) 8).toI) ≥ 0)) = true then
 if (gC 0 x38.2).isDp = true then
 K39 ((((at_ ((gC 0 x38.2).dpRow) 13).rows).length : Int) != ((at_ (gR 2 x38.2) 8).toI))
 else none
 else
 K39 false).bind fun x45 =>
 if (gB 1 x45.2) = true then
 some [[.int 3]]
 else
 (let K46 : Bool → Option (Nat × List PV) := fun q47 =>
 let K48 : Bool → Option (Nat × List PV) := fun q49 =>
 let K50 : Bool → Option (Nat × List PV) := fun q51 =>
 some (0, [.r [gC 0 x45.2], .r [.bool q51], .r (gR 2 x45.2)])
 if q49 = true then
 K50 true
 else
 let K52 : Bool → Option (Nat × List PV) := fun q53 =>
 K50 q53
 if ((at_ (gR 2 x45.2) 1).toB) = true then
 if (gC 0 x45.2).isDp = true then
 (E.pc n_value_Name [[.str ((at_ ((gC 0 x45.2).dpRow) 2).toS)]]).bind fun y54 =>
 K52 (!((at_ (rowsAt y54 0) 0).toB))
 else none
 else
 K52 false
 if q47 = true then
 if (gC 0 x45.2).isDp = true then
 let K55 : Bool → Option (Nat × List PV) := fun q56 =>
 K48 (!q56)
 if (((at_ ((gC 0 x45.2).dpRow) 0).toI) == 13) = true then
 if (gC 0 x45.2).isDp = true then
 K55 (((at_ ((gC 0 x45.2).dpRow) 1).toS) == ([] : List UInt8))
 else none
 else
 K55 false
 else none
 else
 K48 false
 if (gB 2 x45.2) = true then
 if (gC 0 x45.2).isDp = true then
 (E.pc n_value_Name [[.str ((at_ ((gC 0 x45.2).dpRow) 1).toS)]]).bind fun y57 =>
 K46 (!((at_ (rowsAt y57 0) 0).toB))
 else none
 else
 K46 false).bind fun x58 =>
 if (gB 1 x58.2) = true then
 some [[.int 15]]
 else
 if ((at_ (gR 2 x58.2) 6).toB) = true then
 if (gC 0 x58.2).isDp = true then
 (E.pc n_value_Check [[at_ ((gC 0 x58.2).dpRow) 8, at_ ((gC 0 x58.2).dpRow) 9, at_ ((gC 0 x58.2).dpRow) 10, at_ ((gC 0 x58.2).dpRow) 11]]).bind fun y59 =>
 if (((at_ (rowsAt y59 0) 0).toI) != 0) = true then
 some [[.int ((at_ (rowsAt y59 0) 0).toI)]]
 else
 if (gC 0 x58.2).isDp = true then
 (E.pc n_lens_special [(gC 0 x58.2).dpRow]).bind fun y60 =>
 some [[.int ((at_ (rowsAt y60 0) 0).toI)]]
 else none
 else none
 else
 if (gC 0 x58.2).isDp = true then
 (E.pc n_lens_special [(gC 0 x58.2).dpRow]).bind fun y61 =>
 some [[.int ((at_ (rowsAt y61 0) 0).toI)]]
 else none
 else none
theorem lens_Node_eq (E : Env) (p0 : Row) : runP E lens_Node_a [p0] = lens_Node E p0 := by kernel_rfl

def lens_walk_h0 : Shape := { slots := [(13, .d (.one (.sl 29))), (14, .d lI), (15, .d lI)], objs := [] }
def lens_walk_o0 : List (Exit' × Shape) := [(.exit 0, { slots := [], objs := [] }), (.ret, { slots := [(2, .d lI)], objs := [] })]
def lens_walk_c0 : ACode := (.seq (.region [] [oq 16 (.icmp .lss (.t 15) (.t 14))] false 0)
 (.seq (.cond (.t 16) .skip
 (.exit 0))
 (.seq (.block 1 (.seq (.region [] [oq 17 (.iad 29 lA0 (.t 13) (.t 15)),
 oq 18 (.ld lA0 29 (.t 17)),
 oq 5 (.allocO 0 lA0 [.int 0, .str [], .str [], .nils, .int 0, .int 0, .int 0, .int 0, .int 0, .int 0, .str [], .nils, .nils, .nils]),
 ⟨none, .st lA0 (.t 5) (.t 18), none, []⟩] false 1)
 (.seq (.region [] [oq 19 (.ld lA0 29 (.t 5)),
 oq 20 (.call 15 [lA0] [lI] [(.t 19)]),
 oq 6 (.mov (.t 20))] false 0)
 (.seq (.region [] [oq 21 (.mov (.t 6)),
 oq 22 (.icmp .neq (.t 21) (.c lI [.int 0]))] false 0)
 (.cond (.t 22) (.seq (.region [] [oq 23 (.mov (.t 6)),
 oq 2 (.mov (.t 23))] false 0)
 .ret)
 .skip)))))
 (.region [] [oq 24 (.ibin .add (.t 15) (.c lI [.int 1])),
 oq 15 (.mov (.t 24))] false 0))))
noncomputable def lens_walk_l0 (E : Env) (v0 : C) (v1 : Int) (v2 : Int) : Option (Nat × List PV) := E.fix (stepOf E lens_walk_c0 lens_walk_h0 lens_walk_o0) [.r [v0], .r [.int v1], .r [.int v2]]
noncomputable def lens_walk_b0 (E : Env) (X : C → Int → Int → Option (Nat × List PV)) (v0 : C) (v1 : Int) (v2 : Int) : Option (Nat × List PV) :=
 if (decide (v2 < v1)) = true then
 if (0 : Int) ≤ v2 ∧ v2 < (v0.rows.length : Int) then
 (E.pc n_lens_walk [rowsAt v0.rows v2.toNat]).bind fun y2 =>
 if (((at_ (rowsAt y2 0) 0).toI) != 0) = true then
 some (1, [.r [.int ((at_ (rowsAt y2 0) 0).toI)]])
 else
 X v0 v1 (Go.IntKind.i64.wrap (v2 + 1))
 else none
 else
 some (0, [])
theorem lens_walk_s0 (E : Env) (X : List PV → Option (Nat × List PV)) (v0 : C) (v1 : Int) (v2 : Int) : stepOf E lens_walk_c0 lens_walk_h0 lens_walk_o0 X [.r [v0], .r [.int v1], .r [.int v2]] = lens_walk_b0 E (fun (v0 : C) (v1 : Int) (v2 : Int) => X [.r [v0], .r [.int v1], .r [.int v2]]) v0 v1 v2 := by kernel_rfl
def lens_walk_a : AFun := { ps := [lA0], rs := [lI], res := [(false, 2, none)], body := (.seq (.region [] [oq 1 (.boxP lA0 29 (.t 0)),
 oq 2 (.mov (.c lI [.int 0]))] false 0)
 (.seq (.seq (.region [] [oq 7 (.ld lA0 29 (.t 1)),
 oq 8 (.call 7 [lA0] [lI] [(.t 7)]),
 oq 3 (.mov (.t 8))] false 0)
 (.seq (.region [] [oq 9 (.mov (.t 3)),
 oq 10 (.icmp .neq (.t 9) (.c lI [.int 0]))] false 0)
 (.cond (.t 10) (.seq (.region [] [oq 11 (.mov (.t 3)),
 oq 2 (.mov (.t 11))] false 0)
 .ret)
 .skip)))
 (.seq (.seq (.region [] [oq 12 (.fad 13 1 29 27 (.t 1)),
 oq 13 (.ld (.one (.sl 29)) 27 (.t 12)),
 oq 14 (.lenL (.t 13)),
 oq 15 (.mov (.c lI [.int 0]))] false 0)
 (.block 0 (.loop lens_walk_h0 lens_walk_o0 lens_walk_c0)))
 (.seq (.region [] [oq 2 (.mov (.c lI [.int 0]))] false 0)
 .ret)))) }
/-- clapperbridge/lens.walk -/
noncomputable def lens_walk (E : Env) (p0 : Row) : Option (List Row) :=
 (E.pc n_lens_Node [p0]).bind fun y1 =>
 if (((at_ (rowsAt y1 0) 0).toI) != 0) = true then
 some [[.int ((at_ (rowsAt y1 0) 0).toI)]]
 else
 (lens_walk_l0 E (at_ p0 13) (((at_ p0 13).rows).length : Int) 0).bind fun x3 =>
 match x3.1 with
 | 0 =>
 some [[.int 0]]
 | i4 + 1 =>
 some [[.int (gI 0 x3.2)]]
theorem lens_walk_eq (E : Env) (p0 : Row) : runP E lens_walk_a [p0] = lens_walk E p0 := by kernel_rfl

def lens_Check_a : AFun := { ps := [lA0], rs := [lI], res := [(false, 2, none)], body := (.seq (.region [] [oq 1 (.boxP lA0 29 (.t 0)),
 oq 2 (.mov (.c lI [.int 0]))] false 0)
 (.seq (.seq (.region [] [oq 3 (.ld lA0 29 (.t 1)),
 oq 4 (.call 9 [lA0] [lI] [(.t 3)]),
 oq 5 (.icmp .gtr (.t 4) (.c lI [.int 120])),
 oq 6 (.mov (.t 5)),
 ⟨some 7, .ld lA0 29 (.t 1), some (6, false), []⟩,
 ⟨some 8, .call 11 [lA0] [lI] [(.t 7)], some (6, false), []⟩,
 ⟨some 9, .icmp .gtr (.t 8) (.c lI [.int 40]), some (6, false), []⟩,
 oq 10 (.pick (.t 6) (.c lB [.bool true]) (.t 9))] false 0)
 (.cond (.t 10) (.seq (.region [] [oq 2 (.mov (.c lI [.int 2]))] false 0)
 .ret)
 .skip))
 (.seq (.region [] [oq 11 (.ld lA0 29 (.t 1)),
 oq 12 (.call 15 [lA0] [lI] [(.t 11)]),
 oq 2 (.mov (.t 12))] false 0)
 .ret))) }
/-- clapperbridge/lens.Check -/
noncomputable def lens_Check (E : Env) (p0 : Row) : Option (List Row) :=
 (E.pc n_lens_Size [p0]).bind fun y1 =>
 let K2 : Bool → Option (List Row) := fun q3 =>
 if q3 = true then
 some [[.int 2]]
 else
 (E.pc n_lens_walk [p0]).bind fun y4 =>
 some [[.int ((at_ (rowsAt y4 0) 0).toI)]]
 if (decide (((at_ (rowsAt y1 0) 0).toI) > 120)) = true then
 K2 true
 else
 (E.pc n_lens_Deep [p0]).bind fun y5 =>
 K2 (decide (((at_ (rowsAt y5 0) 0).toI) > 40))
theorem lens_Check_eq (E : Env) (p0 : Row) : runP E lens_Check_a [p0] = lens_Check E p0 := by kernel_rfl

def lens_word_a : AFun := { ps := [lI], rs := [lS], res := [(false, 2, none)], body := (.seq (.region [] [oq 2 (.mov (.c lS [.str ([] : List UInt8)]))] false 0)
 (.seq (.region [] [oq 3 (.bld (.agg [.str, .str, .str, .str, .str, .str, .str, .str, .str, .str, .str, .str, .str, .str, .str, .str, .str, .str, .str]) [.str [], .str [], .str [], .str [], .str [], .str [], .str [], .str [], .str [], .str [], .str [], .str [], .str [], .str [], .str [], .str [], .str [], .str [], .str []] [(0, 1, (.c lS [.str ([115, 97, 109, 101] : List UInt8)])), (1, 1, (.c lS [.str ([116, 104, 101, 110] : List UInt8)])), (2, 1, (.c lS [.str ([97, 116] : List UInt8)])), (3, 1, (.c lS [.str ([114, 101, 110, 97, 109, 101] : List UInt8)])), (4, 1, (.c lS [.str ([100, 114, 111, 112] : List UInt8)])), (5, 1, (.c lS [.str ([97, 100, 100] : List UInt8)])), (6, 1, (.c lS [.str ([110, 101, 115, 116] : List UInt8)])), (7, 1, (.c lS [.str ([102, 108, 97, 116] : List UInt8)])), (8, 1, (.c lS [.str ([109, 111, 118, 101] : List UInt8)])), (9, 1, (.c lS [.str ([115, 112, 108, 105, 116] : List UInt8)])), (10, 1, (.c lS [.str ([103, 108, 117, 101] : List UInt8)])), (11, 1, (.c lS [.str ([108, 111, 111, 107] : List UInt8)])), (12, 1, (.c lS [.str ([110, 117, 109, 98, 101, 114] : List UInt8)])), (13, 1, (.c lS [.str ([101, 97, 99, 104] : List UInt8)])), (14, 1, (.c lS [.str ([99, 97, 115, 101] : List UInt8)])), (15, 1, (.c lS [.str ([115, 101, 108, 101, 99, 116] : List UInt8)])), (16, 1, (.c lS [.str ([116, 97, 103] : List UInt8)])), (17, 1, (.c lS [.str ([117, 110, 116, 97, 103] : List UInt8)])), (18, 1, (.c lS [.str ([102, 105, 108, 108] : List UInt8)]))]),
 oq 4 (.mov (.t 0)),
 oq 5 (.idxA 19 lS (.t 3) (.t 4)),
 oq 2 (.mov (.t 5))] false 0)
 .ret)) }

def lens_printer_put_i21_h0 : Shape := { slots := [(0, .ptr 0 0), (6, .d (.one (.sl 9))), (7, .d lI), (8, .d lI)], objs := [.cells false [.sw 1], .sarr 5 lU], m := 2 }
def lens_printer_put_i21_o0 : List (Exit' × Shape) := [(.exit 0, { slots := [], objs := [.cells false [.sw 1], .sarr 5 lU], m := 2 })]
def lens_printer_put_i21_c0 : ACode := (.seq (.region [] [oq 9 (.icmp .lss (.t 8) (.t 7))] false 0)
 (.seq (.cond (.t 9) .skip
 (.exit 0))
 (.seq (.block 1 (.seq (.region [] [oq 10 (.iad 9 lS (.t 6) (.t 8)),
 oq 11 (.ld lS 9 (.t 10)),
 oq 5 (.mov (.t 11))] false 0)
 (.seq (.seq (.region [] [oq 12 (.mov (.t 0)),
 oq 13 (.nchk (.t 12)),
 oq 14 (.fad 0 1 54 52 (.t 13)),
 oq 15 (.ldC (.t 14)),
 oq 16 (.lenL (.t 15)),
 oq 17 (.icmp .gtr (.t 16) (.c lI [.int 0]))] false 0)
 (.join [(.normal, { slots := [(0, .ptr 0 0), (5, .d lS), (6, .d (.one (.sl 9))), (7, .d lI), (8, .d lI)], objs := [.cells false [.sw 1], .sarr 5 lU], m := 2 })] (.cond (.t 17) (.region [] [oq 18 (.mov (.t 0)),
 oq 19 (.mov (.t 0)),
 oq 20 (.nchk (.t 19)),
 oq 21 (.fad 0 1 54 52 (.t 20)),
 oq 22 (.ldC (.t 21)),
 oq 23 (.bsl 5 lU 1 [.int 0] [(0, (.c lU [.int 32]))]),
 oq 24 (.appW 0 5 lU 1 (.t 22) (.t 23)),
 oq 25 (.nchk (.t 18)),
 oq 26 (.fad 0 1 54 52 (.t 25)),
 ⟨none, .stC (.t 26) (.t 24), none, []⟩] false 1)
 .skip)))
 (.region [] [oq 27 (.mov (.t 0)),
 oq 28 (.mov (.t 0)),
 oq 29 (.nchk (.t 28)),
 oq 30 (.fad 0 1 54 52 (.t 29)),
 oq 31 (.ldC (.t 30)),
 oq 32 (.mov (.t 5)),
 oq 33 (.appS 0 5 (.t 31) (.t 32)),
 oq 34 (.nchk (.t 27)),
 oq 35 (.fad 0 1 54 52 (.t 34)),
 ⟨none, .stC (.t 35) (.t 33), none, []⟩] false 1))))
 (.region [] [oq 36 (.ibin .add (.t 8) (.c lI [.int 1])),
 oq 8 (.mov (.t 36))] false 0))))
def lens_printer_put_i21_a : AImp := { fn := 42, entry := lens_printer_put_i21_en, res := [], exit := lens_printer_put_i21_ex, body := (.seq (.region [] [oq 6 (.mov (.t 1)),
 oq 7 (.lenL (.t 6)),
 oq 8 (.mov (.c lI [.int 0]))] false 0)
 (.block 0 (.loop lens_printer_put_i21_h0 lens_printer_put_i21_o0 lens_printer_put_i21_c0))) }

def lens_quote_h0 : Shape := { slots := [(0, .d lS), (3, .sw 0), (8, .d lI), (9, .d lI)], objs := [.sarr 5 lU] }
def lens_quote_o0 : List (Exit' × Shape) := [(.exit 0, { slots := [(3, .sw 0)], objs := [.sarr 5 lU] })]
def lens_quote_c0 : ACode := (.seq (.region [] [oq 10 (.icmp .lss (.t 9) (.t 8))] false 0)
 (.seq (.cond (.t 10) .skip
 (.exit 0))
 (.seq (.join [(.normal, { slots := [(0, .d lS), (3, .sw 0), (8, .d lI), (9, .d lI)], objs := [.sarr 5 lU] })] (.block 1 (.seq (.region [] [oq 11 (.mov (.t 9)),
 oq 4 (.mov (.t 11))] false 0)
 (.seq (.region [] [oq 12 (.mov (.t 0)),
 oq 13 (.mov (.t 4)),
 oq 14 (.idxS (.t 12) (.t 13)),
 oq 5 (.mov (.t 14))] false 0)
 (.seq (.join [(.normal, { slots := [(0, .d lS), (3, .sw 0), (5, .d lU), (8, .d lI), (9, .d lI), (28, .d lB)], objs := [.sarr 5 lU] })] (.region [] [oq 15 (.mov (.t 5)),
 oq 16 (.icmp .lss (.t 15) (.c lU [.int 33])),
 oq 17 (.mov (.t 16)),
 ⟨some 18, .mov (.t 5), some (17, false), []⟩,
 ⟨some 19, .icmp .gtr (.t 18) (.c lU [.int 126]), some (17, false), []⟩,
 oq 20 (.pick (.t 17) (.c lB [.bool true]) (.t 19)),
 oq 21 (.mov (.t 20)),
 ⟨some 22, .mov (.t 5), some (21, false), []⟩,
 ⟨some 23, .icmp .eql (.t 22) (.c lU [.int 34]), some (21, false), []⟩,
 oq 24 (.pick (.t 21) (.c lB [.bool true]) (.t 23)),
 oq 25 (.mov (.t 24)),
 ⟨some 26, .mov (.t 5), some (25, false), []⟩,
 ⟨some 27, .icmp .eql (.t 26) (.c lU [.int 92]), some (25, false), []⟩,
 oq 28 (.pick (.t 25) (.c lB [.bool true]) (.t 27))] false 0))
 (.cond (.t 28) (.region [] [oq 29 (.mov (.t 3)),
 oq 30 (.mov (.t 5)),
 ⟨some 31, .shf .shr (.t 30) (.c lW [.int 4]), none, [1]⟩,
 ⟨some 32, .idxS (.c lS [.str ([48, 49, 50, 51, 52, 53, 54, 55, 56, 57, 97, 98, 99, 100, 101, 102] : List UInt8)]) (.t 31), none, [1, 2]⟩,
 oq 33 (.mov (.t 5)),
 ⟨some 34, .ibin .and (.t 33) (.c lU [.int 15]), none, [4]⟩,
 ⟨some 35, .idxS (.c lS [.str ([48, 49, 50, 51, 52, 53, 54, 55, 56, 57, 97, 98, 99, 100, 101, 102] : List UInt8)]) (.t 34), none, [4, 5]⟩,
 ⟨some 36, .bsl 5 lU 3 [.int 0] [(0, (.c lU [.int 92])), (1, (.t 32)), (2, (.t 35))], none, [1, 2, 3, 4, 5, 6]⟩,
 ⟨some 37, .appW 0 5 lU 1 (.t 29) (.t 36), none, [0, 1, 2, 3, 4, 5, 6, 7]⟩,
 ⟨some 3, .mov (.t 37), none, [0, 1, 2, 3, 4, 5, 6, 7, 8]⟩] true 1)
 (.region [] [oq 38 (.mov (.t 3)),
 oq 39 (.mov (.t 5)),
 oq 40 (.bsl 5 lU 1 [.int 0] [(0, (.t 39))]),
 oq 41 (.appW 0 5 lU 1 (.t 38) (.t 40)),
 oq 3 (.mov (.t 41))] false 1)))))))
 (.region [] [oq 42 (.ibin .add (.t 9) (.c lI [.int 1])),
 oq 9 (.mov (.t 42))] false 0))))
def lens_quote_a : AFun := { ps := [lS], rs := [lS], res := [(false, 2, none)], body := (.seq (.region [] [oq 2 (.mov (.c lS [.str ([] : List UInt8)]))] false 0)
 (.seq (.region [] [oq 6 (.bslS 0 5 lU 1 [.int 0] [(0, (.c lU [.int 34]))]),
 oq 3 (.mov (.t 6))] false 1)
 (.seq (.seq (.region [] [oq 7 (.mov (.t 0)),
 oq 8 (.lenS (.t 7)),
 oq 9 (.mov (.c lI [.int 0]))] false 0)
 (.block 0 (.loop lens_quote_h0 lens_quote_o0 lens_quote_c0)))
 (.seq (.region [] [oq 43 (.mov (.t 3)),
 oq 44 (.bsl 5 lU 1 [.int 0] [(0, (.c lU [.int 34]))]),
 oq 45 (.appW 0 5 lU 1 (.t 43) (.t 44)),
 oq 46 (.b2s 5 (.t 45)),
 oq 2 (.mov (.t 46))] false 1)
 .ret)))) }

def lens_printer_value_i23_h0 : Shape := { slots := [(0, .ptr 0 0), (3, .d (.one (.ref 25))), (4, .whole 2), (74, .d lI), (75, .d lI)], objs := [.cells false [.sw 1], .sarr 5 lU, .arr lU], m := 2 }
def lens_printer_value_i23_o0 : List (Exit' × Shape) := [(.exit 4, { slots := [(0, .ptr 0 0), (4, .whole 2)], objs := [.cells false [.sw 1], .sarr 5 lU, .arr lU], m := 2 })]
def lens_printer_value_i23_c0 : ACode := (.seq (.region [] [oq 76 (.icmp .lss (.t 75) (.t 74))] false 0)
 (.seq (.cond (.t 76) .skip
 (.exit 4))
 (.seq (.block 5 (.seq (.region [] [oq 77 (.mov (.t 75)),
 oq 5 (.mov (.t 77))] false 0)
 (.region [] [oq 78 (.mov (.t 4)),
 oq 79 (.mov (.t 5)),
 oq 80 (.fad 1 1 25 3 (.t 3)),
 oq 81 (.ld lI 3 (.t 80)),
 oq 82 (.i2i .u64 (.t 81)),
 oq 83 (.mov (.t 5)),
 oq 84 (.ibin .mul (.c lI [.int 4]) (.t 83)),
 oq 85 (.ibin .sub (.c lI [.int 60]) (.t 84)),
 oq 86 (.shf .shr (.t 82) (.t 85)),
 oq 87 (.ibin .and (.t 86) (.c lW [.int 15])),
 oq 88 (.idxS (.c lS [.str ([48, 49, 50, 51, 52, 53, 54, 55, 56, 57, 97, 98, 99, 100, 101, 102] : List UInt8)]) (.t 87)),
 oq 89 (.iad 5 lU (.t 78) (.t 79)),
 ⟨none, .st lU (.t 89) (.t 88), none, []⟩] false 0)))
 (.region [] [oq 90 (.ibin .add (.t 75) (.c lI [.int 1])),
 oq 75 (.mov (.t 90))] false 0))))
def lens_printer_value_i23_h1 : Shape := { slots := [(0, .ptr 0 0), (3, .d (.one (.ref 25))), (18, .d (.one (.sl 67))), (19, .d lI), (20, .d lI)], objs := [.cells false [.sw 1], .sarr 5 lU], m := 2 }
def lens_printer_value_i23_o1 : List (Exit' × Shape) := [(.exit 1, { slots := [(0, .ptr 0 0)], objs := [.cells false [.sw 1], .sarr 5 lU], m := 2 })]
def lens_printer_value_i23_c1 : ACode := (.seq (.region [] [oq 21 (.icmp .lss (.t 20) (.t 19))] false 0)
 (.seq (.cond (.t 21) .skip
 (.exit 1))
 (.seq (.join [(.normal, { slots := [(0, .ptr 0 0), (3, .d (.one (.ref 25))), (18, .d (.one (.sl 67))), (19, .d lI), (20, .d lI)], objs := [.cells false [.sw 1], .sarr 5 lU], m := 2 })] (.block 2 (.seq (.region [] [oq 22 (.iad 67 lA2 (.t 18) (.t 20)),
 oq 23 (.ld lA2 67 (.t 22)),
 oq 7 (.allocO 0 lA2 [.str [], .int 0, .int 0, .str [], .nils]),
 ⟨none, .st lA2 (.t 7) (.t 23), none, []⟩] false 1)
 (.seq (.seq (.region [] [oq 24 (.fad 0 1 25 3 (.t 3)),
 oq 25 (.ld lI 3 (.t 24))] false 0)
 (.join [(.normal, { slots := [(0, .ptr 0 0), (3, .d (.one (.ref 25))), (7, .ptr 2 0), (18, .d (.one (.sl 67))), (19, .d lI), (20, .d lI)], objs := [.cells false [.sw 1], .sarr 5 lU, .var lA2], m := 2 })] (.block 3 (.seq (.seq (.region [] [oq 27 (.icmp .eql (.t 25) (.c lI [.int 6])),
 oq 26 (.mov (.t 27))] false 0)
 (.join [(.normal, { slots := [(0, .ptr 0 0), (3, .d (.one (.ref 25))), (7, .ptr 2 0), (18, .d (.one (.sl 67))), (19, .d lI), (20, .d lI), (25, .d lI), (26, .d lB)], objs := [.cells false [.sw 1], .sarr 5 lU, .var lA2], m := 2 })] (.cond (.t 26) .skip
 (.region [] [oq 28 (.icmp .eql (.t 25) (.c lI [.int 7])),
 oq 26 (.mov (.t 28))] false 0))))
 (.cond (.t 26) (.region [] [oq 29 (.mov (.t 0)),
 oq 30 (.fad 0 1 67 9 (.t 7)),
 oq 31 (.ld lS 9 (.t 30)),
 oq 32 (.bsl 9 lS 1 [.str []] [(0, (.t 31))]),
 oq 33 (.icall 163 42 (lens_printer_put_i21_en) (lens_printer_put_i21_ex) [0, 1] 0 none [(.t 29), (.t 32)])] false 0)
 (.seq (.region [] [oq 35 (.icmp .eql (.t 25) (.c lI [.int 9])),
 oq 34 (.mov (.t 35))] false 0)
 (.cond (.t 34) (.region [] [oq 36 (.mov (.t 0)),
 oq 37 (.fad 0 1 67 9 (.t 7)),
 oq 38 (.ld lS 9 (.t 37)),
 oq 39 (.call 62 [lS] [lS] [(.t 38)]),
 oq 40 (.bsl 9 lS 1 [.str []] [(0, (.t 39))]),
 oq 41 (.icall 163 42 (lens_printer_put_i21_en) (lens_printer_put_i21_ex) [0, 1] 0 none [(.t 36), (.t 40)])] false 0)
 .skip)))))))
 (.region [] [oq 42 (.mov (.t 0)),
 oq 43 (.fad 1 4 67 25 (.t 7)),
 oq 44 (.ld lA3 25 (.t 43)),
 oq 45 (.icall 165 63 (lens_printer_value_i23_en) (lens_printer_value_i23_ex) [0, 1] 0 none [(.t 42), (.t 44)])] false 0)))))
 (.region [] [oq 46 (.ibin .add (.t 20) (.c lI [.int 1])),
 oq 20 (.mov (.t 46))] false 0))))
def lens_printer_value_i23_a : AImp := { fn := 63, entry := lens_printer_value_i23_en, res := [], exit := lens_printer_value_i23_ex, body := (.seq (.region [] [oq 3 (.boxP lA3 25 (.t 1))] false 0)
 (.seq (.region [] [oq 8 (.fad 0 1 25 3 (.t 3)),
 oq 9 (.ld lI 3 (.t 8))] false 0)
 (.block 0 (.seq (.region [] [oq 51 (.icmp .eql (.t 9) (.c lI [.int 0])),
 oq 50 (.mov (.t 51))] false 0)
 (.cond (.t 50) (.region [] [oq 52 (.mov (.t 0)),
 oq 53 (.bsl 9 lS 1 [.str []] [(0, (.c lS [.str ([117, 110, 105, 116] : List UInt8)]))]),
 oq 54 (.icall 163 42 (lens_printer_put_i21_en) (lens_printer_put_i21_ex) [0, 1] 0 none [(.t 52), (.t 53)])] false 0)
 (.seq (.seq (.region [] [oq 56 (.icmp .eql (.t 9) (.c lI [.int 1])),
 oq 55 (.mov (.t 56))] false 0)
 (.join [(.normal, { slots := [(0, .ptr 0 0), (3, .d (.one (.ref 25))), (9, .d lI), (55, .d lB)], objs := [.cells false [.sw 1], .sarr 5 lU], m := 2 })] (.cond (.t 55) .skip
 (.seq (.region [] [oq 57 (.icmp .eql (.t 9) (.c lI [.int 2])),
 oq 55 (.mov (.t 57))] false 0)
 (.cond (.t 55) .skip
 (.seq (.region [] [oq 58 (.icmp .eql (.t 9) (.c lI [.int 4])),
 oq 55 (.mov (.t 58))] false 0)
 (.cond (.t 55) .skip
 (.region [] [oq 59 (.icmp .eql (.t 9) (.c lI [.int 11])),
 oq 55 (.mov (.t 59))] false 0))))))))
 (.cond (.t 55) (.region [] [oq 60 (.mov (.t 0)),
 oq 61 (.bld (.agg [.str, .str, .str, .str, .str, .str, .str, .str, .str, .str, .str, .str]) [.str [], .str [], .str [], .str [], .str [], .str [], .str [], .str [], .str [], .str [], .str [], .str []] [(1, 1, (.c lS [.str ([98, 111, 111, 108] : List UInt8)])), (2, 1, (.c lS [.str ([105, 110, 116] : List UInt8)])), (4, 1, (.c lS [.str ([100, 97, 121] : List UInt8)])), (11, 1, (.c lS [.str ([109, 97, 114, 107] : List UInt8)]))]),
 oq 62 (.fad 0 1 25 3 (.t 3)),
 ⟨some 63, .ld lI 3 (.t 62), none, [2]⟩,
 ⟨some 64, .idxA 12 lS (.t 61) (.t 63), none, [1, 2, 3]⟩,
 oq 65 (.fad 1 1 25 3 (.t 3)),
 ⟨some 66, .ld lI 3 (.t 65), none, [5]⟩,
 ⟨some 67, .call 44 [lI] [lS] [(.t 66)], none, [5, 6]⟩,
 ⟨some 68, .bsl 9 lS 2 [.str []] [(0, (.t 64)), (1, (.t 67))], none, [1, 2, 3, 4, 5, 6, 7]⟩,
 ⟨some 69, .icall 163 42 (lens_printer_put_i21_en) (lens_printer_put_i21_ex) [0, 1] 0 none [(.t 60), (.t 68)], none, [0, 1, 2, 3, 4, 5, 6, 7, 8]⟩] true 0)
 (.seq (.region [] [oq 71 (.icmp .eql (.t 9) (.c lI [.int 3])),
 oq 70 (.mov (.t 71))] false 0)
 (.cond (.t 70) (.seq (.region [] [oq 72 (.mk 0 5 lU [.int 0] 1 (.c lI [.int 16]) (.c lI [.int 16])),
 oq 4 (.mov (.t 72))] false 1)
 (.seq (.seq (.region [] [oq 73 (.mov (.t 4)),
 oq 74 (.lenL (.t 73)),
 oq 75 (.mov (.c lI [.int 0]))] false 0)
 (.block 4 (.loop lens_printer_value_i23_h0 lens_printer_value_i23_o0 lens_printer_value_i23_c0)))
 (.region [] [oq 91 (.mov (.t 0)),
 oq 92 (.mov (.t 4)),
 oq 93 (.b2s 5 (.t 92)),
 oq 94 (.bsl 9 lS 2 [.str []] [(0, (.c lS [.str ([102, 108, 111, 97, 116] : List UInt8)])), (1, (.t 93))]),
 oq 95 (.icall 163 42 (lens_printer_put_i21_en) (lens_printer_put_i21_ex) [0, 1] 0 none [(.t 91), (.t 94)])] false 0)))
 (.seq (.region [] [oq 97 (.icmp .eql (.t 9) (.c lI [.int 5])),
 oq 96 (.mov (.t 97))] false 0)
 (.cond (.t 96) (.region [] [oq 98 (.mov (.t 0)),
 oq 99 (.fad 2 1 25 9 (.t 3)),
 oq 100 (.ld lS 9 (.t 99)),
 oq 101 (.call 62 [lS] [lS] [(.t 100)]),
 oq 102 (.bsl 9 lS 2 [.str []] [(0, (.c lS [.str ([116, 101, 120, 116] : List UInt8)])), (1, (.t 101))]),
 oq 103 (.icall 163 42 (lens_printer_put_i21_en) (lens_printer_put_i21_ex) [0, 1] 0 none [(.t 98), (.t 102)])] false 0)
 (.seq (.region [] [oq 10 (.mov (.t 0)),
 oq 11 (.bld (.agg [.str, .str, .str, .str, .str, .str, .str, .str, .str, .str]) [.str [], .str [], .str [], .str [], .str [], .str [], .str [], .str [], .str [], .str []] [(6, 1, (.c lS [.str ([114, 101, 99, 111, 114, 100] : List UInt8)])), (7, 1, (.c lS [.str ([99, 104, 111, 105, 99, 101] : List UInt8)])), (8, 1, (.c lS [.str ([108, 105, 115, 116] : List UInt8)])), (9, 1, (.c lS [.str ([109, 97, 112] : List UInt8)]))]),
 oq 12 (.fad 0 1 25 3 (.t 3)),
 oq 13 (.ld lI 3 (.t 12)),
 oq 14 (.idxA 10 lS (.t 11) (.t 13)),
 oq 15 (.bsl 9 lS 2 [.str []] [(0, (.t 14)), (1, (.c lS [.str ([40] : List UInt8)]))]),
 oq 16 (.icall 163 42 (lens_printer_put_i21_en) (lens_printer_put_i21_ex) [0, 1] 0 none [(.t 10), (.t 15)])] false 0)
 (.seq (.seq (.region [] [oq 17 (.fad 3 1 25 23 (.t 3)),
 oq 18 (.ld (.one (.sl 67)) 23 (.t 17)),
 oq 19 (.lenL (.t 18)),
 oq 20 (.mov (.c lI [.int 0]))] false 0)
 (.block 1 (.loop lens_printer_value_i23_h1 lens_printer_value_i23_o1 lens_printer_value_i23_c1)))
 (.region [] [oq 47 (.mov (.t 0)),
 oq 48 (.bsl 9 lS 1 [.str []] [(0, (.c lS [.str ([41] : List UInt8)]))]),
 oq 49 (.icall 163 42 (lens_printer_put_i21_en) (lens_printer_put_i21_ex) [0, 1] 0 none [(.t 47), (.t 48)])] false 0)))))))))))))) }

def lens_printer_rest_i22_h0 : Shape := { slots := [(0, .ptr 0 0), (4, .d (.one (.ref 29))), (5, .d (.one (.ref 40))), (18, .d (.one (.sl 9))), (19, .d lI), (20, .d lI)], objs := [.cells false [.sw 1], .sarr 5 lU], m := 2 }
def lens_printer_rest_i22_o0 : List (Exit' × Shape) := [(.exit 0, { slots := [(0, .ptr 0 0), (4, .d (.one (.ref 29))), (5, .d (.one (.ref 40)))], objs := [.cells false [.sw 1], .sarr 5 lU], m := 2 })]
def lens_printer_rest_i22_c0 : ACode := (.seq (.region [] [oq 21 (.icmp .lss (.t 20) (.t 19))] false 0)
 (.seq (.cond (.t 21) .skip
 (.exit 0))
 (.seq (.block 1 (.seq (.region [] [oq 22 (.iad 9 lS (.t 18) (.t 20)),
 oq 23 (.ld lS 9 (.t 22)),
 oq 7 (.mov (.t 23))] false 0)
 (.seq (.region [] [oq 24 (.fad 0 1 29 3 (.t 4)),
 oq 25 (.ld lI 3 (.t 24)),
 oq 26 (.icmp .eql (.t 25) (.c lI [.int 9]))] false 0)
 (.cond (.t 26) (.region [] [oq 27 (.mov (.t 0)),
 oq 28 (.mov (.t 7)),
 oq 29 (.call 62 [lS] [lS] [(.t 28)]),
 oq 30 (.bsl 9 lS 1 [.str []] [(0, (.t 29))]),
 oq 31 (.icall 163 42 (lens_printer_put_i21_en) (lens_printer_put_i21_ex) [0, 1] 0 none [(.t 27), (.t 30)])] false 0)
 (.region [] [oq 32 (.mov (.t 0)),
 oq 33 (.mov (.t 7)),
 oq 34 (.bsl 9 lS 1 [.str []] [(0, (.t 33))]),
 oq 35 (.icall 163 42 (lens_printer_put_i21_en) (lens_printer_put_i21_ex) [0, 1] 0 none [(.t 32), (.t 34)])] false 0)))))
 (.region [] [oq 36 (.ibin .add (.t 20) (.c lI [.int 1])),
 oq 20 (.mov (.t 36))] false 0))))
def lens_printer_rest_i22_h1 : Shape := { slots := [(0, .ptr 0 0), (4, .d (.one (.ref 29))), (5, .d (.one (.ref 40))), (52, .d (.one (.sl 87))), (53, .d lI), (54, .d lI)], objs := [.cells false [.sw 1], .sarr 5 lU], m := 2 }
def lens_printer_rest_i22_o1 : List (Exit' × Shape) := [(.exit 2, { slots := [(0, .ptr 0 0), (4, .d (.one (.ref 29))), (5, .d (.one (.ref 40)))], objs := [.cells false [.sw 1], .sarr 5 lU], m := 2 })]
def lens_printer_rest_i22_c1 : ACode := (.seq (.region [] [oq 55 (.icmp .lss (.t 54) (.t 53))] false 0)
 (.seq (.cond (.t 55) .skip
 (.exit 2))
 (.seq (.block 3 (.seq (.region [] [oq 56 (.iad 87 lA8 (.t 52) (.t 54)),
 oq 57 (.ld lA8 87 (.t 56)),
 oq 9 (.allocO 0 lA8 [.int 0, .int 0, .str [], .nils, .int 0, .int 0, .str [], .nils]),
 ⟨none, .st lA8 (.t 9) (.t 57), none, []⟩] false 1)
 (.seq (.region [] [oq 58 (.mov (.t 0)),
 oq 59 (.iadA 2 87 25 lA3 (.t 9) (.c lI [.int 0])),
 oq 60 (.ld lA3 25 (.t 59)),
 oq 61 (.icall 165 63 (lens_printer_value_i23_en) (lens_printer_value_i23_ex) [0, 1] 0 none [(.t 58), (.t 60)])] false 0)
 (.region [] [oq 62 (.mov (.t 0)),
 oq 63 (.iadA 2 87 25 lA3 (.t 9) (.c lI [.int 1])),
 oq 64 (.ld lA3 25 (.t 63)),
 oq 65 (.icall 165 63 (lens_printer_value_i23_en) (lens_printer_value_i23_ex) [0, 1] 0 none [(.t 62), (.t 64)])] false 0))))
 (.region [] [oq 66 (.ibin .add (.t 54) (.c lI [.int 1])),
 oq 54 (.mov (.t 66))] false 0))))
def lens_printer_rest_i22_h2 : Shape := { slots := [(0, .ptr 0 0), (77, .d (.one (.sl 29))), (78, .d lI), (79, .d lI)], objs := [.cells false [.sw 1], .sarr 5 lU], m := 2 }
def lens_printer_rest_i22_o2 : List (Exit' × Shape) := [(.exit 4, { slots := [(0, .ptr 0 0)], objs := [.cells false [.sw 1], .sarr 5 lU], m := 2 })]
def lens_printer_rest_i22_c2 : ACode := (.seq (.region [] [oq 80 (.icmp .lss (.t 79) (.t 78))] false 0)
 (.seq (.cond (.t 80) .skip
 (.exit 4))
 (.seq (.block 5 (.seq (.region [] [oq 81 (.iad 29 lA0 (.t 77) (.t 79)),
 oq 82 (.ld lA0 29 (.t 81)),
 oq 11 (.allocO 0 lA0 [.int 0, .str [], .str [], .nils, .int 0, .int 0, .int 0, .int 0, .int 0, .int 0, .str [], .nils, .nils, .nils]),
 ⟨none, .st lA0 (.t 11) (.t 82), none, []⟩] false 1)
 (.region [] [oq 83 (.mov (.t 0)),
 oq 84 (.ld lA0 29 (.t 11)),
 oq 85 (.icall 162 27 (lens_printer_lens_i20_en) (lens_printer_lens_i20_ex) [0, 1] 0 none [(.t 83), (.t 84)])] false 0)))
 (.region [] [oq 86 (.ibin .add (.t 79) (.c lI [.int 1])),
 oq 79 (.mov (.t 86))] false 0))))
def lens_printer_rest_i22_a : AImp := { fn := 45, entry := lens_printer_rest_i22_en, res := [], exit := lens_printer_rest_i22_ex, body := (.seq (.region [] [oq 4 (.boxP lA0 29 (.t 1)),
 oq 5 (.boxP lA1 40 (.t 2))] false 0)
 (.seq (.seq (.region [] [oq 12 (.fad 2 1 40 4 (.t 5)),
 oq 13 (.ld lB 4 (.t 12))] false 0)
 (.join [(.normal, { slots := [(0, .ptr 0 0), (4, .d (.one (.ref 29))), (5, .d (.one (.ref 40)))], objs := [.cells false [.sw 1], .sarr 5 lU], m := 2 })] (.cond (.t 13) (.seq (.region [] [oq 14 (.mov (.t 0)),
 oq 15 (.bsl 9 lS 1 [.str []] [(0, (.c lS [.str ([40] : List UInt8)]))]),
 oq 16 (.icall 163 42 (lens_printer_put_i21_en) (lens_printer_put_i21_ex) [0, 1] 0 none [(.t 14), (.t 15)])] false 0)
 (.seq (.seq (.region [] [oq 17 (.fad 3 1 29 22 (.t 4)),
 oq 18 (.ld (.one (.sl 9)) 22 (.t 17)),
 oq 19 (.lenL (.t 18)),
 oq 20 (.mov (.c lI [.int 0]))] false 0)
 (.block 0 (.loop lens_printer_rest_i22_h0 lens_printer_rest_i22_o0 lens_printer_rest_i22_c0)))
 (.region [] [oq 37 (.mov (.t 0)),
 oq 38 (.bsl 9 lS 1 [.str []] [(0, (.c lS [.str ([41] : List UInt8)]))]),
 oq 39 (.icall 163 42 (lens_printer_put_i21_en) (lens_printer_put_i21_ex) [0, 1] 0 none [(.t 37), (.t 38)])] false 0)))
 .skip)))
 (.seq (.seq (.region [] [oq 40 (.fad 6 1 40 4 (.t 5)),
 oq 41 (.ld lB 4 (.t 40))] false 0)
 (.join [(.normal, { slots := [(0, .ptr 0 0), (4, .d (.one (.ref 29))), (5, .d (.one (.ref 40)))], objs := [.cells false [.sw 1], .sarr 5 lU], m := 2 })] (.cond (.t 41) (.region [] [oq 42 (.mov (.t 0)),
 oq 43 (.fad 8 4 29 25 (.t 4)),
 oq 44 (.ld lA3 25 (.t 43)),
 oq 45 (.icall 165 63 (lens_printer_value_i23_en) (lens_printer_value_i23_ex) [0, 1] 0 none [(.t 42), (.t 44)])] false 0)
 .skip)))
 (.seq (.seq (.region [] [oq 46 (.fad 7 1 40 4 (.t 5)),
 oq 47 (.ld lB 4 (.t 46))] false 0)
 (.join [(.normal, { slots := [(0, .ptr 0 0), (4, .d (.one (.ref 29))), (5, .d (.one (.ref 40)))], objs := [.cells false [.sw 1], .sarr 5 lU], m := 2 })] (.cond (.t 47) (.seq (.region [] [oq 48 (.mov (.t 0)),
 oq 49 (.bsl 9 lS 1 [.str []] [(0, (.c lS [.str ([40] : List UInt8)]))]),
 oq 50 (.icall 163 42 (lens_printer_put_i21_en) (lens_printer_put_i21_ex) [0, 1] 0 none [(.t 48), (.t 49)])] false 0)
 (.seq (.seq (.region [] [oq 51 (.fad 12 1 29 26 (.t 4)),
 oq 52 (.ld (.one (.sl 87)) 26 (.t 51)),
 oq 53 (.lenL (.t 52)),
 oq 54 (.mov (.c lI [.int 0]))] false 0)
 (.block 2 (.loop lens_printer_rest_i22_h1 lens_printer_rest_i22_o1 lens_printer_rest_i22_c1)))
 (.region [] [oq 67 (.mov (.t 0)),
 oq 68 (.bsl 9 lS 1 [.str []] [(0, (.c lS [.str ([41] : List UInt8)]))]),
 oq 69 (.icall 163 42 (lens_printer_put_i21_en) (lens_printer_put_i21_ex) [0, 1] 0 none [(.t 67), (.t 68)])] false 0)))
 .skip)))
 (.seq (.region [] [oq 70 (.fad 8 1 40 3 (.t 5)),
 oq 71 (.ld lI 3 (.t 70)),
 oq 72 (.icmp .neq (.t 71) (.c lI [.int 0]))] false 0)
 (.cond (.t 72) (.seq (.region [] [oq 73 (.mov (.t 0)),
 oq 74 (.bsl 9 lS 1 [.str []] [(0, (.c lS [.str ([40] : List UInt8)]))]),
 oq 75 (.icall 163 42 (lens_printer_put_i21_en) (lens_printer_put_i21_ex) [0, 1] 0 none [(.t 73), (.t 74)])] false 0)
 (.seq (.seq (.region [] [oq 76 (.fad 13 1 29 27 (.t 4)),
 oq 77 (.ld (.one (.sl 29)) 27 (.t 76)),
 oq 78 (.lenL (.t 77)),
 oq 79 (.mov (.c lI [.int 0]))] false 0)
 (.block 4 (.loop lens_printer_rest_i22_h2 lens_printer_rest_i22_o2 lens_printer_rest_i22_c2)))
 (.region [] [oq 87 (.mov (.t 0)),
 oq 88 (.bsl 9 lS 1 [.str []] [(0, (.c lS [.str ([41] : List UInt8)]))]),
 oq 89 (.icall 163 42 (lens_printer_put_i21_en) (lens_printer_put_i21_ex) [0, 1] 0 none [(.t 87), (.t 88)])] false 0)))
 .skip)))))) }
end Go.Ev
