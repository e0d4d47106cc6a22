/-
  A part of the proof: what the functions of the program compute.
-/
import Derived.Test.YtagljniiabcfoaaGreatDoorZNum
set_option linter.all false
set_option maxRecDepth 100000
namespace Go.Ev
def slices_IndexFunc_api_Field_i15_h0 : Shape := { slots := [(0, .whole 0), (1, .d (.one (.fn 50))), (7, .d lI), (8, .d lI)], objs := [.arr lA1, oS7, oS7], m := 3 }
def slices_IndexFunc_api_Field_i15_o0 : List (Exit' × Shape) := [(.exit 0, { slots := [], objs := [.arr lA1, oS7, oS7], m := 3 }), (.ret, { slots := [(4, .d lI)], objs := [.arr lA1, oS7, oS7], m := 3 })]
def slices_IndexFunc_api_Field_i15_c0 : ACode := (.seq (.region [] [oq 9 (.icmp .lss (.t 8) (.t 7))] false 0)
 (.seq (.cond (.t 9) .skip
 (.exit 0))
 (.seq (.block 1 (.seq (.region [] [oq 10 (.mov (.t 8)),
 oq 5 (.mov (.t 10))] false 0)
 (.seq (.region [] [oq 11 (.mov (.t 1)),
 oq 12 (.mov (.t 0)),
 oq 13 (.mov (.t 5)),
 oq 14 (.iad 34 lA1 (.t 12) (.t 13)),
 oq 15 (.ld lA1 34 (.t 14)),
 oq 16 (.callv 50 [lA1] [lB] (.t 11) [(.t 15)])] false 0)
 (.cond (.t 16) (.seq (.region [] [oq 17 (.mov (.t 5)),
 oq 4 (.mov (.t 17))] false 0)
 .ret)
 .skip))))
 (.region [] [oq 18 (.ibin .add (.t 8) (.c lI [.int 1])),
 oq 8 (.mov (.t 18))] false 0))))
noncomputable def slices_IndexFunc_api_Field_i15_l0 (E : Env) (v0 : C) (v1 : Int) (v2 : Int) (v3 : C) (v4 : Int) (v5 : Int) (v6 : List UInt8) (v7 : Int) (v8 : Int) (v9 : List UInt8) : Option (Nat × List PV) := E.fix (stepOf E slices_IndexFunc_api_Field_i15_c0 slices_IndexFunc_api_Field_i15_h0 slices_IndexFunc_api_Field_i15_o0) [.r [v0], .r [.int v1], .r [.int v2], .r [v3], .r [.int v4], .r [.int v5], .r [.str v6], .r [.int v7], .r [.int v8], .r [.str v9]]
noncomputable def slices_IndexFunc_api_Field_i15_b0 (E : Env) (X : C → Int → Int → C → Int → Int → List UInt8 → Int → Int → List UInt8 → Option (Nat × List PV)) (v0 : C) (v1 : Int) (v2 : Int) (v3 : C) (v4 : Int) (v5 : Int) (v6 : List UInt8) (v7 : Int) (v8 : Int) (v9 : List UInt8) : Option (Nat × List PV) :=
 if (decide (v2 < v1)) = true then
 if (0 : Int) ≤ v2 ∧ v2 < (v3.rows.length : Int) then
 if v2.toNat < v3.rows.length then
 (callC E v0 [rowsAt v3.rows v2.toNat]).bind fun y1 =>
 if ((at_ (rowsAt y1 0) 0).toB) = true then
 some (1, [.r [.int v2], .r [v3], .r [.int v4], .r [.int v5], .r [.str v6], .r [.int v7], .r [.int v8], .r [.str v9]])
 else
 X v0 v1 (Go.IntKind.i64.wrap (v2 + 1)) v3 v4 v5 v6 v7 v8 v9
 else none
 else none
 else
 some (0, [.r [v3], .r [.int v4], .r [.int v5], .r [.str v6], .r [.int v7], .r [.int v8], .r [.str v9]])
def slices_IndexFunc_api_Field_i15_a : AImp := { fn := 14, entry := slices_IndexFunc_api_Field_i15_en, res := [.tmp 4], exit := slices_IndexFunc_api_Field_i15_ex, body := (.seq (.region [] [oq 4 (.mov (.c lI [.int 0]))] false 0)
 (.seq (.seq (.region [] [oq 6 (.mov (.t 0)),
 oq 7 (.lenL (.t 6)),
 oq 8 (.mov (.c lI [.int 0]))] false 0)
 (.block 0 (.loop slices_IndexFunc_api_Field_i15_h0 slices_IndexFunc_api_Field_i15_o0 slices_IndexFunc_api_Field_i15_c0)))
 (.seq (.region [] [oq 4 (.mov (.c lI [.int (-1)]))] false 0)
 .ret))) }
/-- slices.IndexFunc[[]clapperbridge/api.Field,clapperbridge/api.Field], to which objects are handed -/
noncomputable def slices_IndexFunc_api_Field_i15 (E : Env) (p0 : C) (p1 : C) (p2 : Int) (p3 : Int) (p4 : List UInt8) (p5 : Int) (p6 : Int) (p7 : List UInt8) : Option (List PV) :=
 (slices_IndexFunc_api_Field_i15_l0 E p0 (p1.rows.length : Int) 0 p1 p2 p3 p4 p5 p6 p7).bind fun x2 =>
 match x2.1 with
 | 0 =>
 some [.r [.int (-1)], .r [gC 0 x2.2], .r [.int (gI 1 x2.2)], .r [.int (gI 2 x2.2)], .r [.str (gS 3 x2.2)], .r [.int (gI 4 x2.2)], .r [.int (gI 5 x2.2)], .r [.str (gS 6 x2.2)]]
 | i3 + 1 =>
 some [.r [.int (gI 0 x2.2)], .r [gC 1 x2.2], .r [.int (gI 2 x2.2)], .r [.int (gI 3 x2.2)], .r [.str (gS 4 x2.2)], .r [.int (gI 5 x2.2)], .r [.int (gI 6 x2.2)], .r [.str (gS 7 x2.2)]]
def get_Find_i14_a : AImp := { fn := 5, entry := get_Find_i14_en, res := [.tmp 4], exit := get_Find_i14_ex, body := (.seq (.region [] [oq 2 (.boxA 0 (.t 0)),
 oq 3 (.boxP lS 9 (.t 1)),
 oq 4 (.mov (.c lI [.int 0]))] false 1)
 (.seq (.region [] [oq 5 (.fad 3 1 25 23 (.t 2)),
 oq 6 (.ldC (.t 5)),
 oq 7 (.mkf 15 50 [.ref 9] [(.t 3)]),
 oq 8 (.icall 275 14 (slices_IndexFunc_api_Field_i15_en) (slices_IndexFunc_api_Field_i15_ex) [0, 1, 2] 0 none [(.t 6), (.t 7)]),
 oq 4 (.mov (.t 8))] false 0)
 .ret)) }
/-- clapperbridge/get.Find, to which objects are handed -/
noncomputable def get_Find_i14 (E : Env) (p0 : Int) (p1 : Int) (p2 : List UInt8) (p3 : List UInt8) (p4 : C) (p5 : Int) (p6 : Int) (p7 : List UInt8) : Option (List PV) :=
 (E.ic slices_IndexFunc_api_Field_i15_n [.r [.fn n_get_Find_1 [.dp [.str p3]]], .r [p4], .r [.int p5], .r [.int p6], .r [.str p7], .r [.int p0], .r [.int p1], .r [.str p2]]).bind fun y1 =>
 some [.r [.int (gI 0 y1)], .r [gC 1 y1], .r [.int (gI 2 y1)], .r [.int (gI 3 y1)], .r [.str (gS 4 y1)]]
def slices_Delete_api_Field_i16_a : AImp := { fn := 63, entry := slices_Delete_api_Field_i16_en, res := [.tmp 6], exit := slices_Delete_api_Field_i16_ex, body := (.seq (.region [] [oq 6 (.nilO 0 lA1)] false 1)
 (.seq (.region [] [oq 8 (.mov (.t 0)),
 oq 9 (.mov (.t 1)),
 oq 10 (.mov (.t 2)),
 oq 11 (.mov (.t 0)),
 oq 12 (.lenL (.t 11)),
 oq 13 (.slc3 34 lA1 (.t 8) (.t 9) (.t 10) (.t 12))] false 0)
 (.seq (.seq (.region [] [oq 14 (.mov (.t 1)),
 oq 15 (.mov (.t 2)),
 oq 16 (.icmp .eql (.t 14) (.t 15))] false 0)
 (.cond (.t 16) (.seq (.region [] [oq 17 (.mov (.t 0)),
 oq 6 (.mov (.t 17))] false 0)
 .ret)
 .skip))
 (.seq (.region [] [oq 18 (.mov (.t 0)),
 oq 19 (.lenL (.t 18)),
 oq 7 (.mov (.t 19))] false 0)
 (.seq (.region [] [oq 20 (.mov (.t 0)),
 oq 21 (.mov (.t 1)),
 ⟨some 22, .slc 34 lA1 (.t 20) none (some (.t 21)), none, [0, 1]⟩,
 oq 23 (.mov (.t 0)),
 oq 24 (.mov (.t 2)),
 ⟨some 25, .slc 34 lA1 (.t 23) (some (.t 24)) none, none, [3, 4]⟩,
 ⟨some 26, .appM 34 lA1 (.t 22) (.t 25), none, [0, 1, 2, 3, 4, 5]⟩,
 ⟨some 0, .mov (.t 26), none, [0, 1, 2, 3, 4, 5, 6]⟩] true 1)
 (.seq (.region [] [oq 27 (.mov (.t 0)),
 oq 28 (.mov (.t 0)),
 oq 29 (.lenL (.t 28)),
 oq 30 (.mov (.t 7)),
 oq 31 (.slc 34 lA1 (.t 27) (some (.t 29)) (some (.t 30))),
 ⟨none, .clr 34 lA1 [.str [], .int 0, .int 0, .str [], .nils] (.t 31), none, []⟩] false 0)
 (.seq (.region [] [oq 32 (.mov (.t 0)),
 oq 6 (.movT (.t 32))] false 0)
 .ret))))))) }

def get_parts_i13_h0 : Shape := { slots := [(2, .ptr 1 0), (3, .ptr 2 0), (4, .ptr 3 0), (19, .whole 0), (20, .d lI), (21, .d lI)], objs := [.arr lA1, oS2, oS7, .var lA0], m := 1 }
def get_parts_i13_o0 : List (Exit' × Shape) := [(.exit 1, { slots := [(3, .ptr 1 0), (4, .ptr 2 0)], objs := [.arr lA1, oS7, .var lA0], m := 1 })]
def get_parts_i13_c0 : ACode := (.seq (.region [] [oq 22 (.icmp .lss (.t 21) (.t 20))] false 0)
 (.seq (.cond (.t 22) .skip
 (.exit 1))
 (.seq (.block 2 (.seq (.region [] [oq 23 (.mov (.t 21)),
 oq 24 (.iad 34 lA1 (.t 19) (.t 21)),
 oq 25 (.ld lA1 34 (.t 24)),
 oq 6 (.allocO 0 lA1 [.str [], .int 0, .int 0, .str [], .nils]),
 oq 5 (.mov (.t 23)),
 ⟨none, .st lA1 (.t 6) (.t 25), none, []⟩] false 1)
 (.region [] [oq 26 (.fad 3 1 25 23 (.t 3)),
 ⟨some 27, .ldC (.t 26), none, [0]⟩,
 oq 28 (.mov (.t 5)),
 oq 29 (.fad 13 1 29 27 (.t 2)),
 ⟨some 30, .ldC (.t 29), none, [3]⟩,
 ⟨some 31, .iad 29 lA4 (.t 30) (.c lI [.int 0]), none, [3, 4]⟩,
 ⟨some 32, .ld lA4 29 (.t 31), none, [3, 4, 5]⟩,
 oq 33 (.fad 1 4 34 25 (.t 6)),
 ⟨some 34, .ld lA0 25 (.t 33), none, [7]⟩,
 ⟨some 35, .call 20 [lA4, lA0] [lA0] [(.t 32), (.t 34)], none, [3, 4, 5, 6, 7, 8]⟩,
 ⟨some 36, .iad 34 lA1 (.t 27) (.t 28), none, [0, 1, 2, 3, 4, 5, 6, 7, 8, 9]⟩,
 ⟨some 37, .fad 1 4 34 25 (.t 36), none, [0, 1, 2, 3, 4, 5, 6, 7, 8, 9, 10]⟩,
 ⟨none, .st lA0 (.t 37) (.t 35), none, [0, 1, 2, 3, 4, 5, 6, 7, 8, 9, 10, 11]⟩] true 0)))
 (.region [] [oq 38 (.ibin .add (.t 21) (.c lI [.int 1])),
 oq 21 (.mov (.t 38))] false 0))))
def get_parts_i13_a : AImp := { fn := 36, entry := get_parts_i13_en, res := [.var 4 lA0], exit := get_parts_i13_ex, body := (.seq (.region [] [oq 2 (.boxA 0 (.t 0)),
 oq 3 (.boxA 1 (.t 1)),
 oq 4 (.allocO 2 lA0 [.int 0, .int 0, .str [], .nils])] false 3)
 (.seq (.seq (.region [] [oq 14 (.fad 0 1 29 3 (.t 2)),
 oq 15 (.ldC (.t 14))] false 0)
 (.block 0 (.seq (.region [] [oq 17 (.icmp .eql (.t 15) (.c lI [.int 13])),
 oq 16 (.mov (.t 17))] false 0)
 (.cond (.t 16) (.seq (.seq (.region [] [oq 18 (.fad 3 1 25 23 (.t 3)),
 oq 19 (.ldC (.t 18)),
 oq 20 (.lenL (.t 19)),
 oq 21 (.mov (.c lI [.int 0]))] false 0)
 (.block 1 (.loop get_parts_i13_h0 get_parts_i13_o0 get_parts_i13_c0)))
 (.seq (.ghost (.frz 3 3 34 lA1) (.region [] [oq 39 (.ldA 4 (.t 3)),
 ⟨none, .st lA0 (.t 4) (.t 39), none, []⟩] false 0))
 .ret))
 (.seq (.region [] [oq 41 (.icmp .eql (.t 15) (.c lI [.int 14])),
 oq 40 (.mov (.t 41))] false 0)
 (.cond (.t 40) (.seq (.seq (.region [] [oq 42 (.fad 3 1 29 22 (.t 2)),
 ⟨some 43, .ldC (.t 42), none, [0]⟩,
 oq 44 (.fad 3 1 25 23 (.t 3)),
 ⟨some 45, .ldC (.t 44), none, [2]⟩,
 ⟨some 46, .iad 34 lA1 (.t 45) (.c lI [.int 0]), none, [2, 3]⟩,
 ⟨some 47, .fad 0 1 34 9 (.t 46), none, [2, 3, 4]⟩,
 ⟨some 48, .ld lS 9 (.t 47), none, [2, 3, 4, 5]⟩,
 ⟨some 49, .call 59 [(.one (.sl 9)), lS] [lI] [(.t 43), (.t 48)], none, [0, 1, 2, 3, 4, 5, 6]⟩,
 ⟨some 7, .mov (.t 49), none, [0, 1, 2, 3, 4, 5, 6, 7]⟩] true 0)
 (.seq (.region [] [oq 50 (.mov (.t 7)),
 oq 51 (.icmp .geq (.t 50) (.c lI [.int 0]))] false 0)
 (.join [(.normal, { slots := [(3, .ptr 1 0), (4, .ptr 2 0)], objs := [.arr lA1, oS7, .var lA0], m := 1 })] (.cond (.t 51) (.region [] [oq 52 (.fad 3 1 25 23 (.t 3)),
 ⟨some 53, .ldC (.t 52), none, [0]⟩,
 oq 54 (.fad 13 1 29 27 (.t 2)),
 ⟨some 55, .ldC (.t 54), none, [2]⟩,
 oq 56 (.mov (.t 7)),
 ⟨some 57, .iad 29 lA4 (.t 55) (.t 56), none, [2, 3, 4]⟩,
 ⟨some 58, .ld lA4 29 (.t 57), none, [2, 3, 4, 5]⟩,
 oq 59 (.fad 3 1 25 23 (.t 3)),
 ⟨some 60, .ldC (.t 59), none, [7]⟩,
 ⟨some 61, .iad 34 lA1 (.t 60) (.c lI [.int 0]), none, [7, 8]⟩,
 ⟨some 62, .fad 1 4 34 25 (.t 61), none, [7, 8, 9]⟩,
 ⟨some 63, .ld lA0 25 (.t 62), none, [7, 8, 9, 10]⟩,
 ⟨some 64, .call 20 [lA4, lA0] [lA0] [(.t 58), (.t 63)], none, [2, 3, 4, 5, 6, 7, 8, 9, 10, 11]⟩,
 ⟨some 65, .iad 34 lA1 (.t 53) (.c lI [.int 0]), none, [0, 1, 2, 3, 4, 5, 6, 7, 8, 9, 10, 11, 12]⟩,
 ⟨some 66, .fad 1 4 34 25 (.t 65), none, [0, 1, 2, 3, 4, 5, 6, 7, 8, 9, 10, 11, 12, 13]⟩,
 ⟨none, .st lA0 (.t 66) (.t 64), none, [0, 1, 2, 3, 4, 5, 6, 7, 8, 9, 10, 11, 12, 13, 14]⟩] true 0)
 .skip))))
 (.seq (.ghost (.frz 3 3 34 lA1) (.region [] [oq 67 (.ldA 4 (.t 3)),
 ⟨none, .st lA0 (.t 4) (.t 67), none, []⟩] false 0))
 .ret))
 (.seq (.region [] [oq 69 (.icmp .eql (.t 15) (.c lI [.int 15])),
 oq 68 (.mov (.t 69))] false 0)
 (.cond (.t 68) (.seq (.region [] [oq 70 (.fad 3 1 25 23 (.t 3)),
 oq 71 (.ldC (.t 70)),
 oq 72 (.mkfO 61 [(.t 2)]),
 oq 73 (.bad),
 oq 74 (.bad),
 ⟨none, .bad, none, []⟩] false 0)
 (.seq .bad
 .ret))
 (.seq (.region [] [oq 77 (.icmp .eql (.t 15) (.c lI [.int 6])),
 oq 76 (.mov (.t 77))] false 0)
 (.cond (.t 76) (.seq (.region [] [oq 78 (.ldA 14 (.t 2)),
 oq 79 (.ldA 4 (.t 3)),
 oq 80 (.bad),
 ⟨none, .bad, none, []⟩] false 0)
 .ret)
 .skip))))))))))
 (.seq (.region [] [oq 81 (.ldA 4 (.t 3)),
 oq 82 (.fad 1 1 29 9 (.t 2)),
 oq 83 (.ldC (.t 82)),
 oq 84 (.icall 274 5 (get_Find_i14_en) (get_Find_i14_ex) [0, 2] 0 none [(.t 81), (.t 83)]),
 oq 8 (.mov (.t 84))] false 0)
 (.seq (.seq (.region [] [oq 85 (.fad 0 1 29 3 (.t 2)),
 oq 86 (.ldC (.t 85))] false 0)
 (.join [(.normal, { slots := [(3, .ptr 1 0), (4, .ptr 2 0)], objs := [.arr lA1, oS7, .var lA0], m := 1 })] (.block 3 (.seq (.region [] [oq 88 (.icmp .eql (.t 86) (.c lI [.int 2])),
 oq 87 (.mov (.t 88))] false 0)
 (.cond (.t 87) (.region [] [oq 89 (.fad 3 1 25 23 (.t 3)),
 ⟨some 90, .ldC (.t 89), none, [0]⟩,
 oq 91 (.mov (.t 8)),
 oq 92 (.fad 13 1 29 27 (.t 2)),
 ⟨some 93, .ldC (.t 92), none, [3]⟩,
 ⟨some 94, .iad 29 lA4 (.t 93) (.c lI [.int 0]), none, [3, 4]⟩,
 ⟨some 95, .ld lA4 29 (.t 94), none, [3, 4, 5]⟩,
 oq 96 (.fad 3 1 25 23 (.t 3)),
 ⟨some 97, .ldC (.t 96), none, [7]⟩,
 oq 98 (.mov (.t 8)),
 ⟨some 99, .iad 34 lA1 (.t 97) (.t 98), none, [7, 8, 9]⟩,
 ⟨some 100, .fad 1 4 34 25 (.t 99), none, [7, 8, 9, 10]⟩,
 ⟨some 101, .ld lA0 25 (.t 100), none, [7, 8, 9, 10, 11]⟩,
 ⟨some 102, .call 20 [lA4, lA0] [lA0] [(.t 95), (.t 101)], none, [3, 4, 5, 6, 7, 8, 9, 10, 11, 12]⟩,
 ⟨some 103, .iad 34 lA1 (.t 90) (.t 91), none, [0, 1, 2, 3, 4, 5, 6, 7, 8, 9, 10, 11, 12, 13]⟩,
 ⟨some 104, .fad 1 4 34 25 (.t 103), none, [0, 1, 2, 3, 4, 5, 6, 7, 8, 9, 10, 11, 12, 13, 14]⟩,
 ⟨none, .st lA0 (.t 104) (.t 102), none, [0, 1, 2, 3, 4, 5, 6, 7, 8, 9, 10, 11, 12, 13, 14, 15]⟩] true 0)
 (.seq (.region [] [oq 106 (.icmp .eql (.t 86) (.c lI [.int 3])),
 oq 105 (.mov (.t 106))] false 0)
 (.cond (.t 105) (.seq (.region [] [oq 107 (.mov (.t 8)),
 oq 108 (.icmp .geq (.t 107) (.c lI [.int 0]))] false 0)
 (.cond (.t 108) (.region [] [oq 109 (.fad 3 1 25 23 (.t 3)),
 oq 110 (.ldC (.t 109)),
 oq 111 (.mov (.t 8)),
 oq 112 (.fad 2 1 29 9 (.t 2)),
 oq 113 (.ldC (.t 112)),
 oq 114 (.iad 34 lA1 (.t 110) (.t 111)),
 oq 115 (.fad 0 1 34 9 (.t 114)),
 ⟨none, .st lS (.t 115) (.t 113), none, []⟩] false 0)
 .skip))
 (.seq (.region [] [oq 117 (.icmp .eql (.t 86) (.c lI [.int 4])),
 oq 116 (.mov (.t 117))] false 0)
 (.cond (.t 116) (.region [] [oq 118 (.fad 3 1 25 23 (.t 3)),
 oq 119 (.ldC (.t 118)),
 oq 120 (.mov (.t 8)),
 oq 121 (.mov (.t 8)),
 oq 122 (.ibin .add (.t 121) (.c lI [.int 1])),
 oq 123 (.icall 276 63 (slices_Delete_api_Field_i16_en) (slices_Delete_api_Field_i16_ex) [0] 0 none [(.t 119), (.t 120), (.t 122)]),
 oq 124 (.fad 3 1 25 23 (.t 3)),
 ⟨none, .stC (.t 124) (.t 123), none, []⟩] false 0)
 (.seq (.region [] [oq 126 (.icmp .eql (.t 86) (.c lI [.int 5])),
 oq 125 (.mov (.t 126))] false 0)
 (.cond (.t 125) (.region [] [oq 127 (.fad 3 1 25 23 (.t 3)),
 ⟨some 128, .ldC (.t 127), none, [0]⟩,
 oq 129 (.fad 1 1 29 9 (.t 2)),
 ⟨some 130, .ldC (.t 129), none, [2]⟩,
 oq 131 (.fad 8 4 29 25 (.t 2)),
 ⟨some 132, .ldA 4 (.t 131), none, [4]⟩,
 ⟨some 133, .icall 260 16 (value_Copy_i0_en) (value_Copy_i0_ex) [] 0 none [(.t 132)], none, [4, 5]⟩,
 ⟨some 134, .bld lA1 [.str [], .int 0, .int 0, .str [], .nils] [(0, 1, (.t 130)), (1, 4, (.t 133))], none, [2, 3, 4, 5, 6]⟩,
 ⟨some 135, .bsl 34 lA1 1 [.str [], .int 0, .int 0, .str [], .nils] [(0, (.t 134))], none, [2, 3, 4, 5, 6, 7]⟩,
 ⟨some 136, .app 0 34 lA1 72 (.t 128) (.t 135), none, [0, 1, 2, 3, 4, 5, 6, 7, 8]⟩,
 ⟨some 137, .fad 3 1 25 23 (.t 3), none, [0, 1, 2, 3, 4, 5, 6, 7, 8, 9]⟩,
 ⟨none, .stC (.t 137) (.t 136), none, [0, 1, 2, 3, 4, 5, 6, 7, 8, 9, 10]⟩] true 1)
 (.seq (.region [] [oq 139 (.icmp .eql (.t 86) (.c lI [.int 7])),
 oq 138 (.mov (.t 139))] false 0)
 (.cond (.t 138) (.seq (.region [] [oq 140 (.fad 3 1 25 23 (.t 3)),
 oq 141 (.ldC (.t 140)),
 oq 142 (.mov (.t 8)),
 oq 143 (.iad 34 lA1 (.t 141) (.t 142)),
 oq 144 (.fad 1 4 34 25 (.t 143)),
 oq 145 (.fad 3 1 25 23 (.t 144)),
 oq 146 (.ld (.one (.sl 34)) 23 (.t 145)),
 oq 9 (.mov (.t 146))] false 0)
 (.region [] [oq 147 (.fad 3 1 25 23 (.t 3)),
 oq 148 (.ldC (.t 147)),
 oq 149 (.mov (.t 8)),
 oq 150 (.mov (.t 8)),
 oq 151 (.ibin .add (.t 150) (.c lI [.int 1])),
 oq 152 (.icall 276 63 (slices_Delete_api_Field_i16_en) (slices_Delete_api_Field_i16_ex) [0] 0 none [(.t 148), (.t 149), (.t 151)]),
 oq 153 (.mov (.t 8)),
 oq 154 (.mov (.t 9)),
 oq 155 (.bad),
 oq 156 (.bad),
 ⟨none, .bad, none, []⟩] false 0))
 (.seq (.region [] [oq 158 (.icmp .eql (.t 86) (.c lI [.int 8])),
 oq 157 (.mov (.t 158))] false 0)
 (.cond (.t 157) (.seq (.region [] [oq 159 (.fad 3 1 25 23 (.t 3)),
 oq 160 (.ldC (.t 159)),
 oq 161 (.mov (.t 8)),
 oq 162 (.iad 34 lA1 (.t 160) (.t 161)),
 oq 163 (.ld lA1 34 (.t 162)),
 oq 10 (.allocO 0 lA1 [.str [], .int 0, .int 0, .str [], .nils]),
 ⟨none, .st lA1 (.t 10) (.t 163), none, []⟩] false 1)
 (.region [] [oq 164 (.fad 3 1 25 23 (.t 3)),
 ⟨some 165, .ldC (.t 164), none, [0]⟩,
 oq 166 (.mov (.t 8)),
 oq 167 (.mov (.t 8)),
 ⟨some 168, .ibin .add (.t 167) (.c lI [.int 1]), none, [3]⟩,
 ⟨some 169, .icall 276 63 (slices_Delete_api_Field_i16_en) (slices_Delete_api_Field_i16_ex) [0] 0 none [(.t 165), (.t 166), (.t 168)], none, [0, 1, 2, 3, 4]⟩,
 oq 170 (.fad 4 1 29 3 (.t 2)),
 ⟨some 171, .ldC (.t 170), none, [6]⟩,
 oq 172 (.ld lA1 34 (.t 10)),
 ⟨some 173, .bsl 34 lA1 1 [.str [], .int 0, .int 0, .str [], .nils] [(0, (.t 172))], none, [8]⟩,
 ⟨some 174, .bad, none, [0, 1, 2, 3, 4, 5, 6, 7, 8, 9]⟩,
 ⟨some 175, .bad, none, [0, 1, 2, 3, 4, 5, 6, 7, 8, 9, 10]⟩,
 ⟨none, .bad, none, [0, 1, 2, 3, 4, 5, 6, 7, 8, 9, 10, 11]⟩] true 0))
 (.seq (.region [] [oq 177 (.icmp .eql (.t 86) (.c lI [.int 9])),
 oq 176 (.mov (.t 177))] false 0)
 (.cond (.t 176) (.seq (.region [] [oq 179 (.fad 3 1 25 23 (.t 3)),
 ⟨some 180, .ldC (.t 179), none, [0]⟩,
 oq 181 (.mov (.t 8)),
 ⟨some 182, .iad 34 lA1 (.t 180) (.t 181), none, [0, 1, 2]⟩,
 ⟨some 183, .fad 1 4 34 25 (.t 182), none, [0, 1, 2, 3]⟩,
 ⟨some 184, .fad 2 1 25 9 (.t 183), none, [0, 1, 2, 3, 4]⟩,
 ⟨some 185, .ld lS 9 (.t 184), none, [0, 1, 2, 3, 4, 5]⟩,
 oq 186 (.fad 7 1 29 5 (.t 2)),
 ⟨some 187, .ldC (.t 186), none, [7]⟩,
 ⟨some 188, .bsl 5 lU 1 [.int 0] [(0, (.t 187))], none, [7, 8]⟩,
 ⟨some 189, .b2s 5 (.t 188), none, [7, 8, 9]⟩,
 ⟨some 190, .bad, none, [0, 1, 2, 3, 4, 5, 6, 7, 8, 9, 10]⟩,
 ⟨some 178, .bad, none, [0, 1, 2, 3, 4, 5, 6, 7, 8, 9, 10, 11]⟩,
 ⟨some 191, .bad, none, [0, 1, 2, 3, 4, 5, 6, 7, 8, 9, 10, 11, 12]⟩,
 ⟨some 192, .bad, none, [0, 1, 2, 3, 4, 5, 6, 7, 8, 9, 10, 11, 12]⟩,
 ⟨some 193, .bad, none, [0, 1, 2, 3, 4, 5, 6, 7, 8, 9, 10, 11, 12]⟩,
 ⟨some 11, .bad, none, [0, 1, 2, 3, 4, 5, 6, 7, 8, 9, 10, 11, 12, 13]⟩,
 ⟨some 12, .bad, none, [0, 1, 2, 3, 4, 5, 6, 7, 8, 9, 10, 11, 12, 13, 14, 16]⟩,
 ⟨some 13, .bad, none, [0, 1, 2, 3, 4, 5, 6, 7, 8, 9, 10, 11, 12, 13, 14, 15, 16, 17]⟩] true 0)
 (.seq .bad
 .bad))
 (.seq (.region [] [oq 214 (.icmp .eql (.t 86) (.c lI [.int 10])),
 oq 213 (.mov (.t 214))] false 0)
 (.cond (.t 213) (.seq (.region [] [oq 215 (.fad 3 1 25 23 (.t 3)),
 ⟨some 216, .ldC (.t 215), none, [0]⟩,
 oq 217 (.mov (.t 8)),
 ⟨some 218, .iad 34 lA1 (.t 216) (.t 217), none, [0, 1, 2]⟩,
 ⟨some 219, .fad 1 4 34 25 (.t 218), none, [0, 1, 2, 3]⟩,
 ⟨some 220, .fad 2 1 25 9 (.t 219), none, [0, 1, 2, 3, 4]⟩,
 ⟨some 221, .ld lS 9 (.t 220), none, [0, 1, 2, 3, 4, 5]⟩,
 oq 222 (.fad 7 1 29 5 (.t 2)),
 ⟨some 223, .ldC (.t 222), none, [7]⟩,
 ⟨some 224, .bsl 5 lU 1 [.int 0] [(0, (.t 223))], none, [7, 8]⟩,
 ⟨some 225, .b2s 5 (.t 224), none, [7, 8, 9]⟩,
 oq 226 (.fad 3 1 25 23 (.t 3)),
 ⟨some 227, .ldC (.t 226), none, [11]⟩,
 oq 228 (.mov (.t 8)),
 ⟨some 229, .ibin .add (.t 228) (.c lI [.int 1]), none, [13]⟩,
 ⟨some 230, .iad 34 lA1 (.t 227) (.t 229), none, [11, 12, 13, 14]⟩,
 ⟨some 231, .fad 1 4 34 25 (.t 230), none, [11, 12, 13, 14, 15]⟩,
 ⟨some 232, .fad 2 1 25 9 (.t 231), none, [11, 12, 13, 14, 15, 16]⟩,
 ⟨some 233, .ld lS 9 (.t 232), none, [11, 12, 13, 14, 15, 16, 17]⟩,
 ⟨some 234, .scat (.t 225) (.t 233), none, [7, 8, 9, 10, 11, 12, 13, 14, 15, 16, 17, 18]⟩,
 ⟨some 235, .scat (.t 221) (.t 234), none, [0, 1, 2, 3, 4, 5, 6, 7, 8, 9, 10, 11, 12, 13, 14, 15, 16, 17, 18, 19]⟩,
 ⟨some 236, .iad 34 lA1 (.t 216) (.t 217), none, [0, 1, 2, 3, 4, 5, 6, 7, 8, 9, 10, 11, 12, 13, 14, 15, 16, 17, 18, 19, 20]⟩,
 ⟨some 237, .fad 1 4 34 25 (.t 236), none, [0, 1, 2, 3, 4, 5, 6, 7, 8, 9, 10, 11, 12, 13, 14, 15, 16, 17, 18, 19, 20, 21]⟩,
 ⟨some 238, .fad 2 1 25 9 (.t 237), none, [0, 1, 2, 3, 4, 5, 6, 7, 8, 9, 10, 11, 12, 13, 14, 15, 16, 17, 18, 19, 20, 21, 22]⟩,
 ⟨none, .st lS (.t 238) (.t 235), none, [0, 1, 2, 3, 4, 5, 6, 7, 8, 9, 10, 11, 12, 13, 14, 15, 16, 17, 18, 19, 20, 21, 22, 23]⟩] true 0)
 (.region [] [oq 239 (.fad 3 1 25 23 (.t 3)),
 oq 240 (.ldC (.t 239)),
 oq 241 (.mov (.t 8)),
 oq 242 (.ibin .add (.t 241) (.c lI [.int 1])),
 oq 243 (.mov (.t 8)),
 oq 244 (.ibin .add (.t 243) (.c lI [.int 2])),
 oq 245 (.icall 276 63 (slices_Delete_api_Field_i16_en) (slices_Delete_api_Field_i16_ex) [0] 0 none [(.t 240), (.t 242), (.t 244)]),
 oq 246 (.fad 3 1 25 23 (.t 3)),
 ⟨none, .stC (.t 246) (.t 245), none, []⟩] false 0))
 .skip)))))))))))))))))))
 (.seq (.ghost (.frz 3 3 34 lA1) (.region [] [oq 247 (.ldA 4 (.t 3)),
 ⟨none, .st lA0 (.t 4) (.t 247), none, []⟩] false 0))
 .ret))))) }

def get_Of_h0 : Shape := { slots := [(3, .ptr 0 0), (4, .ptr 1 0), (16, .d (.one (.sl 29))), (17, .d lI), (18, .d lI)], objs := [oS1, .var lA0] }
def get_Of_o0 : List (Exit' × Shape) := [(.exit 1, { slots := [(3, .ptr 0 0), (4, .ptr 1 0)], objs := [oS1, .var lA0] })]
def get_Of_c0 : ACode := (.seq (.region [] [oq 19 (.icmp .lss (.t 18) (.t 17))] false 0)
 (.seq (.cond (.t 19) .skip
 (.exit 1))
 (.seq (.block 2 (.seq (.region [] [oq 20 (.iad 29 lA4 (.t 16) (.t 18)),
 oq 21 (.ld lA4 29 (.t 20)),
 oq 6 (.allocO 0 lA4 [.int 0, .str [], .str [], .nils, .int 0, .int 0, .int 0, .int 0, .int 0, .int 0, .str [], .nils, .nils, .nils]),
 ⟨none, .st lA4 (.t 6) (.t 21), none, []⟩] false 1)
 (.region [] [oq 22 (.ld lA4 29 (.t 6)),
 oq 23 (.ldA 4 (.t 3)),
 oq 24 (.bad),
 ⟨none, .bad, none, []⟩] false 0)))
 .bad)))
def get_Of_h1 : Shape := { slots := [(2, .ptr 0 0), (3, .ptr 1 0), (4, .ptr 2 0), (61, .d (.one (.sl 74))), (62, .d lI), (63, .d lI)], objs := [oS2, oS1, .var lA0] }
def get_Of_o1 : List (Exit' × Shape) := [(.exit 3, { slots := [(2, .ptr 0 0), (3, .ptr 1 0), (4, .ptr 2 0)], objs := [oS2, oS1, .var lA0] }), (.ret, { slots := [(4, .ptr 0 0)], objs := [.var lA0] })]
def get_Of_c1 : ACode := (.seq (.region [] [oq 64 (.icmp .lss (.t 63) (.t 62))] false 0)
 (.seq (.cond (.t 64) .skip
 (.exit 3))
 (.seq (.block 4 (.seq (.region [] [oq 65 (.iad 74 lA6 (.t 61) (.t 63)),
 oq 66 (.ld lA6 74 (.t 65)),
 oq 8 (.allocO 0 lA6 [.int 0, .int 0, .str [], .nils, .int 0, .int 0, .str [], .nils]),
 ⟨none, .st lA6 (.t 8) (.t 66), none, []⟩] false 1)
 (.seq (.region [] [oq 67 (.iadA 2 74 25 lA0 (.t 8) (.c lI [.int 0])),
 oq 68 (.ld lA0 25 (.t 67)),
 oq 69 (.ldA 4 (.t 3)),
 oq 70 (.call 9 [lA0, lA0] [lB] [(.t 68), (.t 69)])] false 0)
 (.cond (.t 70) (.seq (.region [] [oq 71 (.iadA 2 74 25 lA0 (.t 8) (.c lI [.int 1])),
 oq 72 (.ld lA0 25 (.t 71)),
 ⟨none, .st lA0 (.t 4) (.t 72), none, []⟩] false 0)
 .ret)
 .skip))))
 (.region [] [oq 73 (.ibin .add (.t 63) (.c lI [.int 1])),
 oq 63 (.mov (.t 73))] false 0))))
def get_Of_a : AFun := { ps := [lA4, lA0], rs := [lA0], res := [(true, 4, none)], body := (.seq (.region [] [oq 2 (.boxA 0 (.t 0)),
 oq 3 (.boxA 1 (.t 1)),
 oq 4 (.allocO 2 lA0 [.int 0, .int 0, .str [], .nils])] false 3)
 (.seq (.seq (.region [] [oq 11 (.fad 0 1 29 3 (.t 2)),
 oq 12 (.ldC (.t 11))] false 0)
 (.block 0 (.seq (.region [] [oq 14 (.icmp .eql (.t 12) (.c lI [.int 1])),
 oq 13 (.mov (.t 14))] false 0)
 (.cond (.t 13) (.seq (.seq (.region [] [oq 15 (.fad 13 1 29 27 (.t 2)),
 oq 16 (.ldC (.t 15)),
 oq 17 (.lenL (.t 16)),
 oq 18 (.mov (.c lI [.int 0]))] false 0)
 (.block 1 (.loop get_Of_h0 get_Of_o0 get_Of_c0)))
 (.seq (.region [] [oq 26 (.ldA 4 (.t 3)),
 ⟨none, .st lA0 (.t 4) (.t 26), none, []⟩] false 0)
 .ret))
 (.seq (.region [] [oq 28 (.icmp .eql (.t 12) (.c lI [.int 16])),
 oq 27 (.mov (.t 28))] false 0)
 (.cond (.t 27) (.seq (.region [] [oq 29 (.fad 1 1 29 9 (.t 2)),
 oq 30 (.ldC (.t 29)),
 oq 31 (.ldA 4 (.t 3)),
 oq 32 (.bld lA1 [.str [], .int 0, .int 0, .str [], .nils] [(0, 1, (.t 30)), (1, 4, (.t 31))]),
 oq 33 (.bsl 34 lA1 1 [.str [], .int 0, .int 0, .str [], .nils] [(0, (.t 32))]),
 oq 34 (.bld lA0 [.int 0, .int 0, .str [], .nils] [(0, 1, (.c lI [.int 7])), (3, 1, (.t 33))]),
 ⟨none, .st lA0 (.t 4) (.t 34), none, []⟩] false 0)
 .ret)
 (.seq (.region [] [oq 36 (.icmp .eql (.t 12) (.c lI [.int 17])),
 oq 35 (.mov (.t 36))] false 0)
 (.cond (.t 35) (.seq (.region [] [oq 37 (.fad 3 1 25 23 (.t 3)),
 oq 38 (.ldC (.t 37)),
 oq 39 (.iad 34 lA1 (.t 38) (.c lI [.int 0])),
 oq 40 (.fad 1 4 34 25 (.t 39)),
 oq 41 (.ld lA0 25 (.t 40)),
 ⟨none, .st lA0 (.t 4) (.t 41), none, []⟩] false 0)
 .ret)
 (.seq (.region [] [oq 43 (.icmp .eql (.t 12) (.c lI [.int 18])),
 oq 42 (.mov (.t 43))] false 0)
 (.cond (.t 42) (.seq (.seq (.region [] [oq 44 (.fad 3 1 25 23 (.t 3)),
 oq 45 (.ldC (.t 44)),
 oq 46 (.iad 34 lA1 (.t 45) (.c lI [.int 0])),
 oq 47 (.fad 0 1 34 9 (.t 46)),
 oq 48 (.ld lS 9 (.t 47)),
 oq 49 (.scmp .eql (.t 48) (.c lS [.str ([110, 111, 110, 101] : List UInt8)]))] false 0)
 (.cond (.t 49) (.seq (.region [] [oq 50 (.fad 8 4 29 25 (.t 2)),
 oq 51 (.ldA 4 (.t 50)),
 oq 52 (.icall 260 16 (value_Copy_i0_en) (value_Copy_i0_ex) [] 0 none [(.t 51)]),
 ⟨none, .st lA0 (.t 4) (.t 52), none, []⟩] false 0)
 .ret)
 .skip))
 (.seq (.region [] [oq 53 (.fad 3 1 25 23 (.t 3)),
 oq 54 (.ldC (.t 53)),
 oq 55 (.iad 34 lA1 (.t 54) (.c lI [.int 0])),
 oq 56 (.fad 1 4 34 25 (.t 55)),
 oq 57 (.ld lA0 25 (.t 56)),
 ⟨none, .st lA0 (.t 4) (.t 57), none, []⟩] false 0)
 .ret))
 (.seq (.region [] [oq 59 (.icmp .eql (.t 12) (.c lI [.int 11])),
 oq 58 (.mov (.t 59))] false 0)
 (.cond (.t 58) (.seq (.region [] [oq 60 (.fad 12 1 29 26 (.t 2)),
 oq 61 (.ldC (.t 60)),
 oq 62 (.lenL (.t 61)),
 oq 63 (.mov (.c lI [.int 0]))] false 0)
 (.block 3 (.loop get_Of_h1 get_Of_o1 get_Of_c1)))
 (.seq (.region [] [oq 75 (.icmp .eql (.t 12) (.c lI [.int 12])),
 oq 74 (.mov (.t 75))] false 0)
 (.cond (.t 74) (.seq (.region [] [oq 77 (.fad 2 1 25 9 (.t 3)),
 oq 78 (.ldC (.t 77)),
 oq 79 (.bad),
 oq 76 (.bad),
 oq 80 (.bad),
 oq 81 (.bad),
 oq 9 (.bad),
 oq 10 (.bad)] false 0)
 (.seq .bad
 .ret))
 .skip))))))))))))))
 (.seq (.region [] [oq 84 (.fad 3 1 25 23 (.t 3)),
 oq 85 (.ldC (.t 84)),
 oq 86 (.icall 261 23 (slices_Clone_api_Field_i1_en) (slices_Clone_api_Field_i1_ex) [] 0 none [(.t 85)]),
 oq 87 (.fad 3 1 25 23 (.t 3)),
 ⟨none, .stC (.t 87) (.t 86), none, []⟩] false 1)
 (.seq (.region [] [oq 88 (.ldA 14 (.t 2)),
 oq 89 (.ldA 4 (.t 3)),
 oq 90 (.icall 273 36 (get_parts_i13_en) (get_parts_i13_ex) [3] 0 none [(.t 88), (.t 89)]),
 ⟨none, .st lA0 (.t 4) (.t 90), none, []⟩] false 0)
 .ret)))) }

def get_Run_a : AFun := { ps := [(.one (.sl 83)), lA4, lA3, lA0], rs := [lA0, lI], res := [(true, 8, none), (false, 9, none)], body := (.seq (.region [] [oq 5 (.boxP lA4 29 (.t 1)),
 oq 6 (.boxP lA3 46 (.t 2)),
 oq 7 (.boxA 0 (.t 3)),
 oq 8 (.allocO 1 lA0 [.int 0, .int 0, .str [], .nils]),
 oq 9 (.mov (.c lI [.int 0]))] false 2)
 (.seq (.seq (.region [] [oq 14 (.mov (.t 0)),
 oq 15 (.ld lA4 29 (.t 5)),
 oq 16 (.ld lA3 46 (.t 6)),
 oq 17 (.call 18 [(.one (.sl 83)), lA4, lA3] [lA3, lI] [(.t 14), (.t 15), (.t 16)]),
 oq 13 (.mov (.t 17)),
 oq 18 (.ext 0 (.t 13)),
 oq 19 (.ext 1 (.t 13)),
 oq 10 (.allocO 0 lA3 [.int 0, .str [], .int 0, .int 0, .str [], .nils]),
 ⟨none, .st lA3 (.t 10) (.t 18), none, []⟩,
 oq 11 (.mov (.t 19))] false 1)
 (.seq (.region [] [oq 20 (.mov (.t 11)),
 oq 21 (.icmp .neq (.t 20) (.c lI [.int 0]))] false 0)
 (.cond (.t 21) (.seq (.region [] [oq 22 (.bld lA0 [.int 0, .int 0, .str [], .nils] []),
 oq 23 (.mov (.t 11)),
 ⟨none, .st lA0 (.t 8) (.t 22), none, []⟩,
 oq 9 (.mov (.t 23))] false 0)
 .ret)
 .skip)))
 (.seq (.seq (.region [] [oq 24 (.mov (.t 0)),
 oq 25 (.ld lA3 46 (.t 6)),
 oq 26 (.ldA 4 (.t 7)),
 oq 27 (.call 19 [(.one (.sl 83)), lA3, lA0] [lB] [(.t 24), (.t 25), (.t 26)]),
 oq 28 (.not (.t 27))] false 0)
 (.cond (.t 28) (.seq (.region [] [oq 29 (.bld lA0 [.int 0, .int 0, .str [], .nils] []),
 ⟨none, .st lA0 (.t 8) (.t 29), none, []⟩,
 oq 9 (.mov (.c lI [.int 8]))] false 0)
 .ret)
 .skip))
 (.seq (.region [] [oq 30 (.ld lA4 29 (.t 5)),
 oq 31 (.ldA 4 (.t 7)),
 ⟨some 32, .icall 260 16 (value_Copy_i0_en) (value_Copy_i0_ex) [] 0 none [(.t 31)], none, [1]⟩,
 ⟨some 33, .call 20 [lA4, lA0] [lA0] [(.t 30), (.t 32)], none, [0, 1, 2]⟩,
 oq 12 (.allocO 0 lA0 [.int 0, .int 0, .str [], .nils]),
 ⟨none, .st lA0 (.t 12) (.t 33), none, [0, 1, 2, 3, 4]⟩] true 1)
 (.seq (.seq (.region [] [oq 34 (.ld lA0 25 (.t 12)),
 oq 35 (.call 21 [lA0] [lI] [(.t 34)]),
 oq 36 (.icmp .neq (.t 35) (.c lI [.int 0]))] false 0)
 (.cond (.t 36) (.seq (.region [] [oq 37 (.bld lA0 [.int 0, .int 0, .str [], .nils] []),
 ⟨none, .st lA0 (.t 8) (.t 37), none, []⟩,
 oq 9 (.mov (.c lI [.int 2]))] false 0)
 .ret)
 .skip))
 (.seq (.region [] [oq 38 (.ld lA0 25 (.t 12)),
 ⟨none, .st lA0 (.t 8) (.t 38), none, []⟩,
 oq 9 (.mov (.c lI [.int 0]))] false 0)
 .ret)))))) }

def claplaw3_drop_a : AFun := { ps := [], rs := [lA4], res := [(true, 0, none)], body := (.seq (.region [] [oq 0 (.allocO 0 lA4 [.int 0, .str [], .str [], .nils, .int 0, .int 0, .int 0, .int 0, .int 0, .int 0, .str [], .nils, .nils, .nils])] false 1)
 (.seq (.region [] [oq 1 (.call 13 [lI] [lA0] [(.c lI [.int 7])]),
 oq 2 (.bld lA4 [.int 0, .str [], .str [], .nils, .int 0, .int 0, .int 0, .int 0, .int 0, .int 0, .str [], .nils, .nils, .nils] [(0, 1, (.c lI [.int 4])), (1, 1, (.c lS [.str ([98] : List UInt8)])), (8, 4, (.t 1))]),
 ⟨none, .st lA4 (.t 0) (.t 2), none, []⟩] false 0)
 .ret)) }

def claplaw3_digit_a : AFun := { ps := [], rs := [lA3], res := [(true, 0, none)], body := (.seq (.region [] [oq 0 (.allocO 0 lA3 [.int 0, .str [], .int 0, .int 0, .str [], .nils])] false 1)
 (.seq (.region [] [oq 1 (.bld lA3 [.int 0, .str [], .int 0, .int 0, .str [], .nils] [(0, 1, (.c lI [.int 2])), (3, 1, (.c lI [.int 9]))]),
 ⟨none, .st lA3 (.t 0) (.t 1), none, []⟩] false 0)
 .ret)) }

def claplaw3_pair_a : AFun := { ps := [], rs := [lA3], res := [(true, 0, none)], body := (.seq (.region [] [oq 0 (.allocO 0 lA3 [.int 0, .str [], .int 0, .int 0, .str [], .nils])] false 1)
 (.seq (.region [] [oq 1 (.call 22 [] [lA3] []),
 oq 2 (.bld lA2 [.str [], .int 0, .str [], .int 0, .int 0, .str [], .nils] [(0, 1, (.c lS [.str ([97] : List UInt8)])), (1, 6, (.t 1))]),
 oq 3 (.call 22 [] [lA3] []),
 oq 4 (.bld lA2 [.str [], .int 0, .str [], .int 0, .int 0, .str [], .nils] [(0, 1, (.c lS [.str ([98] : List UInt8)])), (1, 6, (.t 3))]),
 oq 5 (.bsl 61 lA2 2 [.str [], .int 0, .str [], .int 0, .int 0, .str [], .nils] [(0, (.t 2)), (1, (.t 4))]),
 oq 6 (.bld lA3 [.int 0, .str [], .int 0, .int 0, .str [], .nils] [(0, 1, (.c lI [.int 6])), (5, 1, (.t 5))]),
 ⟨none, .st lA3 (.t 0) (.t 6), none, []⟩] false 0)
 .ret)) }

def claplaw3_seen_a : AFun := { ps := [], rs := [lB], res := [(false, 0, none)], body := (.seq (.region [] [oq 0 (.mov (.c lB [.bool false]))] false 0)
 (.seq (.region [] [oq 4 (.call 11 [] [lA4] []),
 oq 5 (.call 12 [] [lA3] []),
 oq 6 (.call 6 [lI, lI] [lA0] [(.c lI [.int 1]), (.c lI [.int 2])]),
 oq 7 (.call 10 [(.one (.sl 83)), lA4, lA3, lA0] [lA0, lI] [(.c (.one (.sl 83)) [.nils]), (.t 4), (.t 5), (.t 6)]),
 oq 3 (.mov (.t 7)),
 oq 8 (.ext 0 (.t 3)),
 oq 9 (.ext 1 (.t 3)),
 oq 1 (.allocO 0 lA0 [.int 0, .int 0, .str [], .nils]),
 ⟨none, .st lA0 (.t 1) (.t 8), none, []⟩,
 oq 2 (.mov (.t 9))] false 1)
 (.seq (.region [] [oq 10 (.mov (.t 2)),
 ⟨some 11, .icmp .eql (.t 10) (.c lI [.int 0]), none, [0]⟩,
 ⟨some 12, .mov (.t 11), none, [0, 1]⟩,
 ⟨some 13, .fad 3 1 25 23 (.t 1), some (12, true), [0, 1, 2]⟩,
 ⟨some 14, .ld (.one (.sl 34)) 23 (.t 13), some (12, true), [0, 1, 2, 3]⟩,
 ⟨some 15, .lenL (.t 14), some (12, true), [0, 1, 2, 3, 4]⟩,
 ⟨some 16, .icmp .eql (.t 15) (.c lI [.int 1]), some (12, true), [0, 1, 2, 3, 4, 5]⟩,
 ⟨some 17, .pick (.t 12) (.t 16) (.c lB [.bool false]), none, [0, 1, 2, 3, 4, 5, 6]⟩,
 ⟨some 18, .mov (.t 17), none, [0, 1, 2, 3, 4, 5, 6, 7]⟩,
 ⟨some 19, .fad 3 1 25 23 (.t 1), some (18, true), [0, 1, 2, 3, 4, 5, 6, 7, 8]⟩,
 ⟨some 20, .ld (.one (.sl 34)) 23 (.t 19), some (18, true), [0, 1, 2, 3, 4, 5, 6, 7, 8, 9]⟩,
 ⟨some 21, .iad 34 lA1 (.t 20) (.c lI [.int 0]), some (18, true), [0, 1, 2, 3, 4, 5, 6, 7, 8, 9, 10]⟩,
 ⟨some 22, .fad 1 4 34 25 (.t 21), some (18, true), [0, 1, 2, 3, 4, 5, 6, 7, 8, 9, 10, 11]⟩,
 ⟨some 23, .ld lA0 25 (.t 22), some (18, true), [0, 1, 2, 3, 4, 5, 6, 7, 8, 9, 10, 11, 12]⟩,
 ⟨some 24, .call 13 [lI] [lA0] [(.c lI [.int 1])], some (18, true), [0, 1, 2, 3, 4, 5, 6, 7, 8]⟩,
 ⟨some 25, .call 9 [lA0, lA0] [lB] [(.t 23), (.t 24)], some (18, true), [0, 1, 2, 3, 4, 5, 6, 7, 8, 9, 10, 11, 12, 13, 14]⟩,
 ⟨some 26, .pick (.t 18) (.t 25) (.c lB [.bool false]), none, [0, 1, 2, 3, 4, 5, 6, 7, 8, 9, 10, 11, 12, 13, 14, 15]⟩,
 ⟨some 0, .mov (.t 26), none, [0, 1, 2, 3, 4, 5, 6, 7, 8, 9, 10, 11, 12, 13, 14, 15, 16]⟩] true 0)
 .ret))) }

def get_Find_a : AFun := { ps := [lA0, lS], rs := [lI], res := [(false, 4, none)], body := (.seq (.region [] [oq 2 (.boxP lA0 25 (.t 0)),
 oq 3 (.boxP lS 9 (.t 1)),
 oq 4 (.mov (.c lI [.int 0]))] false 0)
 (.seq (.region [] [oq 5 (.fad 3 1 25 23 (.t 2)),
 oq 6 (.ld (.one (.sl 34)) 23 (.t 5)),
 oq 7 (.mkf 15 50 [.ref 9] [(.t 3)]),
 oq 8 (.call 14 [(.one (.sl 34)), (.one (.fn 50))] [lI] [(.t 6), (.t 7)]),
 oq 4 (.mov (.t 8))] false 0)
 .ret)) }
/-- clapperbridge/get.Find -/
noncomputable def get_Find (E : Env) (p0 : Row) (p1 : List UInt8) : Option (List Row) :=
 (E.pc n_slices_IndexFunc_api_Field [[at_ p0 3], [.fn n_get_Find_1 [.dp [.str p1]]]]).bind fun y1 =>
 some [[.int ((at_ (rowsAt y1 0) 0).toI)]]
theorem get_Find_eq (E : Env) (p0 : Row) (p1 : List UInt8) : runP E get_Find_a [p0, [.str p1]] = get_Find E p0 p1 := by kernel_rfl

def value_Get_h0 : Shape := { slots := [(1, .d lS), (2, .d (.one (.ref 25))), (4, .ptr 0 0), (9, .d (.one (.sl 34))), (10, .d lI), (11, .d lI)], objs := [.var lA0] }
def value_Get_o0 : List (Exit' × Shape) := [(.exit 0, { slots := [(4, .ptr 0 0)], objs := [.var lA0] }), (.ret, { slots := [(4, .ptr 0 0), (5, .d lB)], objs := [.var lA0] })]
def value_Get_c0 : ACode := (.seq (.region [] [oq 12 (.icmp .lss (.t 11) (.t 10))] false 0)
 (.seq (.cond (.t 12) .skip
 (.exit 0))
 (.seq (.block 1 (.seq (.region [] [oq 13 (.iad 34 lA1 (.t 9) (.t 11)),
 oq 14 (.ld lA1 34 (.t 13)),
 oq 7 (.allocA 0 [some ((.str), .str []), some ((.int .i64), .int 0), some ((.int .i64), .int 0), some ((.str), .str []), some ((.sl 34), .nils)]),
 ⟨none, .stA 5 (.t 7) (.t 14), none, []⟩] false 1)
 (.seq (.region [] [oq 15 (.fad 0 1 34 9 (.t 7)),
 oq 16 (.ldC (.t 15)),
 oq 17 (.mov (.t 1)),
 oq 18 (.scmp .eql (.t 16) (.t 17)),
 oq 19 (.mov (.t 18)),
 ⟨some 20, .fad 0 1 25 3 (.t 2), some (19, true), []⟩,
 ⟨some 21, .ld lI 3 (.t 20), some (19, true), []⟩,
 ⟨some 22, .icmp .neq (.t 21) (.c lI [.int 8]), some (19, true), []⟩,
 oq 23 (.pick (.t 19) (.t 22) (.c lB [.bool false]))] false 0)
 (.cond (.t 23) (.seq (.region [] [oq 24 (.fad 1 4 34 25 (.t 7)),
 oq 25 (.ldA 4 (.t 24)),
 oq 26 (.icall 260 16 (value_Copy_i0_en) (value_Copy_i0_ex) [] 0 none [(.t 25)]),
 ⟨none, .st lA0 (.t 4) (.t 26), none, []⟩,
 oq 5 (.mov (.c lB [.bool true]))] false 0)
 .ret)
 .skip))))
 (.region [] [oq 27 (.ibin .add (.t 11) (.c lI [.int 1])),
 oq 11 (.mov (.t 27))] false 0))))
noncomputable def value_Get_l0 (E : Env) (v0 : List UInt8) (v1 : C) (v2 : C) (v3 : Int) (v4 : Int) (v5 : Row) : Option (Nat × List PV) := E.fix (stepOf E value_Get_c0 value_Get_h0 value_Get_o0) [.r [.str v0], .r [v1], .r [v2], .r [.int v3], .r [.int v4], .r v5]
noncomputable def value_Get_b0 (E : Env) (X : List UInt8 → C → C → Int → Int → Row → Option (Nat × List PV)) (v0 : List UInt8) (v1 : C) (v2 : C) (v3 : Int) (v4 : Int) (v5 : Row) : Option (Nat × List PV) :=
 if (decide (v4 < v3)) = true then
 if (0 : Int) ≤ v4 ∧ v4 < (v2.rows.length : Int) then
 let K1 : Bool → Option (Nat × List PV) := fun q2 =>
 if q2 = true then
 (E.ic value_Copy_i0_n [.r [.int ((at_ (rowsAt v2.rows v4.toNat) 1).toI)], .r [.int ((at_ (rowsAt v2.rows v4.toNat) 2).toI)], .r [.str ((at_ (rowsAt v2.rows v4.toNat) 3).toS)], .r [at_ (rowsAt v2.rows v4.toNat) 4]]).bind fun y3 =>
 some (1, [.r [.bool true], .r (gR 0 y3)])
 else
 X v0 v1 v2 v3 (Go.IntKind.i64.wrap (v4 + 1)) v5
 if (((at_ (rowsAt v2.rows v4.toNat) 0).toS) == v0) = true then
 if v1.isDp = true then
 K1 (((at_ v1.dpRow 0).toI) != 8)
 else none
 else
 K1 false
 else none
 else
 some (0, [.r v5])
theorem value_Get_s0 (E : Env) (X : List PV → Option (Nat × List PV)) (v0 : List UInt8) (v1 : C) (v2 : C) (v3 : Int) (v4 : Int) (v5 : Row) : stepOf E value_Get_c0 value_Get_h0 value_Get_o0 X [.r [.str v0], .r [v1], .r [v2], .r [.int v3], .r [.int v4], .r v5] = value_Get_b0 E (fun (v0 : List UInt8) (v1 : C) (v2 : C) (v3 : Int) (v4 : Int) (v5 : Row) => X [.r [.str v0], .r [v1], .r [v2], .r [.int v3], .r [.int v4], .r v5]) v0 v1 v2 v3 v4 v5 := by kernel_rfl
def value_Get_a : AFun := { ps := [lA0, lS], rs := [lA0, lB], res := [(true, 4, none), (false, 5, none)], body := (.seq (.region [] [oq 2 (.boxP lA0 25 (.t 0)),
 oq 4 (.allocO 0 lA0 [.int 0, .int 0, .str [], .nils]),
 oq 5 (.mov (.c lB [.bool false]))] false 1)
 (.seq (.seq (.region [] [oq 8 (.fad 3 1 25 23 (.t 2)),
 oq 9 (.ld (.one (.sl 34)) 23 (.t 8)),
 oq 10 (.lenL (.t 9)),
 oq 11 (.mov (.c lI [.int 0]))] false 0)
 (.block 0 (.loop value_Get_h0 value_Get_o0 value_Get_c0)))
 (.seq (.region [] [oq 28 (.bld lA0 [.int 0, .int 0, .str [], .nils] []),
 ⟨none, .st lA0 (.t 4) (.t 28), none, []⟩,
 oq 5 (.mov (.c lB [.bool false]))] false 0)
 .ret))) }
/-- clapperbridge/value.Get -/
noncomputable def value_Get (E : Env) (p0 : Row) (p1 : List UInt8) : Option (List Row) :=
 (value_Get_l0 E p1 (.dp p0) (at_ p0 3) (((at_ p0 3).rows).length : Int) 0 [.int 0, .int 0, .str [], .nils]).bind fun x4 =>
 match x4.1 with
 | 0 =>
 some [[.int 0, .int 0, .str [], .nils], [.bool false]]
 | i5 + 1 =>
 some [gR 1 x4.2, [.bool (gB 0 x4.2)]]
theorem value_Get_eq (E : Env) (p0 : Row) (p1 : List UInt8) : runP E value_Get_a [p0, [.str p1]] = value_Get E p0 p1 := by kernel_rfl

def get_Chosen_a : AFun := { ps := [lA4, lA0], rs := [lB], res := [(false, 4, none)], body := (.seq (.region [] [oq 2 (.boxP lA4 29 (.t 0)),
 oq 3 (.boxP lA0 25 (.t 1)),
 oq 4 (.mov (.c lB [.bool false]))] false 0)
 (.seq (.region [] [oq 8 (.ld lA0 25 (.t 3)),
 oq 9 (.fad 1 1 29 9 (.t 2)),
 oq 10 (.ld lS 9 (.t 9)),
 oq 11 (.call 7 [lA0, lS] [lA0, lB] [(.t 8), (.t 10)]),
 oq 7 (.mov (.t 11)),
 oq 12 (.ext 0 (.t 7)),
 oq 13 (.ext 1 (.t 7)),
 oq 5 (.allocO 0 lA0 [.int 0, .int 0, .str [], .nils]),
 ⟨none, .st lA0 (.t 5) (.t 12), none, []⟩,
 oq 6 (.mov (.t 13))] false 1)
 (.seq (.region [] [oq 14 (.mov (.t 6)),
 oq 15 (.mov (.t 14)),
 ⟨some 16, .ld lA0 25 (.t 5), some (15, true), []⟩,
 ⟨some 17, .fad 8 4 29 25 (.t 2), some (15, true), []⟩,
 ⟨some 18, .ld lA0 25 (.t 17), some (15, true), []⟩,
 ⟨some 19, .call 9 [lA0, lA0] [lB] [(.t 16), (.t 18)], some (15, true), []⟩,
 oq 20 (.pick (.t 15) (.t 19) (.c lB [.bool false])),
 oq 4 (.mov (.t 20))] false 0)
 .ret))) }
/-- clapperbridge/get.Chosen -/
noncomputable def get_Chosen (E : Env) (p0 : Row) (p1 : Row) : Option (List Row) :=
 (E.pc n_value_Get [p1, [.str ((at_ p0 1).toS)]]).bind fun y1 =>
 let K2 : Bool → Option (List Row) := fun q3 =>
 some [[.bool q3]]
 if ((at_ (rowsAt y1 1) 0).toB) = true then
 (E.pc n_value_Same [rowsAt y1 0, [at_ p0 8, at_ p0 9, at_ p0 10, at_ p0 11]]).bind fun y4 =>
 K2 ((at_ (rowsAt y4 0) 0).toB)
 else
 K2 false
theorem get_Chosen_eq (E : Env) (p0 : Row) (p1 : Row) : runP E get_Chosen_a [p0, p1] = get_Chosen E p0 p1 := by kernel_rfl

def claplaw3_GetFields_h0 : Shape := { slots := [(2, .d lS), (3, .d (.one (.ref 29))), (4, .d (.one (.ref 25))), (7, .d lI), (20, .d (.one (.sl 34))), (21, .d lI), (22, .d lI)], objs := [] }
def claplaw3_GetFields_o0 : List (Exit' × Shape) := [(.exit 0, { slots := [(2, .d lS), (3, .d (.one (.ref 29))), (4, .d (.one (.ref 25))), (7, .d lI)], objs := [] })]
def claplaw3_GetFields_c0 : ACode := (.seq (.region [] [oq 23 (.icmp .lss (.t 22) (.t 21))] false 0)
 (.seq (.cond (.t 23) .skip
 (.exit 0))
 (.seq (.block 1 (.seq (.region [] [oq 24 (.mov (.t 22)),
 oq 25 (.iad 34 lA1 (.t 20) (.t 22)),
 oq 26 (.ld lA1 34 (.t 25)),
 oq 9 (.allocO 0 lA1 [.str [], .int 0, .int 0, .str [], .nils]),
 oq 8 (.mov (.t 24)),
 ⟨none, .st lA1 (.t 9) (.t 26), none, []⟩] false 1)
 (.seq (.region [] [oq 27 (.fad 0 1 34 9 (.t 9)),
 oq 28 (.ld lS 9 (.t 27)),
 oq 29 (.mov (.t 2)),
 oq 30 (.scmp .eql (.t 28) (.t 29)),
 oq 31 (.mov (.t 30)),
 ⟨some 32, .mov (.t 7), some (31, true), []⟩,
 ⟨some 33, .icmp .lss (.t 32) (.c lI [.int 0]), some (31, true), []⟩,
 oq 34 (.pick (.t 31) (.t 33) (.c lB [.bool false]))] false 0)
 (.cond (.t 34) (.region [] [oq 35 (.mov (.t 8)),
 oq 7 (.mov (.t 35))] false 0)
 .skip))))
 (.region [] [oq 36 (.ibin .add (.t 22) (.c lI [.int 1])),
 oq 22 (.mov (.t 36))] false 0))))
noncomputable def claplaw3_GetFields_l0 (E : Env) (v0 : List UInt8) (v1 : C) (v2 : C) (v3 : Int) (v4 : C) (v5 : Int) (v6 : Int) : Option (Nat × List PV) := E.fix (stepOf E claplaw3_GetFields_c0 claplaw3_GetFields_h0 claplaw3_GetFields_o0) [.r [.str v0], .r [v1], .r [v2], .r [.int v3], .r [v4], .r [.int v5], .r [.int v6]]
noncomputable def claplaw3_GetFields_b0 (E : Env) (X : List UInt8 → C → C → Int → C → Int → Int → Option (Nat × List PV)) (v0 : List UInt8) (v1 : C) (v2 : C) (v3 : Int) (v4 : C) (v5 : Int) (v6 : Int) : Option (Nat × List PV) :=
 if (decide (v6 < v5)) = true then
 if (0 : Int) ≤ v6 ∧ v6 < (v4.rows.length : Int) then
 let K7 : Bool → Option (Nat × List PV) := fun q8 =>
 if q8 = true then
 X v0 v1 v2 v6 v4 v5 (Go.IntKind.i64.wrap (v6 + 1))
 else
 X v0 v1 v2 v3 v4 v5 (Go.IntKind.i64.wrap (v6 + 1))
 if (((at_ (rowsAt v4.rows v6.toNat) 0).toS) == v0) = true then
 K7 (decide (v3 < 0))
 else
 K7 false
 else none
 else
 some (0, [.r [.str v0], .r [v1], .r [v2], .r [.int v3]])
theorem claplaw3_GetFields_s0 (E : Env) (X : List PV → Option (Nat × List PV)) (v0 : List UInt8) (v1 : C) (v2 : C) (v3 : Int) (v4 : C) (v5 : Int) (v6 : Int) : stepOf E claplaw3_GetFields_c0 claplaw3_GetFields_h0 claplaw3_GetFields_o0 X [.r [.str v0], .r [v1], .r [v2], .r [.int v3], .r [v4], .r [.int v5], .r [.int v6]] = claplaw3_GetFields_b0 E (fun (v0 : List UInt8) (v1 : C) (v2 : C) (v3 : Int) (v4 : C) (v5 : Int) (v6 : Int) => X [.r [.str v0], .r [v1], .r [v2], .r [.int v3], .r [v4], .r [.int v5], .r [.int v6]]) v0 v1 v2 v3 v4 v5 v6 := by kernel_rfl
def claplaw3_GetFields_a : AFun := { ps := [lA4, lA0, lS], rs := [lB], res := [(false, 6, none)], body := (.seq (.region [] [oq 3 (.boxP lA4 29 (.t 0)),
 oq 4 (.boxP lA0 25 (.t 1)),
 oq 6 (.mov (.c lB [.bool false]))] false 0)
 (.seq (.seq (.join [(.normal, { slots := [(2, .d lS), (3, .d (.one (.ref 29))), (4, .d (.one (.ref 25))), (18, .d lB)], objs := [] })] (.region [] [oq 12 (.call 4 [] [lB] []),
 oq 13 (.not (.t 12)),
 oq 14 (.mov (.t 13)),
 ⟨some 15, .call 6 [lI, lI] [lA0] [(.c lI [.int 1]), (.c lI [.int 2])], some (14, false), []⟩,
 ⟨some 16, .call 5 [lA0, lS] [lI] [(.t 15), (.c lS [.str ([98] : List UInt8)])], some (14, false), []⟩,
 ⟨some 17, .icmp .neq (.t 16) (.c lI [.int 1]), some (14, false), []⟩,
 oq 18 (.pick (.t 14) (.c lB [.bool true]) (.t 17))] false 0))
 (.cond (.t 18) (.seq (.region [] [oq 6 (.mov (.c lB [.bool false]))] false 0)
 .ret)
 .skip))
 (.seq (.region [] [oq 7 (.mov (.c lI [.int (-1)]))] false 0)
 (.seq (.seq (.region [] [oq 19 (.fad 3 1 25 23 (.t 4)),
 oq 20 (.ld (.one (.sl 34)) 23 (.t 19)),
 oq 21 (.lenL (.t 20)),
 oq 22 (.mov (.c lI [.int 0]))] false 0)
 (.block 0 (.loop claplaw3_GetFields_h0 claplaw3_GetFields_o0 claplaw3_GetFields_c0)))
 (.seq (.region [] [oq 38 (.ld lA0 25 (.t 4)),
 oq 39 (.fad 1 1 29 9 (.t 3)),
 oq 40 (.ld lS 9 (.t 39)),
 oq 41 (.call 7 [lA0, lS] [lA0, lB] [(.t 38), (.t 40)]),
 oq 37 (.mov (.t 41)),
 oq 42 (.ext 0 (.t 37)),
 oq 43 (.ext 1 (.t 37)),
 oq 10 (.allocO 0 lA0 [.int 0, .int 0, .str [], .nils]),
 ⟨none, .st lA0 (.t 10) (.t 42), none, []⟩,
 oq 11 (.mov (.t 43))] false 1)
 (.seq (.region [] [oq 44 (.ld lA0 25 (.t 4)),
 oq 45 (.mov (.t 2)),
 oq 46 (.call 5 [lA0, lS] [lI] [(.t 44), (.t 45)]),
 oq 47 (.mov (.t 7)),
 oq 48 (.icmp .eql (.t 46) (.t 47)),
 oq 49 (.mov (.t 48)),
 ⟨some 50, .ld lA4 29 (.t 3), some (49, true), []⟩,
 ⟨some 51, .ld lA0 25 (.t 4), some (49, true), []⟩,
 ⟨some 52, .call 8 [lA4, lA0] [lB] [(.t 50), (.t 51)], some (49, true), []⟩,
 ⟨some 53, .mov (.t 11), some (49, true), []⟩,
 ⟨some 54, .mov (.t 53), some (49, true), []⟩,
 ⟨some 55, .ld lA0 25 (.t 10), some (54, true), []⟩,
 ⟨some 56, .fad 8 4 29 25 (.t 3), some (54, true), []⟩,
 ⟨some 57, .ld lA0 25 (.t 56), some (54, true), []⟩,
 ⟨some 58, .call 9 [lA0, lA0] [lB] [(.t 55), (.t 57)], some (54, true), []⟩,
 ⟨some 59, .pick (.t 54) (.t 58) (.c lB [.bool false]), some (49, true), []⟩,
 ⟨some 60, .bcmp false (.t 52) (.t 59), some (49, true), []⟩,
 oq 61 (.pick (.t 49) (.t 60) (.c lB [.bool false])),
 oq 6 (.mov (.t 61))] false 0)
 .ret)))))) }
/-- clapperbridge/claplaw3.GetFields -/
noncomputable def claplaw3_GetFields (E : Env) (p0 : Row) (p1 : Row) (p2 : List UInt8) : Option (List Row) :=
 ((E.pc n_claplaw3_seen []).bind fun y1 =>
 let K2 : Bool → Option (Nat × List PV) := fun q3 =>
 some (0, [.r [.str p2], .r [.dp p0], .r [.dp p1], .r [.bool q3]])
 if (!((at_ (rowsAt y1 0) 0).toB)) = true then
 K2 true
 else
 (E.pc n_claplaw3_rec [[.int 1], [.int 2]]).bind fun y4 =>
 (E.pc n_get_Find [rowsAt y4 0, [.str ([98] : List UInt8)]]).bind fun y5 =>
 K2 (((at_ (rowsAt y5 0) 0).toI) != 1)).bind fun x6 =>
 if (gB 3 x6.2) = true then
 some [[.bool false]]
 else
 if (gC 2 x6.2).isDp = true then
 (claplaw3_GetFields_l0 E (gS 0 x6.2) (gC 1 x6.2) (gC 2 x6.2) (-1) (at_ ((gC 2 x6.2).dpRow) 3) (((at_ ((gC 2 x6.2).dpRow) 3).rows).length : Int) 0).bind fun x9 =>
 if (gC 2 x9.2).isDp = true then
 if (gC 1 x9.2).isDp = true then
 (E.pc n_value_Get [(gC 2 x9.2).dpRow, [.str ((at_ ((gC 1 x9.2).dpRow) 1).toS)]]).bind fun y10 =>
 if (gC 2 x9.2).isDp = true then
 (E.pc n_get_Find [(gC 2 x9.2).dpRow, [.str (gS 0 x9.2)]]).bind fun y11 =>
 let K12 : Bool → Option (List Row) := fun q13 =>
 some [[.bool q13]]
 if (((at_ (rowsAt y11 0) 0).toI) == (gI 3 x9.2)) = true then
 if (gC 1 x9.2).isDp = true then
 if (gC 2 x9.2).isDp = true then
 (E.pc n_get_Chosen [(gC 1 x9.2).dpRow, (gC 2 x9.2).dpRow]).bind fun y14 =>
 let K15 : Bool → Option (List Row) := fun q16 =>
 K12 (((at_ (rowsAt y14 0) 0).toB) == q16)
 if ((at_ (rowsAt y10 1) 0).toB) = true then
 if (gC 1 x9.2).isDp = true then
 (E.pc n_value_Same [rowsAt y10 0, [at_ ((gC 1 x9.2).dpRow) 8, at_ ((gC 1 x9.2).dpRow) 9, at_ ((gC 1 x9.2).dpRow) 10, at_ ((gC 1 x9.2).dpRow) 11]]).bind fun y17 =>
 K15 ((at_ (rowsAt y17 0) 0).toB)
 else none
 else
 K15 false
 else none
 else none
 else
 K12 false
 else none
 else none
 else none
 else none
theorem claplaw3_GetFields_eq (E : Env) (p0 : Row) (p1 : Row) (p2 : List UInt8) : runP E claplaw3_GetFields_a [p0, p1, [.str p2]] = claplaw3_GetFields E p0 p1 p2 := by kernel_rfl
end Go.Ev
