/-
  A part of the proof: what the functions of the program compute.
-/
import Derived.Test.YtagljniiabcfoaaGreatDoorZNum
set_option linter.all false
set_option maxRecDepth 100000
namespace Go.Ev
def slices_EqualFunc_api_Field_h0 : Shape := { slots := [(1, .d (.one (.sl 34))), (2, .d (.one (.fn 160))), (15, .d (.one (.sl 61))), (16, .d lI), (17, .d lI)], objs := [] }
def slices_EqualFunc_api_Field_o0 : List (Exit' × Shape) := [(.exit 0, { slots := [], objs := [] }), (.ret, { slots := [(6, .d lB)], objs := [] })]
def slices_EqualFunc_api_Field_c0 : ACode := (.seq (.region [] [oq 18 (.icmp .lss (.t 17) (.t 16))] false 0)
 (.seq (.cond (.t 18) .skip
 (.exit 0))
 (.seq (.block 1 (.seq (.region [] [oq 19 (.mov (.t 17)),
 oq 20 (.iad 61 lA2 (.t 15) (.t 17)),
 oq 21 (.ld lA2 61 (.t 20)),
 oq 8 (.allocO 0 lA2 [.str [], .int 0, .str [], .int 0, .int 0, .str [], .nils]),
 oq 7 (.mov (.t 19)),
 ⟨none, .st lA2 (.t 8) (.t 21), none, []⟩] false 1)
 (.seq (.region [] [oq 22 (.mov (.t 1)),
 oq 23 (.mov (.t 7)),
 oq 24 (.iad 34 lA1 (.t 22) (.t 23)),
 oq 25 (.ld lA1 34 (.t 24)),
 oq 9 (.allocO 0 lA1 [.str [], .int 0, .int 0, .str [], .nils]),
 ⟨none, .st lA1 (.t 9) (.t 25), none, []⟩] false 1)
 (.seq (.region [] [oq 26 (.mov (.t 2)),
 oq 27 (.ld lA2 61 (.t 8)),
 oq 28 (.ld lA1 34 (.t 9)),
 oq 29 (.callv 160 [lA2, lA1] [lB] (.t 26) [(.t 27), (.t 28)]),
 oq 30 (.not (.t 29))] false 0)
 (.cond (.t 30) (.seq (.region [] [oq 6 (.mov (.c lB [.bool false]))] false 0)
 .ret)
 .skip)))))
 (.region [] [oq 31 (.ibin .add (.t 17) (.c lI [.int 1])),
 oq 17 (.mov (.t 31))] false 0))))
def slices_EqualFunc_api_Field_a : AFun := { ps := [(.one (.sl 61)), (.one (.sl 34)), (.one (.fn 160))], rs := [lB], res := [(false, 6, none)], body := (.seq (.region [] [oq 6 (.mov (.c lB [.bool false]))] false 0)
 (.seq (.seq (.region [] [oq 10 (.mov (.t 0)),
 oq 11 (.lenL (.t 10)),
 oq 12 (.mov (.t 1)),
 oq 13 (.lenL (.t 12)),
 oq 14 (.icmp .neq (.t 11) (.t 13))] false 0)
 (.cond (.t 14) (.seq (.region [] [oq 6 (.mov (.c lB [.bool false]))] false 0)
 .ret)
 .skip))
 (.seq (.seq (.region [] [oq 15 (.mov (.t 0)),
 oq 16 (.lenL (.t 15)),
 oq 17 (.mov (.c lI [.int 0]))] false 0)
 (.block 0 (.loop slices_EqualFunc_api_Field_h0 slices_EqualFunc_api_Field_o0 slices_EqualFunc_api_Field_c0)))
 (.seq (.region [] [oq 6 (.mov (.c lB [.bool true]))] false 0)
 .ret)))) }

def types_fits_1_a : AFun := { ps := [lA2, lA1], rs := [lB], res := [(false, 4, none)], body := (.seq (.region [] [oq 2 (.boxP lA2 61 (.t 0)),
 oq 3 (.boxP lA1 34 (.t 1)),
 oq 4 (.mov (.c lB [.bool false]))] false 0)
 (.seq (.region [] [oq 5 (.fad 0 1 61 9 (.t 2)),
 oq 6 (.ld lS 9 (.t 5)),
 oq 7 (.fad 0 1 34 9 (.t 3)),
 oq 8 (.ld lS 9 (.t 7)),
 oq 9 (.scmp .eql (.t 6) (.t 8)),
 oq 4 (.mov (.t 9))] false 0)
 .ret)) }

def types_fits_2_a : AFun := { ps := [lA2, (.one (.ref 25))], rs := [lB], res := [(false, 3, none)], body := (.seq (.region [] [oq 2 (.boxP lA2 61 (.t 0)),
 oq 3 (.mov (.c lB [.bool false]))] false 0)
 (.seq (.region [] [oq 4 (.fad 0 1 61 9 (.t 2)),
 ⟨some 5, .ld lS 9 (.t 4), none, [0]⟩,
 oq 6 (.fad 3 1 25 23 (.t 1)),
 ⟨some 7, .ld (.one (.sl 34)) 23 (.t 6), none, [2]⟩,
 ⟨some 8, .iad 34 lA1 (.t 7) (.c lI [.int 0]), none, [2, 3]⟩,
 ⟨some 9, .fad 0 1 34 9 (.t 8), none, [2, 3, 4]⟩,
 ⟨some 10, .ld lS 9 (.t 9), none, [2, 3, 4, 5]⟩,
 ⟨some 11, .scmp .eql (.t 5) (.t 10), none, [0, 1, 2, 3, 4, 5, 6]⟩,
 ⟨some 3, .mov (.t 11), none, [0, 1, 2, 3, 4, 5, 6, 7]⟩] true 0)
 .ret)) }

def types_fits_3_a : AFun := { ps := [lA1, (.one (.ref 46))], rs := [lB], res := [(false, 3, none)], body := (.seq (.region [] [oq 2 (.boxP lA1 34 (.t 0)),
 oq 3 (.mov (.c lB [.bool false]))] false 0)
 (.seq (.region [] [oq 4 (.fad 4 1 46 9 (.t 1)),
 oq 5 (.ld lS 9 (.t 4)),
 oq 6 (.fad 0 1 34 9 (.t 2)),
 oq 7 (.ld lS 9 (.t 6)),
 oq 8 (.bad),
 oq 9 (.bad),
 oq 3 (.bad)] false 0)
 .ret)) }

def types_fits_a : AFun := { ps := [lA3, lA0], rs := [lB], res := [(false, 4, none)], body := (.seq (.region [] [oq 2 (.boxP lA3 46 (.t 0)),
 oq 3 (.boxP lA0 25 (.t 1)),
 oq 4 (.mov (.c lB [.bool false]))] false 0)
 (.seq (.seq (.region [] [oq 5 (.fad 0 1 46 3 (.t 2)),
 oq 6 (.ld lI 3 (.t 5)),
 oq 7 (.fad 0 1 25 3 (.t 3)),
 oq 8 (.ld lI 3 (.t 7)),
 oq 9 (.icmp .neq (.t 6) (.t 8))] false 0)
 (.cond (.t 9) (.seq (.region [] [oq 4 (.mov (.c lB [.bool false]))] false 0)
 .ret)
 .skip))
 (.seq (.seq (.region [] [oq 10 (.fad 0 1 46 3 (.t 2)),
 oq 11 (.ld lI 3 (.t 10))] false 0)
 (.block 0 (.seq (.seq (.region [] [oq 13 (.icmp .eql (.t 11) (.c lI [.int 1])),
 oq 12 (.mov (.t 13))] false 0)
 (.join [(.normal, { slots := [(2, .d (.one (.ref 46))), (3, .d (.one (.ref 25))), (11, .d lI), (12, .d lB)], objs := [] })] (.cond (.t 12) .skip
 (.seq (.region [] [oq 14 (.icmp .eql (.t 11) (.c lI [.int 2])),
 oq 12 (.mov (.t 14))] false 0)
 (.cond (.t 12) .skip
 (.region [] [oq 15 (.icmp .eql (.t 11) (.c lI [.int 4])),
 oq 12 (.mov (.t 15))] false 0))))))
 (.cond (.t 12) (.seq (.region [] [oq 16 (.fad 1 1 25 3 (.t 3)),
 oq 17 (.ld lI 3 (.t 16)),
 oq 18 (.fad 2 1 46 3 (.t 2)),
 oq 19 (.ld lI 3 (.t 18)),
 oq 20 (.icmp .geq (.t 17) (.t 19)),
 oq 21 (.mov (.t 20)),
 ⟨some 22, .fad 1 1 25 3 (.t 3), some (21, true), []⟩,
 ⟨some 23, .ld lI 3 (.t 22), some (21, true), []⟩,
 ⟨some 24, .fad 3 1 46 3 (.t 2), some (21, true), []⟩,
 ⟨some 25, .ld lI 3 (.t 24), some (21, true), []⟩,
 ⟨some 26, .icmp .leq (.t 23) (.t 25), some (21, true), []⟩,
 oq 27 (.pick (.t 21) (.t 26) (.c lB [.bool false])),
 oq 4 (.mov (.t 27))] false 0)
 .ret)
 (.seq (.region [] [oq 29 (.icmp .eql (.t 11) (.c lI [.int 5])),
 oq 28 (.mov (.t 29))] false 0)
 (.cond (.t 28) (.seq (.region [] [oq 30 (.fad 4 1 46 9 (.t 2)),
 oq 31 (.ld lS 9 (.t 30)),
 oq 32 (.fad 2 1 25 9 (.t 3)),
 oq 33 (.ld lS 9 (.t 32)),
 oq 34 (.bad),
 oq 4 (.bad)] false 0)
 .ret)
 (.seq (.region [] [oq 36 (.icmp .eql (.t 11) (.c lI [.int 6])),
 oq 35 (.mov (.t 36))] false 0)
 (.cond (.t 35) (.seq (.region [] [oq 37 (.fad 5 1 46 44 (.t 2)),
 oq 38 (.ld (.one (.sl 61)) 44 (.t 37)),
 oq 39 (.fad 3 1 25 23 (.t 3)),
 oq 40 (.ld (.one (.sl 34)) 23 (.t 39)),
 oq 41 (.call 128 [(.one (.sl 61)), (.one (.sl 34)), (.one (.fn 160))] [lB] [(.t 38), (.t 40), (.c (.one (.fn 160)) [.fn n_types_fits_1 []])]),
 oq 4 (.mov (.t 41))] false 0)
 .ret)
 (.seq (.region [] [oq 43 (.icmp .eql (.t 11) (.c lI [.int 7])),
 oq 42 (.mov (.t 43))] false 0)
 (.cond (.t 42) (.seq (.region [] [oq 44 (.fad 5 1 46 44 (.t 2)),
 oq 45 (.ld (.one (.sl 61)) 44 (.t 44)),
 oq 46 (.mkf 131 137 [.ref 25] [(.t 3)]),
 oq 47 (.call 130 [(.one (.sl 61)), (.one (.fn 137))] [lB] [(.t 45), (.t 46)]),
 oq 4 (.mov (.t 47))] false 0)
 .ret)
 (.seq (.region [] [oq 49 (.icmp .eql (.t 11) (.c lI [.int 8])),
 oq 48 (.mov (.t 49))] false 0)
 (.cond (.t 48) (.seq (.region [] [oq 50 (.fad 3 1 25 23 (.t 3)),
 oq 51 (.ld (.one (.sl 34)) 23 (.t 50)),
 oq 52 (.lenL (.t 51)),
 oq 53 (.fad 2 1 46 3 (.t 2)),
 oq 54 (.ld lI 3 (.t 53)),
 oq 55 (.icmp .geq (.t 52) (.t 54)),
 oq 56 (.mov (.t 55)),
 ⟨some 57, .fad 3 1 25 23 (.t 3), some (56, true), []⟩,
 ⟨some 58, .ld (.one (.sl 34)) 23 (.t 57), some (56, true), []⟩,
 ⟨some 59, .lenL (.t 58), some (56, true), []⟩,
 ⟨some 60, .fad 3 1 46 3 (.t 2), some (56, true), []⟩,
 ⟨some 61, .ld lI 3 (.t 60), some (56, true), []⟩,
 ⟨some 62, .icmp .leq (.t 59) (.t 61), some (56, true), []⟩,
 oq 63 (.pick (.t 56) (.t 62) (.c lB [.bool false])),
 oq 4 (.mov (.t 63))] false 0)
 .ret)
 (.seq (.region [] [oq 65 (.icmp .eql (.t 11) (.c lI [.int 9])),
 oq 64 (.mov (.t 65))] false 0)
 (.cond (.t 64) (.seq (.region [] [oq 66 (.fad 3 1 25 23 (.t 3)),
 oq 67 (.ld (.one (.sl 34)) 23 (.t 66)),
 oq 68 (.lenL (.t 67)),
 oq 69 (.fad 2 1 46 3 (.t 2)),
 oq 70 (.ld lI 3 (.t 69)),
 oq 71 (.icmp .geq (.t 68) (.t 70)),
 oq 72 (.mov (.t 71)),
 ⟨some 73, .fad 3 1 25 23 (.t 3), some (72, true), []⟩,
 ⟨some 74, .ld (.one (.sl 34)) 23 (.t 73), some (72, true), []⟩,
 ⟨some 75, .lenL (.t 74), some (72, true), []⟩,
 ⟨some 76, .fad 3 1 46 3 (.t 2), some (72, true), []⟩,
 ⟨some 77, .ld lI 3 (.t 76), some (72, true), []⟩,
 ⟨some 78, .icmp .leq (.t 75) (.t 77), some (72, true), []⟩,
 oq 79 (.pick (.t 72) (.t 78) (.c lB [.bool false])),
 oq 80 (.mov (.t 79)),
 ⟨some 81, .fad 3 1 25 23 (.t 3), some (80, true), []⟩,
 ⟨some 82, .ld (.one (.sl 34)) 23 (.t 81), some (80, true), []⟩,
 ⟨some 83, .mkf 133 50 [.ref 46] [(.t 2)], some (80, true), []⟩,
 ⟨some 84, .call 132 [(.one (.sl 34)), (.one (.fn 50))] [lB] [(.t 82), (.t 83)], some (80, true), []⟩,
 ⟨some 85, .not (.t 84), some (80, true), []⟩,
 oq 86 (.pick (.t 80) (.t 85) (.c lB [.bool false])),
 oq 4 (.mov (.t 86))] false 0)
 .ret)
 .skip))))))))))))))
 (.seq (.region [] [oq 4 (.mov (.c lB [.bool true]))] false 0)
 .ret)))) }

def types_has_h0 : Shape := { slots := [(0, .d (.one (.sl 83))), (4, .ptr 0 0), (25, .d (.one (.sl 34))), (26, .d lI), (27, .d lI)], objs := [.var lA3] }
def types_has_o0 : List (Exit' × Shape) := [(.exit 0, { slots := [], objs := [] })]
def types_has_c0 : ACode := (.seq (.region [] [oq 28 (.icmp .lss (.t 27) (.t 26))] false 0)
 (.seq (.cond (.t 28) .skip
 (.exit 0))
 (.seq (.block 1 (.seq (.region [] [oq 29 (.mov (.t 27)),
 oq 30 (.iad 34 lA1 (.t 25) (.t 27)),
 oq 31 (.ld lA1 34 (.t 30)),
 oq 9 (.allocO 0 lA1 [.str [], .int 0, .int 0, .str [], .nils]),
 oq 8 (.mov (.t 29)),
 ⟨none, .st lA1 (.t 9) (.t 31), none, []⟩] false 1)
 (.seq (.region [] [oq 32 (.fad 0 1 34 9 (.t 9)),
 ⟨some 33, .ld lS 9 (.t 32), none, [0]⟩,
 oq 34 (.fad 5 1 46 44 (.t 4)),
 ⟨some 35, .ld (.one (.sl 61)) 44 (.t 34), none, [2]⟩,
 ⟨some 36, .iad 61 lA2 (.t 35) (.c lI [.int 0]), none, [2, 3]⟩,
 ⟨some 37, .fad 1 6 61 46 (.t 36), none, [2, 3, 4]⟩,
 ⟨some 38, .ld lA3 46 (.t 37), none, [2, 3, 4, 5]⟩,
 oq 11 (.allocO 0 lA3 [.int 0, .str [], .int 0, .int 0, .str [], .nils]),
 ⟨some 10, .mov (.t 33), none, [0, 1, 7]⟩,
 ⟨none, .st lA3 (.t 11) (.t 38), none, [0, 1, 2, 3, 4, 5, 6, 7, 8]⟩] true 1)
 (.seq (.seq (.region [] [oq 39 (.fad 0 1 46 3 (.t 4)),
 oq 40 (.ld lI 3 (.t 39))] false 0)
 (.join [(.normal, { slots := [(0, .d (.one (.sl 83))), (4, .ptr 0 0), (9, .ptr 1 0), (10, .d lS), (11, .ptr 2 0), (25, .d (.one (.sl 34))), (26, .d lI), (27, .d lI)], objs := [.var lA3, .var lA1, .var lA3] })] (.block 2 (.seq (.region [] [oq 42 (.icmp .eql (.t 40) (.c lI [.int 6])),
 oq 41 (.mov (.t 42))] false 0)
 (.cond (.t 41) (.region [] [oq 43 (.fad 5 1 46 44 (.t 4)),
 oq 44 (.ld (.one (.sl 61)) 44 (.t 43)),
 oq 45 (.mov (.t 8)),
 oq 46 (.iad 61 lA2 (.t 44) (.t 45)),
 oq 47 (.fad 1 6 61 46 (.t 46)),
 oq 48 (.ld lA3 46 (.t 47)),
 ⟨none, .st lA3 (.t 11) (.t 48), none, []⟩] false 0)
 (.seq (.region [] [oq 50 (.icmp .eql (.t 40) (.c lI [.int 7])),
 oq 49 (.mov (.t 50))] false 0)
 (.cond (.t 49) (.region [] [oq 52 (.ld lA3 46 (.t 4)),
 oq 53 (.fad 0 1 34 9 (.t 9)),
 oq 54 (.ld lS 9 (.t 53)),
 oq 55 (.bad),
 oq 51 (.bad),
 oq 56 (.bad),
 oq 57 (.bad),
 ⟨none, .bad, none, []⟩] false 0)
 (.seq (.region [] [oq 59 (.icmp .eql (.t 40) (.c lI [.int 8])),
 oq 58 (.mov (.t 59))] false 0)
 (.cond (.t 58) (.region [] [oq 60 (.mov (.t 8)),
 oq 61 (.bad),
 oq 10 (.bad)] false 0)
 .skip)))))))))
 (.seq (.region [] [oq 63 (.mov (.t 0)),
 oq 64 (.ld lA3 46 (.t 11)),
 oq 65 (.fad 1 4 34 25 (.t 9)),
 oq 66 (.ld lA0 25 (.t 65)),
 oq 67 (.call 55 [(.one (.sl 83)), lA3, lA0] [(.one (.sl 9)), lB] [(.t 63), (.t 64), (.t 66)]),
 oq 62 (.mov (.t 67)),
 oq 68 (.ext 0 (.t 62)),
 oq 69 (.ext 1 (.t 62)),
 oq 12 (.mov (.t 68)),
 oq 13 (.mov (.t 69))] false 0)
 (.seq (.region [] [oq 70 (.mov (.t 13)),
 oq 71 (.not (.t 70))] false 0)
 (.cond (.t 71) (.seq (.region [] [oq 72 (.mov (.t 12)),
 oq 73 (.mov (.t 10)),
 oq 74 (.bsl 9 lS 1 [.str []] [(0, (.t 73))]),
 oq 75 (.bad),
 oq 6 (.bad),
 oq 7 (.bad)] false 1)
 .ret)
 .skip)))))))
 (.region [] [oq 76 (.ibin .add (.t 27) (.c lI [.int 1])),
 oq 27 (.mov (.t 76))] false 0))))
def types_has_a : AFun := { ps := [(.one (.sl 83)), lA3, lA0], rs := [(.one (.sl 9)), lB], res := [(false, 6, (some lS)), (false, 7, none)], body := (.seq (.region [] [oq 4 (.boxO 0 lA3 (.t 1)),
 oq 5 (.boxP lA0 25 (.t 2)),
 oq 6 (.mov (.c (.one (.sl 9)) [.nils])),
 oq 7 (.mov (.c lB [.bool false]))] false 1)
 (.seq (.region [] [oq 15 (.mov (.t 0)),
 oq 16 (.ld lA3 46 (.t 4)),
 oq 17 (.call 45 [(.one (.sl 83)), lA3] [lA3, lI] [(.t 15), (.t 16)]),
 oq 14 (.mov (.t 17)),
 oq 18 (.ext 0 (.t 14)),
 oq 19 (.ext 1 (.t 14)),
 ⟨none, .st lA3 (.t 4) (.t 18), none, []⟩] false 0)
 (.seq (.seq (.region [] [oq 20 (.ld lA3 46 (.t 4)),
 oq 21 (.ld lA0 25 (.t 5)),
 oq 22 (.call 91 [lA3, lA0] [lB] [(.t 20), (.t 21)]),
 oq 23 (.not (.t 22))] false 0)
 (.cond (.t 23) (.seq (.region [] [oq 6 (.mov (.c (.one (.sl 9)) [.nils])),
 oq 7 (.mov (.c lB [.bool false]))] false 0)
 .ret)
 .skip))
 (.seq (.seq (.region [] [oq 24 (.fad 3 1 25 23 (.t 5)),
 oq 25 (.ld (.one (.sl 34)) 23 (.t 24)),
 oq 26 (.lenL (.t 25)),
 oq 27 (.mov (.c lI [.int 0]))] false 0)
 (.block 0 (.loop types_has_h0 types_has_o0 types_has_c0)))
 (.seq (.region [] [oq 6 (.mov (.c (.one (.sl 9)) [.nils])),
 oq 7 (.mov (.c lB [.bool true]))] false 0)
 .ret))))) }

def slices_Reverse_string_i11_h0 : Shape := { slots := [(0, .d (.one (.sl 9))), (2, .d lI), (3, .d lI)], objs := [] }
def slices_Reverse_string_i11_o0 : List (Exit' × Shape) := [(.exit 0, { slots := [], objs := [] })]
def slices_Reverse_string_i11_c0 : ACode := (.seq (.seq (.region [] [oq 7 (.mov (.t 2)),
 oq 8 (.mov (.t 3)),
 oq 9 (.icmp .lss (.t 7) (.t 8))] false 0)
 (.cond (.t 9) .skip
 (.exit 0)))
 (.seq (.block 1 (.region [] [oq 14 (.mov (.t 0)),
 oq 15 (.mov (.t 2)),
 oq 16 (.mov (.t 0)),
 oq 17 (.mov (.t 3)),
 oq 18 (.mov (.t 0)),
 oq 19 (.mov (.t 3)),
 ⟨some 20, .iad 9 lS (.t 18) (.t 19), none, [4, 5]⟩,
 ⟨some 21, .ld lS 9 (.t 20), none, [4, 5, 6]⟩,
 oq 22 (.mov (.t 0)),
 oq 23 (.mov (.t 2)),
 ⟨some 24, .iad 9 lS (.t 22) (.t 23), none, [8, 9]⟩,
 ⟨some 25, .ld lS 9 (.t 24), none, [8, 9, 10]⟩,
 ⟨some 26, .iad 9 lS (.t 14) (.t 15), none, [0, 1, 4, 5, 6, 7, 8, 9, 10, 11]⟩,
 ⟨none, .bad, none, [0, 1, 4, 5, 6, 7, 8, 9, 10, 11, 12]⟩,
 ⟨some 27, .bad, none, [0, 1, 2, 3, 4, 5, 6, 7, 8, 9, 10, 11, 12, 13]⟩,
 ⟨none, .bad, none, [0, 1, 2, 3, 4, 5, 6, 7, 8, 9, 10, 11, 12, 13, 14]⟩] true 0))
 .bad))
def slices_Reverse_string_i11_a : AImp := { fn := 56, entry := slices_Reverse_string_i11_en, res := [], exit := slices_Reverse_string_i11_ex, body := (.seq (.region [] [oq 4 (.mov (.t 0)),
 oq 5 (.lenL (.t 4)),
 oq 6 (.ibin .sub (.t 5) (.c lI [.int 1])),
 oq 2 (.mov (.c lI [.int 0])),
 oq 3 (.mov (.t 6))] false 0)
 (.block 0 (.loop slices_Reverse_string_i11_h0 slices_Reverse_string_i11_o0 slices_Reverse_string_i11_c0))) }

def types_Has_a : AFun := { ps := [(.one (.sl 83)), lA3, lA0], rs := [lB, (.one (.sl 9)), lI], res := [(false, 6, none), (false, 7, (some lS)), (false, 8, none)], body := (.seq (.region [] [oq 4 (.boxP lA3 46 (.t 1)),
 oq 5 (.boxP lA0 25 (.t 2)),
 oq 6 (.mov (.c lB [.bool false])),
 oq 7 (.mov (.c (.one (.sl 9)) [.nils])),
 oq 8 (.mov (.c lI [.int 0]))] false 0)
 (.seq (.seq (.region [] [oq 12 (.mov (.t 0)),
 oq 13 (.ld lA3 46 (.t 4)),
 oq 14 (.call 31 [(.one (.sl 83)), lA3] [lI] [(.t 12), (.t 13)]),
 oq 9 (.mov (.t 14))] false 0)
 (.seq (.region [] [oq 15 (.mov (.t 9)),
 oq 16 (.icmp .neq (.t 15) (.c lI [.int 0]))] false 0)
 (.cond (.t 16) (.seq (.region [] [oq 17 (.mov (.t 9)),
 oq 6 (.mov (.c lB [.bool false])),
 oq 7 (.mov (.c (.one (.sl 9)) [.nils])),
 oq 8 (.mov (.t 17))] false 0)
 .ret)
 .skip)))
 (.seq (.seq (.region [] [oq 18 (.ld lA0 25 (.t 5)),
 oq 19 (.call 21 [lA0] [lI] [(.t 18)]),
 oq 20 (.icmp .neq (.t 19) (.c lI [.int 0]))] false 0)
 (.cond (.t 20) (.seq (.region [] [oq 6 (.mov (.c lB [.bool false])),
 oq 7 (.mov (.c (.one (.sl 9)) [.nils])),
 oq 8 (.mov (.c lI [.int 0]))] false 0)
 .ret)
 .skip))
 (.seq (.region [] [oq 22 (.mov (.t 0)),
 oq 23 (.ld lA3 46 (.t 4)),
 oq 24 (.ld lA0 25 (.t 5)),
 oq 25 (.call 55 [(.one (.sl 83)), lA3, lA0] [(.one (.sl 9)), lB] [(.t 22), (.t 23), (.t 24)]),
 oq 21 (.mov (.t 25)),
 oq 26 (.ext 0 (.t 21)),
 oq 27 (.ext 1 (.t 21)),
 oq 10 (.mov (.t 26)),
 oq 11 (.mov (.t 27))] false 0)
 (.seq (.region [] [oq 28 (.mov (.t 10)),
 oq 29 (.icall 271 56 (slices_Reverse_string_i11_en) (slices_Reverse_string_i11_ex) [] 0 none [(.t 28)])] false 0)
 (.seq (.region [] [oq 30 (.mov (.t 11)),
 oq 31 (.mov (.t 10)),
 oq 6 (.mov (.t 30)),
 oq 7 (.mov (.t 31)),
 oq 8 (.mov (.c lI [.int 0]))] false 0)
 .ret)))))) }

def typing_find_1_a : AFun := { ps := [lA2, (.one (.ref 9))], rs := [lB], res := [(false, 3, none)], body := (.seq (.region [] [oq 2 (.boxP lA2 61 (.t 0)),
 oq 3 (.mov (.c lB [.bool false]))] false 0)
 (.seq (.region [] [oq 4 (.fad 0 1 61 9 (.t 2)),
 oq 5 (.ld lS 9 (.t 4)),
 oq 6 (.ld lS 9 (.t 1)),
 oq 7 (.scmp .eql (.t 5) (.t 6)),
 oq 3 (.mov (.t 7))] false 0)
 .ret)) }

def typing_find_a : AFun := { ps := [lA3, lS], rs := [lI], res := [(false, 4, none)], body := (.seq (.region [] [oq 2 (.boxP lA3 46 (.t 0)),
 oq 3 (.boxP lS 9 (.t 1)),
 oq 4 (.mov (.c lI [.int 0]))] false 0)
 (.seq (.region [] [oq 5 (.fad 5 1 46 44 (.t 2)),
 oq 6 (.ld (.one (.sl 61)) 44 (.t 5)),
 oq 7 (.mkf 111 137 [.ref 9] [(.t 3)]),
 oq 8 (.call 110 [(.one (.sl 61)), (.one (.fn 137))] [lI] [(.t 6), (.t 7)]),
 oq 4 (.mov (.t 8))] false 0)
 .ret)) }

def typing_copyType_i9_h0 : Shape := { slots := [(1, .ptr 0 0), (2, .ptr 1 0), (9, .d (.one (.sl 61))), (10, .d lI), (11, .d lI)], objs := [oS4, oS5, .arr lA2, .arr lA2] }
def typing_copyType_i9_o0 : List (Exit' × Shape) := [(.exit 0, { slots := [(1, .ptr 0 0), (2, .ptr 1 0)], objs := [oS4, oS5, .arr lA2, .arr lA2] })]
def typing_copyType_i9_c0 : ACode := (.seq (.region [] [oq 12 (.icmp .lss (.t 11) (.t 10))] false 0)
 (.seq (.cond (.t 12) .skip
 (.exit 0))
 (.seq (.block 1 (.seq (.region [] [oq 13 (.iad 61 lA2 (.t 9) (.t 11)),
 oq 14 (.ld lA2 61 (.t 13)),
 oq 5 (.allocA 0 [some ((.str), .str []), some ((.int .i64), .int 0), some ((.str), .str []), some ((.int .i64), .int 0), some ((.int .i64), .int 0), some ((.str), .str []), some ((.sl 61), .nils)]),
 ⟨none, .stA 7 (.t 5) (.t 14), none, []⟩] false 1)
 (.region [] [oq 15 (.fad 5 1 46 44 (.t 1)),
 ⟨some 16, .ldC (.t 15), none, [0]⟩,
 oq 17 (.fad 0 1 61 9 (.t 5)),
 ⟨some 18, .ldC (.t 17), none, [2]⟩,
 oq 19 (.fad 1 6 61 46 (.t 5)),
 ⟨some 20, .ldA 6 (.t 19), none, [4]⟩,
 ⟨some 21, .icall 263 49 (typing_copyType_i3_en) (typing_copyType_i3_ex) [] 0 none [(.t 20)], none, [4, 5]⟩,
 ⟨some 22, .bld lA2 [.str [], .int 0, .str [], .int 0, .int 0, .str [], .nils] [(0, 1, (.t 18)), (1, 6, (.t 21))], none, [2, 3, 4, 5, 6]⟩,
 ⟨some 23, .bsl 61 lA2 1 [.str [], .int 0, .str [], .int 0, .int 0, .str [], .nils] [(0, (.t 22))], none, [2, 3, 4, 5, 6, 7]⟩,
 ⟨some 24, .app 0 61 lA2 96 (.t 16) (.t 23), none, [0, 1, 2, 3, 4, 5, 6, 7, 8]⟩,
 ⟨some 25, .fad 5 1 46 44 (.t 1), none, [0, 1, 2, 3, 4, 5, 6, 7, 8, 9]⟩,
 ⟨none, .stC (.t 25) (.t 24), none, [0, 1, 2, 3, 4, 5, 6, 7, 8, 9, 10]⟩] true 1)))
 (.region [] [oq 26 (.ibin .add (.t 11) (.c lI [.int 1])),
 oq 11 (.mov (.t 26))] false 0))))
def typing_copyType_i9_a : AImp := { fn := 49, entry := typing_copyType_i9_en, res := [.cells 2 6], exit := typing_copyType_i9_ex, body := (.seq (.post (.lftO 2 5 61 lA2) (.region [] [oq 1 (.boxA 0 (.t 0)),
 oq 2 (.allocA 1 [some ((.int .i64), .int 0), some ((.str), .str []), some ((.int .i64), .int 0), some ((.int .i64), .int 0), some ((.str), .str []), some ((.sl 61), .nils)])] false 2))
 (.seq (.region [] [oq 6 (.fad 5 1 46 44 (.t 1)),
 oq 7 (.ldC (.t 6)),
 oq 3 (.mov (.t 7))] false 0)
 (.seq (.post (.lftO 8 0 61 lA2) (.region [] [oq 8 (.fad 5 1 46 44 (.t 1)),
 ⟨none, .stC (.t 8) (.c (.one (.sl 61)) [.nils]), none, []⟩] false 0))
 (.seq (.seq (.region [] [oq 9 (.mov (.t 3)),
 oq 10 (.lenL (.t 9)),
 oq 11 (.mov (.c lI [.int 0]))] false 0)
 (.block 0 (.loop typing_copyType_i9_h0 typing_copyType_i9_o0 typing_copyType_i9_c0)))
 (.seq (.region [] [oq 27 (.ldA 6 (.t 1)),
 ⟨none, .stA 6 (.t 2) (.t 27), none, []⟩] false 0)
 .ret))))) }

def slices_Delete_api_Part_i10_a : AImp := { fn := 86, entry := slices_Delete_api_Part_i10_en, res := [.tmp 6], exit := slices_Delete_api_Part_i10_ex, body := (.seq (.region [] [oq 6 (.nilO 0 lA2)] false 1)
 (.seq (.region [] [oq 8 (.mov (.t 0)),
 oq 9 (.mov (.t 1)),
 oq 10 (.mov (.t 2)),
 oq 11 (.mov (.t 0)),
 oq 12 (.lenL (.t 11)),
 oq 13 (.slc3 61 lA2 (.t 8) (.t 9) (.t 10) (.t 12))] false 0)
 (.seq (.seq (.region [] [oq 14 (.mov (.t 1)),
 oq 15 (.mov (.t 2)),
 oq 16 (.icmp .eql (.t 14) (.t 15))] false 0)
 (.cond (.t 16) (.seq (.region [] [oq 17 (.mov (.t 0)),
 oq 6 (.mov (.t 17))] false 0)
 .ret)
 .skip))
 (.seq (.region [] [oq 18 (.mov (.t 0)),
 oq 19 (.lenL (.t 18)),
 oq 7 (.mov (.t 19))] false 0)
 (.seq (.region [] [oq 20 (.mov (.t 0)),
 oq 21 (.mov (.t 1)),
 ⟨some 22, .slc 61 lA2 (.t 20) none (some (.t 21)), none, [0, 1]⟩,
 oq 23 (.mov (.t 0)),
 oq 24 (.mov (.t 2)),
 ⟨some 25, .slc 61 lA2 (.t 23) (some (.t 24)) none, none, [3, 4]⟩,
 ⟨some 26, .appM 61 lA2 (.t 22) (.t 25), none, [0, 1, 2, 3, 4, 5]⟩,
 ⟨some 0, .mov (.t 26), none, [0, 1, 2, 3, 4, 5, 6]⟩] true 1)
 (.seq (.region [] [oq 27 (.mov (.t 0)),
 oq 28 (.mov (.t 0)),
 oq 29 (.lenL (.t 28)),
 oq 30 (.mov (.t 7)),
 oq 31 (.slc 61 lA2 (.t 27) (some (.t 29)) (some (.t 30))),
 ⟨none, .clr 61 lA2 [.str [], .int 0, .str [], .int 0, .int 0, .str [], .nils] (.t 31), none, []⟩] false 0)
 (.seq (.region [] [oq 32 (.mov (.t 0)),
 oq 6 (.movT (.t 32))] false 0)
 .ret))))))) }

def typing_fields_i8_a : AImp := { fn := 54, entry := typing_fields_i8_en, res := [.var 6 lA3, .tmp 7], exit := typing_fields_i8_ex, body := (.seq (.region [] [oq 4 (.boxP lA4 29 (.t 1)),
 oq 5 (.boxA 0 (.t 2)),
 oq 6 (.allocO 1 lA3 [.int 0, .str [], .int 0, .int 0, .str [], .nils]),
 oq 7 (.mov (.c lI [.int 0]))] false 2)
 (.seq (.seq (.region [] [oq 19 (.fad 0 1 29 3 (.t 4)),
 oq 20 (.ld lI 3 (.t 19)),
 oq 21 (.icmp .eql (.t 20) (.c lI [.int 6]))] false 0)
 (.cond (.t 21) (.seq (.region [] [oq 22 (.ld lA4 29 (.t 4)),
 oq 23 (.ldA 6 (.t 5)),
 oq 24 (.bad),
 oq 25 (.bad),
 oq 26 (.bad),
 ⟨none, .bad, none, []⟩,
 oq 7 (.bad)] false 0)
 .ret)
 .skip))
 (.seq (.region [] [oq 27 (.ldA 6 (.t 5)),
 oq 28 (.fad 1 1 29 9 (.t 4)),
 oq 29 (.ld lS 9 (.t 28)),
 oq 30 (.call 77 [lA3, lS] [lI] [(.t 27), (.t 29)]),
 oq 8 (.mov (.t 30))] false 0)
 (.seq (.seq (.region [] [oq 31 (.fad 0 1 29 3 (.t 4)),
 oq 32 (.ld lI 3 (.t 31)),
 oq 33 (.icmp .eql (.t 32) (.c lI [.int 5]))] false 0)
 (.cond (.t 33) (.seq (.seq (.region [] [oq 34 (.mov (.t 8)),
 oq 35 (.icmp .geq (.t 34) (.c lI [.int 0]))] false 0)
 (.cond (.t 35) (.seq (.region [] [oq 36 (.bld lA3 [.int 0, .str [], .int 0, .int 0, .str [], .nils] []),
 ⟨none, .st lA3 (.t 6) (.t 36), none, []⟩,
 oq 7 (.mov (.c lI [.int 5]))] false 0)
 .ret)
 .skip))
 (.seq (.seq (.region [] [oq 37 (.fad 5 1 46 44 (.t 5)),
 oq 38 (.ldC (.t 37)),
 oq 39 (.lenL (.t 38)),
 oq 40 (.icmp .geq (.t 39) (.c lI [.int 24]))] false 0)
 (.cond (.t 40) (.seq (.region [] [oq 41 (.bld lA3 [.int 0, .str [], .int 0, .int 0, .str [], .nils] []),
 ⟨none, .st lA3 (.t 6) (.t 41), none, []⟩,
 oq 7 (.mov (.c lI [.int 6]))] false 0)
 .ret)
 .skip))
 (.seq (.region [] [oq 43 (.fad 8 4 29 25 (.t 4)),
 oq 44 (.ld lA0 25 (.t 43)),
 oq 45 (.bad),
 oq 42 (.bad),
 oq 46 (.bad),
 oq 47 (.bad),
 oq 9 (.bad),
 ⟨none, .bad, none, []⟩,
 oq 10 (.bad)] false 0)
 (.seq (.seq .bad
 .bad)
 (.seq .bad
 (.seq .bad
 (.seq .bad
 .ret)))))))
 .skip))
 (.seq (.seq (.region [] [oq 64 (.mov (.t 8)),
 oq 65 (.icmp .lss (.t 64) (.c lI [.int 0]))] false 0)
 (.cond (.t 65) (.seq (.region [] [oq 66 (.bld lA3 [.int 0, .str [], .int 0, .int 0, .str [], .nils] []),
 ⟨none, .st lA3 (.t 6) (.t 66), none, []⟩,
 oq 7 (.mov (.c lI [.int 15]))] false 0)
 .ret)
 .skip))
 (.seq (.region [] [oq 67 (.ldA 6 (.t 5)),
 oq 68 (.icall 269 49 (typing_copyType_i9_en) (typing_copyType_i9_ex) [] 0 none [(.t 67)]),
 oq 12 (.allocA 1 [some ((.int .i64), .int 0), some ((.str), .str []), some ((.int .i64), .int 0), some ((.int .i64), .int 0), some ((.str), .str []), some ((.sl 61), .nils)]),
 ⟨none, .stA 6 (.t 12) (.t 68), none, []⟩] false 2)
 (.seq (.seq (.region [] [oq 69 (.fad 0 1 29 3 (.t 4)),
 oq 70 (.ld lI 3 (.t 69))] false 0)
 (.join [(.normal, { slots := [(6, .ptr 0 0), (12, .ptr 1 0)], objs := [.var lA3, oS4, .arr lA2] }), (.ret, { slots := [(6, .ptr 0 0), (7, .d lI)], objs := [.var lA3] })] (.block 0 (.seq (.region [] [oq 72 (.icmp .eql (.t 70) (.c lI [.int 2])),
 oq 71 (.mov (.t 72))] false 0)
 (.cond (.t 71) (.seq (.region [] [oq 74 (.mov (.t 0)),
 oq 75 (.fad 13 1 29 27 (.t 4)),
 ⟨some 76, .ld (.one (.sl 29)) 27 (.t 75), none, [1]⟩,
 ⟨some 77, .iad 29 lA4 (.t 76) (.c lI [.int 0]), none, [1, 2]⟩,
 ⟨some 78, .ld lA4 29 (.t 77), none, [1, 2, 3]⟩,
 oq 79 (.fad 5 1 46 44 (.t 5)),
 ⟨some 80, .ldC (.t 79), none, [5]⟩,
 oq 81 (.mov (.t 8)),
 ⟨some 82, .iad 61 lA2 (.t 80) (.t 81), none, [5, 6, 7]⟩,
 ⟨some 83, .fad 1 6 61 46 (.t 82), none, [5, 6, 7, 8]⟩,
 ⟨some 84, .ld lA3 46 (.t 83), none, [5, 6, 7, 8, 9]⟩,
 ⟨some 85, .call 33 [(.one (.sl 83)), lA4, lA3] [lA3, lI] [(.t 74), (.t 78), (.t 84)], none, [0, 1, 2, 3, 4, 5, 6, 7, 8, 9, 10]⟩,
 ⟨some 73, .mov (.t 85), none, [0, 1, 2, 3, 4, 5, 6, 7, 8, 9, 10, 11]⟩,
 ⟨some 86, .ext 0 (.t 73), none, [0, 1, 2, 3, 4, 5, 6, 7, 8, 9, 10, 11, 12]⟩,
 ⟨some 87, .ext 1 (.t 73), none, [0, 1, 2, 3, 4, 5, 6, 7, 8, 9, 10, 11, 12]⟩,
 oq 13 (.allocO 0 lA3 [.int 0, .str [], .int 0, .int 0, .str [], .nils]),
 ⟨none, .st lA3 (.t 13) (.t 86), none, [0, 1, 2, 3, 4, 5, 6, 7, 8, 9, 10, 11, 12, 13, 15]⟩,
 ⟨some 14, .mov (.t 87), none, [0, 1, 2, 3, 4, 5, 6, 7, 8, 9, 10, 11, 12, 13, 14, 15, 16]⟩] true 1)
 (.seq (.seq (.region [] [oq 88 (.mov (.t 14)),
 oq 89 (.icmp .neq (.t 88) (.c lI [.int 0]))] false 0)
 (.cond (.t 89) (.seq (.region [] [oq 90 (.bld lA3 [.int 0, .str [], .int 0, .int 0, .str [], .nils] []),
 oq 91 (.mov (.t 14)),
 ⟨none, .st lA3 (.t 6) (.t 90), none, []⟩,
 oq 7 (.mov (.t 91))] false 0)
 .ret)
 .skip))
 (.region [] [oq 92 (.fad 5 1 46 44 (.t 12)),
 oq 93 (.ldC (.t 92)),
 oq 94 (.mov (.t 8)),
 oq 95 (.ld lA3 46 (.t 13)),
 oq 96 (.iad 61 lA2 (.t 93) (.t 94)),
 oq 97 (.fad 1 6 61 46 (.t 96)),
 ⟨none, .st lA3 (.t 97) (.t 95), none, []⟩] false 0)))
 (.seq (.region [] [oq 99 (.icmp .eql (.t 70) (.c lI [.int 4])),
 oq 98 (.mov (.t 99))] false 0)
 (.cond (.t 98) (.seq (.seq (.region [] [oq 101 (.mov (.t 0)),
 oq 102 (.fad 5 1 46 44 (.t 5)),
 ⟨some 103, .ldC (.t 102), none, [1]⟩,
 oq 104 (.mov (.t 8)),
 ⟨some 105, .iad 61 lA2 (.t 103) (.t 104), none, [1, 2, 3]⟩,
 ⟨some 106, .fad 1 6 61 46 (.t 105), none, [1, 2, 3, 4]⟩,
 ⟨some 107, .ld lA3 46 (.t 106), none, [1, 2, 3, 4, 5]⟩,
 oq 108 (.fad 8 4 29 25 (.t 4)),
 ⟨some 109, .ld lA0 25 (.t 108), none, [7]⟩,
 ⟨some 110, .call 34 [(.one (.sl 83)), lA3, lA0] [lB, (.one (.sl 9)), lI] [(.t 101), (.t 107), (.t 109)], none, [0, 1, 2, 3, 4, 5, 6, 7, 8]⟩,
 ⟨some 100, .mov (.t 110), none, [0, 1, 2, 3, 4, 5, 6, 7, 8, 9]⟩,
 ⟨some 111, .ext 0 (.t 100), none, [0, 1, 2, 3, 4, 5, 6, 7, 8, 9, 10]⟩,
 ⟨some 112, .ext 1 (.t 100), none, [0, 1, 2, 3, 4, 5, 6, 7, 8, 9, 10]⟩,
 ⟨some 113, .ext 2 (.t 100), none, [0, 1, 2, 3, 4, 5, 6, 7, 8, 9, 10]⟩,
 ⟨some 15, .mov (.t 111), none, [0, 1, 2, 3, 4, 5, 6, 7, 8, 9, 10, 11]⟩,
 ⟨some 16, .mov (.t 112), none, [0, 1, 2, 3, 4, 5, 6, 7, 8, 9, 10, 11, 12, 14]⟩,
 ⟨some 17, .mov (.t 113), none, [0, 1, 2, 3, 4, 5, 6, 7, 8, 9, 10, 11, 12, 13, 14, 15]⟩] true 0)
 (.seq (.region [] [oq 114 (.mov (.t 15)),
 oq 115 (.not (.t 114))] false 0)
 (.cond (.t 115) (.seq (.region [] [oq 116 (.bld lA3 [.int 0, .str [], .int 0, .int 0, .str [], .nils] []),
 ⟨none, .st lA3 (.t 6) (.t 116), none, []⟩,
 oq 7 (.mov (.c lI [.int 8]))] false 0)
 .ret)
 .skip)))
 (.region [] [oq 117 (.fad 5 1 46 44 (.t 12)),
 oq 118 (.ldC (.t 117)),
 oq 119 (.mov (.t 8)),
 oq 120 (.mov (.t 8)),
 oq 121 (.ibin .add (.t 120) (.c lI [.int 1])),
 oq 122 (.icall 270 86 (slices_Delete_api_Part_i10_en) (slices_Delete_api_Part_i10_ex) [2] 0 none [(.t 118), (.t 119), (.t 121)]),
 oq 123 (.fad 5 1 46 44 (.t 12)),
 ⟨none, .stC (.t 123) (.t 122), none, []⟩] false 0))
 (.seq (.region [] [oq 125 (.icmp .eql (.t 70) (.c lI [.int 8])),
 oq 124 (.mov (.t 125))] false 0)
 (.cond (.t 124) (.seq (.seq (.join [(.normal, { slots := [(4, .d (.one (.ref 29))), (6, .ptr 0 0), (8, .d lI), (12, .ptr 1 0), (136, .d lB)], objs := [.var lA3, oS4, .arr lA2] })] (.region [] [oq 126 (.fad 4 1 29 3 (.t 4)),
 oq 127 (.ld lI 3 (.t 126)),
 oq 128 (.icmp .lss (.t 127) (.c lI [.int 0])),
 oq 129 (.mov (.t 128)),
 ⟨some 130, .fad 4 1 29 3 (.t 4), some (129, false), []⟩,
 ⟨some 131, .ld lI 3 (.t 130), some (129, false), []⟩,
 ⟨some 132, .fad 5 1 46 44 (.t 5), some (129, false), []⟩,
 ⟨some 133, .ldC (.t 132), some (129, false), []⟩,
 ⟨some 134, .lenL (.t 133), some (129, false), []⟩,
 ⟨some 135, .icmp .geq (.t 131) (.t 134), some (129, false), []⟩,
 oq 136 (.pick (.t 129) (.c lB [.bool true]) (.t 135))] false 0))
 (.cond (.t 136) (.seq (.region [] [oq 137 (.bld lA3 [.int 0, .str [], .int 0, .int 0, .str [], .nils] []),
 ⟨none, .st lA3 (.t 6) (.t 137), none, []⟩,
 oq 7 (.mov (.c lI [.int 11]))] false 0)
 .ret)
 .skip))
 (.seq (.region [] [oq 138 (.fad 5 1 46 44 (.t 12)),
 oq 139 (.ldC (.t 138)),
 oq 140 (.mov (.t 8)),
 oq 141 (.iad 61 lA2 (.t 139) (.t 140)),
 oq 142 (.ld lA2 61 (.t 141)),
 oq 18 (.allocO 0 lA2 [.str [], .int 0, .str [], .int 0, .int 0, .str [], .nils]),
 ⟨none, .st lA2 (.t 18) (.t 142), none, []⟩] false 1)
 (.region [] [oq 143 (.fad 5 1 46 44 (.t 12)),
 ⟨some 144, .ldC (.t 143), none, [0]⟩,
 oq 145 (.mov (.t 8)),
 oq 146 (.mov (.t 8)),
 ⟨some 147, .ibin .add (.t 146) (.c lI [.int 1]), none, [3]⟩,
 ⟨some 148, .icall 270 86 (slices_Delete_api_Part_i10_en) (slices_Delete_api_Part_i10_ex) [2] 0 none [(.t 144), (.t 145), (.t 147)], none, [0, 1, 2, 3, 4]⟩,
 oq 149 (.fad 4 1 29 3 (.t 4)),
 ⟨some 150, .ld lI 3 (.t 149), none, [6]⟩,
 oq 151 (.ld lA2 61 (.t 18)),
 ⟨some 152, .bsl 61 lA2 1 [.str [], .int 0, .str [], .int 0, .int 0, .str [], .nils] [(0, (.t 151))], none, [8]⟩,
 ⟨some 153, .bad, none, [0, 1, 2, 3, 4, 5, 6, 7, 8, 9]⟩,
 ⟨some 154, .bad, none, [0, 1, 2, 3, 4, 5, 6, 7, 8, 9, 10]⟩,
 ⟨none, .bad, none, [0, 1, 2, 3, 4, 5, 6, 7, 8, 9, 10, 11]⟩] true 0)))
 (.seq (.region [] [oq 156 (.icmp .eql (.t 70) (.c lI [.int 7])),
 oq 155 (.mov (.t 156))] false 0)
 (.cond (.t 155) (.seq (.region [] [oq 157 (.mov (.t 0)),
 oq 158 (.ldA 6 (.t 5)),
 oq 159 (.ldA 6 (.t 12)),
 oq 160 (.mov (.t 8)),
 oq 161 (.bad),
 oq 162 (.bad),
 oq 163 (.bad),
 ⟨none, .bad, none, []⟩,
 oq 7 (.bad)] false 0)
 .ret)
 (.seq (.region [] [oq 165 (.icmp .eql (.t 70) (.c lI [.int 9])),
 oq 164 (.mov (.t 165))] false 0)
 (.cond (.t 164) (.seq (.region [] [oq 166 (.mov (.t 0)),
 oq 167 (.ld lA4 29 (.t 4)),
 oq 168 (.ldA 6 (.t 5)),
 oq 169 (.ldA 6 (.t 12)),
 oq 170 (.mov (.t 8)),
 oq 171 (.bad),
 oq 172 (.bad),
 oq 173 (.bad),
 ⟨none, .bad, none, []⟩,
 oq 7 (.bad)] false 0)
 .ret)
 (.seq (.region [] [oq 175 (.icmp .eql (.t 70) (.c lI [.int 10])),
 oq 174 (.mov (.t 175))] false 0)
 (.cond (.t 174) (.seq (.region [] [oq 176 (.mov (.t 0)),
 oq 177 (.ld lA4 29 (.t 4)),
 oq 178 (.ldA 6 (.t 5)),
 oq 179 (.ldA 6 (.t 12)),
 oq 180 (.mov (.t 8)),
 oq 181 (.bad),
 oq 182 (.bad),
 oq 183 (.bad),
 ⟨none, .bad, none, []⟩,
 oq 7 (.bad)] false 0)
 .ret)
 .skip)))))))))))))))
 (.seq (.ghost (.frz 12 5 61 lA2) (.region [] [oq 184 (.ldA 6 (.t 12)),
 ⟨none, .st lA3 (.t 6) (.t 184), none, []⟩,
 oq 7 (.mov (.c lI [.int 0]))] false 0))
 .ret)))))))) }

def typing_Of_h0 : Shape := { slots := [(0, .d (.one (.sl 83))), (5, .ptr 0 0), (6, .ptr 1 0), (23, .d (.one (.sl 29))), (24, .d lI), (25, .d lI)], objs := [oS0, .var lA3] }
def typing_Of_o0 : List (Exit' × Shape) := [(.exit 1, { slots := [(5, .ptr 0 0), (6, .ptr 1 0)], objs := [oS0, .var lA3] }), (.ret, { slots := [(6, .ptr 0 0), (7, .d lI)], objs := [.var lA3] })]
def typing_Of_c0 : ACode := (.seq (.region [] [oq 26 (.icmp .lss (.t 25) (.t 24))] false 0)
 (.seq (.cond (.t 26) .skip
 (.exit 1))
 (.seq (.block 2 (.seq (.region [] [oq 27 (.iad 29 lA4 (.t 23) (.t 25)),
 oq 28 (.ld lA4 29 (.t 27)),
 oq 9 (.allocO 0 lA4 [.int 0, .str [], .str [], .nils, .int 0, .int 0, .int 0, .int 0, .int 0, .int 0, .str [], .nils, .nils, .nils]),
 ⟨none, .st lA4 (.t 9) (.t 28), none, []⟩] false 1)
 (.seq (.region [] [oq 30 (.mov (.t 0)),
 oq 31 (.ld lA4 29 (.t 9)),
 oq 32 (.ldA 6 (.t 5)),
 oq 33 (.call 33 [(.one (.sl 83)), lA4, lA3] [lA3, lI] [(.t 30), (.t 31), (.t 32)]),
 oq 29 (.mov (.t 33)),
 oq 34 (.ext 0 (.t 29)),
 oq 35 (.ext 1 (.t 29)),
 oq 10 (.allocA 0 [some ((.int .i64), .int 0), some ((.str), .str []), some ((.int .i64), .int 0), some ((.int .i64), .int 0), some ((.str), .str []), some ((.sl 61), .nils)]),
 ⟨none, .stA 6 (.t 10) (.t 34), none, []⟩,
 oq 11 (.mov (.t 35))] false 1)
 (.seq (.seq (.region [] [oq 36 (.mov (.t 11)),
 oq 37 (.icmp .neq (.t 36) (.c lI [.int 0]))] false 0)
 (.cond (.t 37) (.seq (.region [] [oq 38 (.bld lA3 [.int 0, .str [], .int 0, .int 0, .str [], .nils] []),
 oq 39 (.mov (.t 11)),
 ⟨none, .st lA3 (.t 6) (.t 38), none, []⟩,
 oq 7 (.mov (.t 39))] false 0)
 .ret)
 .skip))
 (.region [] [oq 40 (.ldA 6 (.t 10)),
 ⟨none, .stA 6 (.t 5) (.t 40), none, []⟩] false 0)))))
 (.region [] [oq 41 (.ibin .add (.t 25) (.c lI [.int 1])),
 oq 25 (.mov (.t 41))] false 0))))
def typing_Of_a : AFun := { ps := [(.one (.sl 83)), lA4, lA3], rs := [lA3, lI], res := [(true, 6, none), (false, 7, none)], body := (.seq (.region [] [oq 4 (.boxP lA4 29 (.t 1)),
 oq 5 (.boxA 0 (.t 2)),
 oq 6 (.allocO 1 lA3 [.int 0, .str [], .int 0, .int 0, .str [], .nils]),
 oq 7 (.mov (.c lI [.int 0]))] false 2)
 (.seq (.seq (.region [] [oq 14 (.fad 0 1 29 3 (.t 4)),
 oq 15 (.ld lI 3 (.t 14))] false 0)
 (.block 0 (.seq (.region [] [oq 17 (.icmp .eql (.t 15) (.c lI [.int 0])),
 oq 16 (.mov (.t 17))] false 0)
 (.cond (.t 16) (.seq (.region [] [oq 18 (.ldA 6 (.t 5)),
 oq 19 (.icall 263 49 (typing_copyType_i3_en) (typing_copyType_i3_ex) [] 0 none [(.t 18)]),
 ⟨none, .st lA3 (.t 6) (.t 19), none, []⟩,
 oq 7 (.mov (.c lI [.int 0]))] false 0)
 .ret)
 (.seq (.region [] [oq 21 (.icmp .eql (.t 15) (.c lI [.int 1])),
 oq 20 (.mov (.t 21))] false 0)
 (.cond (.t 20) (.seq (.seq (.region [] [oq 22 (.fad 13 1 29 27 (.t 4)),
 oq 23 (.ld (.one (.sl 29)) 27 (.t 22)),
 oq 24 (.lenL (.t 23)),
 oq 25 (.mov (.c lI [.int 0]))] false 0)
 (.block 1 (.loop typing_Of_h0 typing_Of_o0 typing_Of_c0)))
 (.seq (.region [] [oq 42 (.ldA 6 (.t 5)),
 ⟨none, .st lA3 (.t 6) (.t 42), none, []⟩,
 oq 7 (.mov (.c lI [.int 0]))] false 0)
 .ret))
 (.seq (.region [] [oq 44 (.icmp .eql (.t 15) (.c lI [.int 16])),
 oq 43 (.mov (.t 44))] false 0)
 (.cond (.t 43) (.seq (.region [] [oq 45 (.fad 1 1 29 9 (.t 4)),
 ⟨some 46, .ld lS 9 (.t 45), none, [0]⟩,
 oq 47 (.ldA 6 (.t 5)),
 ⟨some 48, .icall 263 49 (typing_copyType_i3_en) (typing_copyType_i3_ex) [] 0 none [(.t 47)], none, [2]⟩,
 ⟨some 49, .bld lA2 [.str [], .int 0, .str [], .int 0, .int 0, .str [], .nils] [(0, 1, (.t 46)), (1, 6, (.t 48))], none, [0, 1, 2, 3]⟩,
 ⟨some 50, .bsl 61 lA2 1 [.str [], .int 0, .str [], .int 0, .int 0, .str [], .nils] [(0, (.t 49))], none, [0, 1, 2, 3, 4]⟩,
 ⟨some 51, .bld lA3 [.int 0, .str [], .int 0, .int 0, .str [], .nils] [(0, 1, (.c lI [.int 7])), (5, 1, (.t 50))], none, [0, 1, 2, 3, 4, 5]⟩,
 ⟨none, .st lA3 (.t 6) (.t 51), none, [0, 1, 2, 3, 4, 5, 6]⟩,
 ⟨some 7, .mov (.c lI [.int 0]), none, [0, 1, 2, 3, 4, 5, 6, 7]⟩] true 0)
 .ret)
 .skip))))))))
 (.seq (.region [] [oq 53 (.mov (.t 0)),
 oq 54 (.ldA 6 (.t 5)),
 oq 55 (.icall 264 50 (types_Resolve_i4_en) (types_Resolve_i4_ex) [] 0 none [(.t 53), (.t 54)]),
 oq 52 (.mov (.t 55)),
 oq 56 (.ext 0 (.t 52)),
 oq 57 (.ext 1 (.t 52)),
 oq 12 (.allocA 0 [some ((.int .i64), .int 0), some ((.str), .str []), some ((.int .i64), .int 0), some ((.int .i64), .int 0), some ((.str), .str []), some ((.sl 61), .nils)]),
 ⟨none, .stA 6 (.t 12) (.t 56), none, []⟩,
 oq 13 (.mov (.t 57))] false 1)
 (.seq (.seq (.region [] [oq 58 (.mov (.t 13)),
 oq 59 (.icmp .neq (.t 58) (.c lI [.int 0]))] false 0)
 (.cond (.t 59) (.seq (.region [] [oq 60 (.bld lA3 [.int 0, .str [], .int 0, .int 0, .str [], .nils] []),
 oq 61 (.mov (.t 13)),
 ⟨none, .st lA3 (.t 6) (.t 60), none, []⟩,
 oq 7 (.mov (.t 61))] false 0)
 .ret)
 .skip))
 (.seq (.seq (.region [] [oq 62 (.fad 0 1 29 3 (.t 4)),
 oq 63 (.ld lI 3 (.t 62))] false 0)
 (.join [(.normal, { slots := [(0, .d (.one (.sl 83))), (4, .d (.one (.ref 29))), (6, .ptr 0 0), (12, .ptr 1 0)], objs := [.var lA3, oS0] })] (.block 3 (.seq (.seq (.region [] [oq 65 (.icmp .eql (.t 63) (.c lI [.int 3])),
 oq 64 (.mov (.t 65))] false 0)
 (.join [(.normal, { slots := [(0, .d (.one (.sl 83))), (4, .d (.one (.ref 29))), (6, .ptr 0 0), (12, .ptr 1 0), (63, .d lI), (64, .d lB)], objs := [.var lA3, oS0] })] (.cond (.t 64) .skip
 (.seq (.region [] [oq 66 (.icmp .eql (.t 63) (.c lI [.int 14])),
 oq 64 (.mov (.t 66))] false 0)
 (.cond (.t 64) .skip
 (.seq (.region [] [oq 67 (.icmp .eql (.t 63) (.c lI [.int 17])),
 oq 64 (.mov (.t 67))] false 0)
 (.cond (.t 64) .skip
 (.region [] [oq 68 (.icmp .eql (.t 63) (.c lI [.int 18])),
 oq 64 (.mov (.t 68))] false 0))))))))
 (.cond (.t 64) (.seq (.region [] [oq 69 (.mov (.t 0)),
 oq 70 (.ld lA4 29 (.t 4)),
 oq 71 (.ldA 6 (.t 12)),
 oq 72 (.bad),
 oq 73 (.bad),
 oq 74 (.bad),
 ⟨none, .bad, none, []⟩,
 oq 7 (.bad)] false 0)
 .ret)
 (.seq (.seq (.region [] [oq 76 (.icmp .eql (.t 63) (.c lI [.int 11])),
 oq 75 (.mov (.t 76))] false 0)
 (.join [(.normal, { slots := [(0, .d (.one (.sl 83))), (4, .d (.one (.ref 29))), (6, .ptr 0 0), (12, .ptr 1 0), (63, .d lI), (75, .d lB)], objs := [.var lA3, oS0] })] (.cond (.t 75) .skip
 (.region [] [oq 77 (.icmp .eql (.t 63) (.c lI [.int 12])),
 oq 75 (.mov (.t 77))] false 0))))
 (.cond (.t 75) (.seq (.region [] [oq 78 (.mov (.t 0)),
 oq 79 (.ld lA4 29 (.t 4)),
 oq 80 (.ldA 6 (.t 12)),
 oq 81 (.bad),
 oq 82 (.bad),
 oq 83 (.bad),
 ⟨none, .bad, none, []⟩,
 oq 7 (.bad)] false 0)
 .ret)
 (.seq (.seq (.region [] [oq 85 (.icmp .eql (.t 63) (.c lI [.int 13])),
 oq 84 (.mov (.t 85))] false 0)
 (.cond (.t 84) .skip
 (.region [] [oq 86 (.icmp .eql (.t 63) (.c lI [.int 15])),
 oq 84 (.mov (.t 86))] false 0)))
 (.cond (.t 84) (.seq (.region [] [oq 87 (.mov (.t 0)),
 oq 88 (.ld lA4 29 (.t 4)),
 oq 89 (.ldA 6 (.t 12)),
 oq 90 (.bad),
 oq 91 (.bad),
 oq 92 (.bad),
 ⟨none, .bad, none, []⟩,
 oq 7 (.bad)] false 0)
 .ret)
 .skip)))))))))
 (.seq (.seq (.region [] [oq 93 (.fad 0 1 46 3 (.t 12)),
 oq 94 (.ldC (.t 93)),
 oq 95 (.icmp .neq (.t 94) (.c lI [.int 6]))] false 0)
 (.cond (.t 95) (.seq (.region [] [oq 96 (.bld lA3 [.int 0, .str [], .int 0, .int 0, .str [], .nils] []),
 ⟨none, .st lA3 (.t 6) (.t 96), none, []⟩,
 oq 7 (.mov (.c lI [.int 8]))] false 0)
 .ret)
 .skip))
 (.seq (.region [] [oq 97 (.mov (.t 0)),
 oq 98 (.ld lA4 29 (.t 4)),
 oq 99 (.ldA 6 (.t 12)),
 oq 100 (.icall 268 54 (typing_fields_i8_en) (typing_fields_i8_ex) [] 0 none [(.t 97), (.t 98), (.t 99)]),
 oq 101 (.ext 0 (.t 100)),
 oq 102 (.ext 1 (.t 100)),
 ⟨none, .st lA3 (.t 6) (.t 101), none, []⟩,
 oq 7 (.mov (.t 102))] false 0)
 .ret))))))) }

def typing_View_a : AFun := { ps := [(.one (.sl 83)), lA4, lA3], rs := [lA3, lI], res := [(true, 6, none), (false, 7, none)], body := (.seq (.region [] [oq 4 (.boxP lA4 29 (.t 1)),
 oq 5 (.boxP lA3 46 (.t 2)),
 oq 6 (.allocO 0 lA3 [.int 0, .str [], .int 0, .int 0, .str [], .nils]),
 oq 7 (.mov (.c lI [.int 0]))] false 1)
 (.seq (.seq (.region [] [oq 13 (.mov (.t 0)),
 oq 14 (.call 30 [(.one (.sl 83))] [lI] [(.t 13)]),
 oq 8 (.mov (.t 14))] false 0)
 (.seq (.region [] [oq 15 (.mov (.t 8)),
 oq 16 (.icmp .neq (.t 15) (.c lI [.int 0]))] false 0)
 (.cond (.t 16) (.seq (.region [] [oq 17 (.bld lA3 [.int 0, .str [], .int 0, .int 0, .str [], .nils] []),
 oq 18 (.mov (.t 8)),
 ⟨none, .st lA3 (.t 6) (.t 17), none, []⟩,
 oq 7 (.mov (.t 18))] false 0)
 .ret)
 .skip)))
 (.seq (.seq (.region [] [oq 19 (.mov (.t 0)),
 oq 20 (.ld lA3 46 (.t 5)),
 oq 21 (.call 31 [(.one (.sl 83)), lA3] [lI] [(.t 19), (.t 20)]),
 oq 9 (.mov (.t 21))] false 0)
 (.seq (.region [] [oq 22 (.mov (.t 9)),
 oq 23 (.icmp .neq (.t 22) (.c lI [.int 0]))] false 0)
 (.cond (.t 23) (.seq (.region [] [oq 24 (.bld lA3 [.int 0, .str [], .int 0, .int 0, .str [], .nils] []),
 oq 25 (.mov (.t 9)),
 ⟨none, .st lA3 (.t 6) (.t 24), none, []⟩,
 oq 7 (.mov (.t 25))] false 0)
 .ret)
 .skip)))
 (.seq (.seq (.region [] [oq 26 (.ld lA4 29 (.t 4)),
 oq 27 (.call 32 [lA4] [lI] [(.t 26)]),
 oq 10 (.mov (.t 27))] false 0)
 (.seq (.region [] [oq 28 (.mov (.t 10)),
 oq 29 (.icmp .neq (.t 28) (.c lI [.int 0]))] false 0)
 (.cond (.t 29) (.seq (.region [] [oq 30 (.bld lA3 [.int 0, .str [], .int 0, .int 0, .str [], .nils] []),
 oq 31 (.mov (.t 10)),
 ⟨none, .st lA3 (.t 6) (.t 30), none, []⟩,
 oq 7 (.mov (.t 31))] false 0)
 .ret)
 .skip)))
 (.seq (.region [] [oq 33 (.mov (.t 0)),
 oq 34 (.ld lA4 29 (.t 4)),
 oq 35 (.ld lA3 46 (.t 5)),
 oq 36 (.call 33 [(.one (.sl 83)), lA4, lA3] [lA3, lI] [(.t 33), (.t 34), (.t 35)]),
 oq 32 (.mov (.t 36)),
 oq 37 (.ext 0 (.t 32)),
 oq 38 (.ext 1 (.t 32)),
 oq 11 (.allocO 0 lA3 [.int 0, .str [], .int 0, .int 0, .str [], .nils]),
 ⟨none, .st lA3 (.t 11) (.t 37), none, []⟩,
 oq 12 (.mov (.t 38))] false 1)
 (.seq (.seq (.region [] [oq 39 (.mov (.t 12)),
 oq 40 (.icmp .neq (.t 39) (.c lI [.int 0]))] false 0)
 (.cond (.t 40) (.seq (.region [] [oq 41 (.bld lA3 [.int 0, .str [], .int 0, .int 0, .str [], .nils] []),
 oq 42 (.mov (.t 12)),
 ⟨none, .st lA3 (.t 6) (.t 41), none, []⟩,
 oq 7 (.mov (.t 42))] false 0)
 .ret)
 .skip))
 (.seq (.seq (.region [] [oq 43 (.mov (.t 0)),
 oq 44 (.ld lA3 46 (.t 11)),
 oq 45 (.call 31 [(.one (.sl 83)), lA3] [lI] [(.t 43), (.t 44)]),
 oq 46 (.icmp .neq (.t 45) (.c lI [.int 0]))] false 0)
 (.cond (.t 46) (.seq (.region [] [oq 47 (.bld lA3 [.int 0, .str [], .int 0, .int 0, .str [], .nils] []),
 ⟨none, .st lA3 (.t 6) (.t 47), none, []⟩,
 oq 7 (.mov (.c lI [.int 2]))] false 0)
 .ret)
 .skip))
 (.seq (.region [] [oq 48 (.ld lA3 46 (.t 11)),
 ⟨none, .st lA3 (.t 6) (.t 48), none, []⟩,
 oq 7 (.mov (.c lI [.int 0]))] false 0)
 .ret)))))))) }

def typing_Has_a : AFun := { ps := [(.one (.sl 83)), lA3, lA0], rs := [lB], res := [(false, 6, none)], body := (.seq (.region [] [oq 4 (.boxP lA3 46 (.t 1)),
 oq 5 (.boxP lA0 25 (.t 2)),
 oq 6 (.mov (.c lB [.bool false]))] false 0)
 (.seq (.seq (.region [] [oq 10 (.ld lA0 25 (.t 5)),
 oq 11 (.call 21 [lA0] [lI] [(.t 10)]),
 oq 12 (.icmp .neq (.t 11) (.c lI [.int 0]))] false 0)
 (.cond (.t 12) (.seq (.region [] [oq 6 (.mov (.c lB [.bool false]))] false 0)
 .ret)
 .skip))
 (.seq (.region [] [oq 14 (.mov (.t 0)),
 oq 15 (.ld lA3 46 (.t 4)),
 oq 16 (.ld lA0 25 (.t 5)),
 oq 17 (.call 34 [(.one (.sl 83)), lA3, lA0] [lB, (.one (.sl 9)), lI] [(.t 14), (.t 15), (.t 16)]),
 oq 13 (.mov (.t 17)),
 oq 18 (.ext 0 (.t 13)),
 oq 19 (.ext 1 (.t 13)),
 oq 20 (.ext 2 (.t 13)),
 oq 7 (.mov (.t 18)),
 oq 8 (.mov (.t 19)),
 oq 9 (.mov (.t 20))] false 0)
 (.seq (.region [] [oq 21 (.mov (.t 7)),
 oq 22 (.mov (.t 21)),
 ⟨some 23, .mov (.t 9), some (22, true), []⟩,
 ⟨some 24, .icmp .eql (.t 23) (.c lI [.int 0]), some (22, true), []⟩,
 oq 25 (.pick (.t 22) (.t 24) (.c lB [.bool false])),
 oq 6 (.mov (.t 25))] false 0)
 .ret)))) }

def slices_Clone_api_Field_i1_a : AImp := { fn := 23, entry := slices_Clone_api_Field_i1_en, res := [.tmp 2], exit := slices_Clone_api_Field_i1_ex, body := (.seq (.region [] [oq 2 (.nilO 0 lA1)] false 1)
 (.seq (.seq (.region [] [oq 3 (.mov (.t 0)),
 oq 4 (.nileq false (.t 3))] false 0)
 (.cond (.t 4) (.seq (.region [] [oq 2 (.nilO 0 lA1)] false 1)
 .ret)
 .skip))
 (.seq (.region [] [oq 5 (.bslO 0 34 lA1 0 [.str [], .int 0, .int 0, .str [], .nils] []),
 oq 6 (.mov (.t 0)),
 oq 7 (.app 1 34 lA1 72 (.t 5) (.t 6)),
 oq 2 (.mov (.t 7))] false 2)
 .ret))) }
/-- slices.Clone[[]clapperbridge/api.Field,clapperbridge/api.Field], to which objects are handed -/
noncomputable def slices_Clone_api_Field_i1 (E : Env) (p0 : C) : Option (List PV) :=
 if p0.isNil = true then
 some [.r [.nils]]
 else
 if (([] : List Row).length + p0.rows.length) * 72 ≤ 140737488355328 then
 some [.r [appC (.sl ([] : List Row)) p0.rows]]
 else none
theorem slices_Clone_api_Field_i1_eq (E : Env) (p0 : C) : runI E slices_Clone_api_Field_i1_a [.r [p0]] = slices_Clone_api_Field_i1 E p0 := by kernel_rfl

def value_Copy_i2_h0 : Shape := { slots := [(1, .ptr 0 0), (2, .ptr 1 0), (10, .d lI), (11, .d lI)], objs := bS1 }
def value_Copy_i2_o0 : List (Exit' × Shape) := [(.exit 0, { slots := [(1, .ptr 0 0), (2, .ptr 1 0)], objs := bS1 })]
def value_Copy_i2_c0 : ACode := (.seq (.region [] [oq 12 (.icmp .lss (.t 11) (.t 10))] false 0)
 (.seq (.cond (.t 12) .skip
 (.exit 0))
 (.seq (.block 1 (.seq (.region [] [oq 13 (.mov (.t 11)),
 oq 3 (.mov (.t 13))] false 0)
 (.region [] [oq 14 (.fad 3 1 25 23 (.t 1)),
 ⟨some 15, .ldC (.t 14), none, [0]⟩,
 oq 16 (.mov (.t 3)),
 oq 17 (.fad 3 1 25 23 (.t 1)),
 ⟨some 18, .ldC (.t 17), none, [3]⟩,
 oq 19 (.mov (.t 3)),
 ⟨some 20, .iad 34 lA1 (.t 18) (.t 19), none, [3, 4, 5]⟩,
 ⟨some 21, .fad 1 4 34 25 (.t 20), none, [3, 4, 5, 6]⟩,
 ⟨some 22, .ld lA0 25 (.t 21), none, [3, 4, 5, 6, 7]⟩,
 ⟨some 23, .icall 262 16 (value_Copy_i2_en) (value_Copy_i2_ex) [] 0 none [(.t 22)], none, [3, 4, 5, 6, 7, 8]⟩,
 ⟨some 24, .iad 34 lA1 (.t 15) (.t 16), none, [0, 1, 2, 3, 4, 5, 6, 7, 8, 9]⟩,
 ⟨some 25, .fad 1 4 34 25 (.t 24), none, [0, 1, 2, 3, 4, 5, 6, 7, 8, 9, 10]⟩,
 ⟨none, .st lA0 (.t 25) (.t 23), none, [0, 1, 2, 3, 4, 5, 6, 7, 8, 9, 10, 11]⟩] true 0)))
 (.region [] [oq 26 (.ibin .add (.t 11) (.c lI [.int 1])),
 oq 11 (.mov (.t 26))] false 0))))
noncomputable def value_Copy_i2_l0 (E : Env) (v0 : Int) (v1 : Int) (v2 : Int) (v3 : Int) (v4 : List UInt8) (v5 : Row) (v6 : C) : Option (Nat × List PV) := E.fix (stepOf E value_Copy_i2_c0 value_Copy_i2_h0 value_Copy_i2_o0) [.r [.int v0], .r [.int v1], .r [.int v2], .r [.int v3], .r [.str v4], .r v5, .r [v6]]
noncomputable def value_Copy_i2_b0 (E : Env) (X : Int → Int → Int → Int → List UInt8 → Row → C → Option (Nat × List PV)) (v0 : Int) (v1 : Int) (v2 : Int) (v3 : Int) (v4 : List UInt8) (v5 : Row) (v6 : C) : Option (Nat × List PV) :=
 if (decide (v1 < v0)) = true then
 if (0 : Int) ≤ v1 ∧ v1 < (v6.rows.length : Int) then
 if v1.toNat < v6.rows.length then
 (E.ic value_Copy_i2_n [.r [at_ (rowsAt v6.rows v1.toNat) 1, at_ (rowsAt v6.rows v1.toNat) 2, at_ (rowsAt v6.rows v1.toNat) 3, at_ (rowsAt v6.rows v1.toNat) 4]]).bind fun y2 =>
 if (0 : Int) ≤ v1 ∧ v1 < (v6.rows.length : Int) then
 if v1.toNat < v6.rows.length then
 X v0 (Go.IntKind.i64.wrap (v1 + 1)) v2 v3 v4 v5 (.sl (v6.rows.set v1.toNat (put (rowsAt v6.rows v1.toNat) 1 4 (gR 0 y2) 0 5)))
 else none
 else none
 else none
 else none
 else
 some (0, [.r [.int v2], .r [.int v3], .r [.str v4], .r v5, .r [v6]])
theorem value_Copy_i2_s0 (E : Env) (X : List PV → Option (Nat × List PV)) (v0 : Int) (v1 : Int) (v2 : Int) (v3 : Int) (v4 : List UInt8) (v5 : Row) (v6 : C) : stepOf E value_Copy_i2_c0 value_Copy_i2_h0 value_Copy_i2_o0 X [.r [.int v0], .r [.int v1], .r [.int v2], .r [.int v3], .r [.str v4], .r v5, .r [v6]] = value_Copy_i2_b0 E (fun (v0 : Int) (v1 : Int) (v2 : Int) (v3 : Int) (v4 : List UInt8) (v5 : Row) (v6 : C) => X [.r [.int v0], .r [.int v1], .r [.int v2], .r [.int v3], .r [.str v4], .r v5, .r [v6]]) v0 v1 v2 v3 v4 v5 v6 := by kernel_rfl
def value_Copy_i2_a : AImp := { fn := 16, entry := value_Copy_i2_en, res := [.var 2 lA0], exit := value_Copy_i2_ex, body := (.seq (.region [] [oq 1 (.boxA 0 (.t 0)),
 oq 2 (.allocO 1 lA0 [.int 0, .int 0, .str [], .nils])] false 2)
 (.seq (.region [] [oq 4 (.fad 3 1 25 23 (.t 1)),
 oq 5 (.ldC (.t 4)),
 oq 6 (.icall 261 23 (slices_Clone_api_Field_i1_en) (slices_Clone_api_Field_i1_ex) [] 0 none [(.t 5)]),
 oq 7 (.fad 3 1 25 23 (.t 1)),
 ⟨none, .stC (.t 7) (.t 6), none, []⟩] false 1)
 (.seq (.seq (.region [] [oq 8 (.fad 3 1 25 23 (.t 1)),
 oq 9 (.ldC (.t 8)),
 oq 10 (.lenL (.t 9)),
 oq 11 (.mov (.c lI [.int 0]))] false 0)
 (.block 0 (.loop value_Copy_i2_h0 value_Copy_i2_o0 value_Copy_i2_c0)))
 (.seq (.ghost (.frz 1 3 34 lA1) (.region [] [oq 27 (.ldA 4 (.t 1)),
 ⟨none, .st lA0 (.t 2) (.t 27), none, []⟩] false 0))
 .ret)))) }
/-- clapperbridge/value.Copy, to which objects are handed -/
noncomputable def value_Copy_i2 (E : Env) (p0 : Row) : Option (List PV) :=
 (E.ic slices_Clone_api_Field_i1_n [.r [at_ p0 3]]).bind fun y1 =>
 (value_Copy_i2_l0 E (((gC 0 y1).rows).length : Int) 0 ((at_ p0 0).toI) ((at_ p0 1).toI) ((at_ p0 2).toS) [.int 0, .int 0, .str [], .nils] (gC 0 y1)).bind fun x3 =>
 some [.r [.int (gI 0 x3.2), .int (gI 1 x3.2), .str (gS 2 x3.2), gC 4 x3.2]]
theorem value_Copy_i2_eq (E : Env) (p0 : Row) : runI E value_Copy_i2_a [.r p0] = value_Copy_i2 E p0 := by kernel_rfl

def value_Copy_i0_h0 : Shape := { slots := [(1, .ptr 0 0), (2, .ptr 1 0), (10, .d lI), (11, .d lI)], objs := bS1 }
def value_Copy_i0_o0 : List (Exit' × Shape) := [(.exit 0, { slots := [(1, .ptr 0 0), (2, .ptr 1 0)], objs := bS1 })]
def value_Copy_i0_c0 : ACode := (.seq (.region [] [oq 12 (.icmp .lss (.t 11) (.t 10))] false 0)
 (.seq (.cond (.t 12) .skip
 (.exit 0))
 (.seq (.block 1 (.seq (.region [] [oq 13 (.mov (.t 11)),
 oq 3 (.mov (.t 13))] false 0)
 (.region [] [oq 14 (.fad 3 1 25 23 (.t 1)),
 ⟨some 15, .ldC (.t 14), none, [0]⟩,
 oq 16 (.mov (.t 3)),
 oq 17 (.fad 3 1 25 23 (.t 1)),
 ⟨some 18, .ldC (.t 17), none, [3]⟩,
 oq 19 (.mov (.t 3)),
 ⟨some 20, .iad 34 lA1 (.t 18) (.t 19), none, [3, 4, 5]⟩,
 ⟨some 21, .fad 1 4 34 25 (.t 20), none, [3, 4, 5, 6]⟩,
 ⟨some 22, .ld lA0 25 (.t 21), none, [3, 4, 5, 6, 7]⟩,
 ⟨some 23, .icall 262 16 (value_Copy_i2_en) (value_Copy_i2_ex) [] 0 none [(.t 22)], none, [3, 4, 5, 6, 7, 8]⟩,
 ⟨some 24, .iad 34 lA1 (.t 15) (.t 16), none, [0, 1, 2, 3, 4, 5, 6, 7, 8, 9]⟩,
 ⟨some 25, .fad 1 4 34 25 (.t 24), none, [0, 1, 2, 3, 4, 5, 6, 7, 8, 9, 10]⟩,
 ⟨none, .st lA0 (.t 25) (.t 23), none, [0, 1, 2, 3, 4, 5, 6, 7, 8, 9, 10, 11]⟩] true 0)))
 (.region [] [oq 26 (.ibin .add (.t 11) (.c lI [.int 1])),
 oq 11 (.mov (.t 26))] false 0))))
noncomputable def value_Copy_i0_l0 (E : Env) (v0 : Int) (v1 : Int) (v2 : Int) (v3 : Int) (v4 : List UInt8) (v5 : Row) (v6 : C) : Option (Nat × List PV) := E.fix (stepOf E value_Copy_i0_c0 value_Copy_i0_h0 value_Copy_i0_o0) [.r [.int v0], .r [.int v1], .r [.int v2], .r [.int v3], .r [.str v4], .r v5, .r [v6]]
noncomputable def value_Copy_i0_b0 (E : Env) (X : Int → Int → Int → Int → List UInt8 → Row → C → Option (Nat × List PV)) (v0 : Int) (v1 : Int) (v2 : Int) (v3 : Int) (v4 : List UInt8) (v5 : Row) (v6 : C) : Option (Nat × List PV) :=
 if (decide (v1 < v0)) = true then
 if (0 : Int) ≤ v1 ∧ v1 < (v6.rows.length : Int) then
 if v1.toNat < v6.rows.length then
 (E.ic value_Copy_i2_n [.r [at_ (rowsAt v6.rows v1.toNat) 1, at_ (rowsAt v6.rows v1.toNat) 2, at_ (rowsAt v6.rows v1.toNat) 3, at_ (rowsAt v6.rows v1.toNat) 4]]).bind fun y2 =>
 if (0 : Int) ≤ v1 ∧ v1 < (v6.rows.length : Int) then
 if v1.toNat < v6.rows.length then
 X v0 (Go.IntKind.i64.wrap (v1 + 1)) v2 v3 v4 v5 (.sl (v6.rows.set v1.toNat (put (rowsAt v6.rows v1.toNat) 1 4 (gR 0 y2) 0 5)))
 else none
 else none
 else none
 else none
 else
 some (0, [.r [.int v2], .r [.int v3], .r [.str v4], .r v5, .r [v6]])
theorem value_Copy_i0_s0 (E : Env) (X : List PV → Option (Nat × List PV)) (v0 : Int) (v1 : Int) (v2 : Int) (v3 : Int) (v4 : List UInt8) (v5 : Row) (v6 : C) : stepOf E value_Copy_i0_c0 value_Copy_i0_h0 value_Copy_i0_o0 X [.r [.int v0], .r [.int v1], .r [.int v2], .r [.int v3], .r [.str v4], .r v5, .r [v6]] = value_Copy_i0_b0 E (fun (v0 : Int) (v1 : Int) (v2 : Int) (v3 : Int) (v4 : List UInt8) (v5 : Row) (v6 : C) => X [.r [.int v0], .r [.int v1], .r [.int v2], .r [.int v3], .r [.str v4], .r v5, .r [v6]]) v0 v1 v2 v3 v4 v5 v6 := by kernel_rfl
def value_Copy_i0_a : AImp := { fn := 16, entry := value_Copy_i0_en, res := [.var 2 lA0], exit := value_Copy_i0_ex, body := (.seq (.region [] [oq 1 (.boxA 0 (.t 0)),
 oq 2 (.allocO 1 lA0 [.int 0, .int 0, .str [], .nils])] false 2)
 (.seq (.region [] [oq 4 (.fad 3 1 25 23 (.t 1)),
 oq 5 (.ldC (.t 4)),
 oq 6 (.icall 261 23 (slices_Clone_api_Field_i1_en) (slices_Clone_api_Field_i1_ex) [] 0 none [(.t 5)]),
 oq 7 (.fad 3 1 25 23 (.t 1)),
 ⟨none, .stC (.t 7) (.t 6), none, []⟩] false 1)
 (.seq (.seq (.region [] [oq 8 (.fad 3 1 25 23 (.t 1)),
 oq 9 (.ldC (.t 8)),
 oq 10 (.lenL (.t 9)),
 oq 11 (.mov (.c lI [.int 0]))] false 0)
 (.block 0 (.loop value_Copy_i0_h0 value_Copy_i0_o0 value_Copy_i0_c0)))
 (.seq (.ghost (.frz 1 3 34 lA1) (.region [] [oq 27 (.ldA 4 (.t 1)),
 ⟨none, .st lA0 (.t 2) (.t 27), none, []⟩] false 0))
 .ret)))) }
/-- clapperbridge/value.Copy, to which objects are handed -/
noncomputable def value_Copy_i0 (E : Env) (p0 : Int) (p1 : Int) (p2 : List UInt8) (p3 : C) : Option (List PV) :=
 (E.ic slices_Clone_api_Field_i1_n [.r [p3]]).bind fun y1 =>
 (value_Copy_i0_l0 E (((gC 0 y1).rows).length : Int) 0 p0 p1 p2 [.int 0, .int 0, .str [], .nils] (gC 0 y1)).bind fun x3 =>
 some [.r [.int (gI 0 x3.2), .int (gI 1 x3.2), .str (gS 2 x3.2), gC 4 x3.2]]
theorem value_Copy_i0_eq (E : Env) (p0 : Int) (p1 : Int) (p2 : List UInt8) (p3 : C) : runI E value_Copy_i0_a [.r [.int p0], .r [.int p1], .r [.str p2], .r [p3]] = value_Copy_i0 E p0 p1 p2 p3 := by kernel_rfl

def slices_Index_string_h0 : Shape := { slots := [(0, .d (.one (.sl 9))), (1, .d lS), (7, .d lI), (8, .d lI)], objs := [] }
def slices_Index_string_o0 : List (Exit' × Shape) := [(.exit 0, { slots := [], objs := [] }), (.ret, { slots := [(4, .d lI)], objs := [] })]
def slices_Index_string_c0 : ACode := (.seq (.region [] [oq 9 (.icmp .lss (.t 8) (.t 7))] false 0)
 (.seq (.cond (.t 9) .skip
 (.exit 0))
 (.seq (.block 1 (.seq (.region [] [oq 10 (.mov (.t 8)),
 oq 5 (.mov (.t 10))] false 0)
 (.seq (.region [] [oq 11 (.mov (.t 1)),
 oq 12 (.mov (.t 0)),
 oq 13 (.mov (.t 5)),
 oq 14 (.iad 9 lS (.t 12) (.t 13)),
 oq 15 (.ld lS 9 (.t 14)),
 oq 16 (.scmp .eql (.t 11) (.t 15))] false 0)
 (.cond (.t 16) (.seq (.region [] [oq 17 (.mov (.t 5)),
 oq 4 (.mov (.t 17))] false 0)
 .ret)
 .skip))))
 (.region [] [oq 18 (.ibin .add (.t 8) (.c lI [.int 1])),
 oq 8 (.mov (.t 18))] false 0))))
def slices_Index_string_a : AFun := { ps := [(.one (.sl 9)), lS], rs := [lI], res := [(false, 4, none)], body := (.seq (.region [] [oq 4 (.mov (.c lI [.int 0]))] false 0)
 (.seq (.seq (.region [] [oq 6 (.mov (.t 0)),
 oq 7 (.lenL (.t 6)),
 oq 8 (.mov (.c lI [.int 0]))] false 0)
 (.block 0 (.loop slices_Index_string_h0 slices_Index_string_o0 slices_Index_string_c0)))
 (.seq (.region [] [oq 4 (.mov (.c lI [.int (-1)]))] false 0)
 .ret))) }

def get_Find_1_a : AFun := { ps := [lA1, (.one (.ref 9))], rs := [lB], res := [(false, 3, none)], body := (.seq (.region [] [oq 2 (.boxP lA1 34 (.t 0)),
 oq 3 (.mov (.c lB [.bool false]))] false 0)
 (.seq (.region [] [oq 4 (.fad 0 1 34 9 (.t 2)),
 oq 5 (.ld lS 9 (.t 4)),
 oq 6 (.ld lS 9 (.t 1)),
 oq 7 (.scmp .eql (.t 5) (.t 6)),
 oq 3 (.mov (.t 7))] false 0)
 .ret)) }
/-- clapperbridge/get.Find$1 -/
noncomputable def get_Find_1 (E : Env) (p0 : Row) (p1 : C) : Option (List Row) :=
 if p1.isDp = true then
 some [[.bool (((at_ p0 0).toS) == ((at_ p1.dpRow 0).toS))]]
 else none
theorem get_Find_1_eq (E : Env) (p0 : Row) (p1 : C) : runP E get_Find_1_a [p0, [p1]] = get_Find_1 E p0 p1 := by kernel_rfl
end Go.Ev
