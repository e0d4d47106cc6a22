/-
  A part of the proof: what the functions of the program compute.
-/
import Derived.Test.YtgfpahfegbmoeaaZNum
set_option linter.all false
set_option maxRecDepth 100000
namespace Go.Ev
def value_Size_h0 : Shape := { slots := [(3, .d lI), (7, .d (.one (.sl 64))), (8, .d lI), (9, .d lI)], objs := [] }
def value_Size_o0 : List (Exit' × Shape) := [(.exit 0, { slots := [(3, .d lI)], objs := [] })]
def value_Size_c0 : ACode := (.seq (.region [] [oq 10 (.icmp .lss (.t 9) (.t 8))] false 0)
 (.seq (.cond (.t 10) .skip
 (.exit 0))
 (.seq (.block 1 (.seq (.region [] [oq 11 (.iad 64 lA0 (.t 7) (.t 9)),
 oq 12 (.ld lA0 64 (.t 11)),
 oq 5 (.allocO 0 lA0 [.str [], .int 0, .int 0, .str [], .nils]),
 ⟨none, .st lA0 (.t 5) (.t 12), none, []⟩] false 1)
 (.region [] [oq 13 (.mov (.t 3)),
 oq 14 (.fad 1 4 64 49 (.t 5)),
 oq 15 (.ld lA1 49 (.t 14)),
 oq 16 (.call 34 [lA1] [lI] [(.t 15)]),
 oq 17 (.ibin .add (.t 13) (.t 16)),
 oq 3 (.mov (.t 17))] false 0)))
 (.region [] [oq 18 (.ibin .add (.t 9) (.c lI [.int 1])),
 oq 9 (.mov (.t 18))] false 0))))
def value_Size_a : AFun := { ps := [lA1], rs := [lI], res := [(false, 2, none)], body := (.seq (.region [] [oq 1 (.boxP lA1 49 (.t 0)),
 oq 2 (.mov (.c lI [.int 0]))] false 0)
 (.seq (.region [] [oq 3 (.mov (.c lI [.int 1]))] false 0)
 (.seq (.seq (.region [] [oq 6 (.fad 3 1 49 47 (.t 1)),
 oq 7 (.ld (.one (.sl 64)) 47 (.t 6)),
 oq 8 (.lenL (.t 7)),
 oq 9 (.mov (.c lI [.int 0]))] false 0)
 (.block 0 (.loop value_Size_h0 value_Size_o0 value_Size_c0)))
 (.seq (.region [] [oq 19 (.mov (.t 3)),
 oq 2 (.mov (.t 19))] false 0)
 .ret)))) }

def value_Deep_h0 : Shape := { slots := [(3, .d lI), (7, .d (.one (.sl 64))), (8, .d lI), (9, .d lI)], objs := [] }
def value_Deep_o0 : List (Exit' × Shape) := [(.exit 0, { slots := [(3, .d lI)], objs := [] })]
def value_Deep_c0 : ACode := (.seq (.region [] [oq 10 (.icmp .lss (.t 9) (.t 8))] false 0)
 (.seq (.cond (.t 10) .skip
 (.exit 0))
 (.seq (.block 1 (.seq (.region [] [oq 11 (.iad 64 lA0 (.t 7) (.t 9)),
 oq 12 (.ld lA0 64 (.t 11)),
 oq 5 (.allocO 0 lA0 [.str [], .int 0, .int 0, .str [], .nils]),
 ⟨none, .st lA0 (.t 5) (.t 12), none, []⟩] false 1)
 (.region [] [oq 13 (.mov (.t 3)),
 oq 14 (.fad 1 4 64 49 (.t 5)),
 oq 15 (.ld lA1 49 (.t 14)),
 oq 16 (.call 35 [lA1] [lI] [(.t 15)]),
 oq 17 (.imin true [(.t 13), (.t 16)]),
 oq 3 (.mov (.t 17))] false 0)))
 (.region [] [oq 18 (.ibin .add (.t 9) (.c lI [.int 1])),
 oq 9 (.mov (.t 18))] false 0))))
def value_Deep_a : AFun := { ps := [lA1], rs := [lI], res := [(false, 2, none)], body := (.seq (.region [] [oq 1 (.boxP lA1 49 (.t 0)),
 oq 2 (.mov (.c lI [.int 0]))] false 0)
 (.seq (.region [] [oq 3 (.mov (.c lI [.int 0]))] false 0)
 (.seq (.seq (.region [] [oq 6 (.fad 3 1 49 47 (.t 1)),
 oq 7 (.ld (.one (.sl 64)) 47 (.t 6)),
 oq 8 (.lenL (.t 7)),
 oq 9 (.mov (.c lI [.int 0]))] false 0)
 (.block 0 (.loop value_Deep_h0 value_Deep_o0 value_Deep_c0)))
 (.seq (.region [] [oq 19 (.mov (.t 3)),
 oq 20 (.ibin .add (.t 19) (.c lI [.int 1])),
 oq 2 (.mov (.t 20))] false 0)
 .ret)))) }

def value_Scalar_a : AFun := { ps := [lI], rs := [lB], res := [(false, 2, none)], body := (.seq (.region [] [oq 2 (.mov (.c lB [.bool false]))] false 0)
 (.seq (.region [] [oq 3 (.mov (.t 0)),
 oq 4 (.icmp .geq (.t 3) (.c lI [.int 0])),
 oq 5 (.mov (.t 4)),
 ⟨some 6, .mov (.t 0), some (5, true), []⟩,
 ⟨some 7, .icmp .leq (.t 6) (.c lI [.int 5]), some (5, true), []⟩,
 oq 8 (.pick (.t 5) (.t 7) (.c lB [.bool false])),
 oq 9 (.mov (.t 8)),
 ⟨some 10, .mov (.t 0), some (9, false), []⟩,
 ⟨some 11, .icmp .eql (.t 10) (.c lI [.int 11]), some (9, false), []⟩,
 oq 12 (.pick (.t 9) (.c lB [.bool true]) (.t 11)),
 oq 2 (.mov (.t 12))] false 0)
 .ret)) }

def value_unused_a : AFun := { ps := [lA1], rs := [lB], res := [(false, 2, none)], body := (.seq (.region [] [oq 1 (.boxP lA1 49 (.t 0)),
 oq 2 (.mov (.c lB [.bool false]))] false 0)
 (.seq (.join [(.normal, { slots := [(1, .d (.one (.ref 49))), (3, .d lB)], objs := [] })] (.region [] [oq 4 (.fad 0 1 49 3 (.t 1)),
 oq 5 (.ld lI 3 (.t 4)),
 oq 6 (.icmp .geq (.t 5) (.c lI [.int 1])),
 oq 7 (.mov (.t 6)),
 ⟨some 8, .fad 0 1 49 3 (.t 1), some (7, true), []⟩,
 ⟨some 9, .ld lI 3 (.t 8), some (7, true), []⟩,
 ⟨some 10, .icmp .leq (.t 9) (.c lI [.int 4]), some (7, true), []⟩,
 oq 11 (.pick (.t 7) (.t 10) (.c lB [.bool false])),
 oq 12 (.mov (.t 11)),
 ⟨some 13, .fad 0 1 49 3 (.t 1), some (12, false), []⟩,
 ⟨some 14, .ld lI 3 (.t 13), some (12, false), []⟩,
 ⟨some 15, .icmp .eql (.t 14) (.c lI [.int 11]), some (12, false), []⟩,
 oq 16 (.pick (.t 12) (.c lB [.bool true]) (.t 15)),
 oq 3 (.mov (.t 16))] false 0))
 (.seq (.region [] [oq 17 (.mov (.t 3)),
 oq 18 (.not (.t 17)),
 oq 19 (.mov (.t 18)),
 ⟨some 20, .fad 1 1 49 3 (.t 1), some (19, true), []⟩,
 ⟨some 21, .ld lI 3 (.t 20), some (19, true), []⟩,
 ⟨some 22, .icmp .neq (.t 21) (.c lI [.int 0]), some (19, true), []⟩,
 oq 23 (.pick (.t 19) (.t 22) (.c lB [.bool false])),
 oq 24 (.mov (.t 23)),
 ⟨some 25, .fad 0 1 49 3 (.t 1), some (24, false), []⟩,
 ⟨some 26, .ld lI 3 (.t 25), some (24, false), []⟩,
 ⟨some 27, .icmp .neq (.t 26) (.c lI [.int 5]), some (24, false), []⟩,
 ⟨some 28, .mov (.t 27), some (24, false), []⟩,
 ⟨some 29, .fad 2 1 49 9 (.t 1), some (28, true), []⟩,
 ⟨some 30, .ld lS 9 (.t 29), some (28, true), []⟩,
 ⟨some 31, .scmp .neq (.t 30) (.c lS [.str ([] : List UInt8)]), some (28, true), []⟩,
 ⟨some 32, .pick (.t 28) (.t 31) (.c lB [.bool false]), some (24, false), []⟩,
 oq 33 (.pick (.t 24) (.c lB [.bool true]) (.t 32)),
 oq 34 (.mov (.t 33)),
 ⟨some 35, .fad 0 1 49 3 (.t 1), some (34, false), []⟩,
 ⟨some 36, .ld lI 3 (.t 35), some (34, false), []⟩,
 ⟨some 37, .call 48 [lI] [lB] [(.t 36)], some (34, false), []⟩,
 ⟨some 38, .mov (.t 37), some (34, false), []⟩,
 ⟨some 39, .fad 3 1 49 47 (.t 1), some (38, true), []⟩,
 ⟨some 40, .ld (.one (.sl 64)) 47 (.t 39), some (38, true), []⟩,
 ⟨some 41, .lenL (.t 40), some (38, true), []⟩,
 ⟨some 42, .icmp .gtr (.t 41) (.c lI [.int 0]), some (38, true), []⟩,
 ⟨some 43, .pick (.t 38) (.t 42) (.c lB [.bool false]), some (34, false), []⟩,
 oq 44 (.pick (.t 34) (.c lB [.bool true]) (.t 43)),
 oq 2 (.mov (.t 44))] false 0)
 .ret))) }

def value_number_a : AFun := { ps := [lA1], rs := [lB], res := [(false, 2, none)], body := (.seq (.region [] [oq 1 (.boxP lA1 49 (.t 0)),
 oq 2 (.mov (.c lB [.bool false]))] false 0)
 (.seq (.seq (.region [] [oq 3 (.fad 0 1 49 3 (.t 1)),
 oq 4 (.ld lI 3 (.t 3))] false 0)
 (.block 0 (.seq (.region [] [oq 6 (.icmp .eql (.t 4) (.c lI [.int 1])),
 oq 5 (.mov (.t 6))] false 0)
 (.cond (.t 5) (.seq (.region [] [oq 7 (.fad 1 1 49 3 (.t 1)),
 oq 8 (.ld lI 3 (.t 7)),
 oq 9 (.icmp .eql (.t 8) (.c lI [.int 0])),
 oq 10 (.mov (.t 9)),
 ⟨some 11, .fad 1 1 49 3 (.t 1), some (10, false), []⟩,
 ⟨some 12, .ld lI 3 (.t 11), some (10, false), []⟩,
 ⟨some 13, .icmp .eql (.t 12) (.c lI [.int 1]), some (10, false), []⟩,
 oq 14 (.pick (.t 10) (.c lB [.bool true]) (.t 13)),
 oq 2 (.mov (.t 14))] false 0)
 .ret)
 (.seq (.region [] [oq 16 (.icmp .eql (.t 4) (.c lI [.int 2])),
 oq 15 (.mov (.t 16))] false 0)
 (.cond (.t 15) (.seq (.region [] [oq 17 (.fad 1 1 49 3 (.t 1)),
 oq 18 (.ld lI 3 (.t 17)),
 oq 19 (.icmp .geq (.t 18) (.c lI [.int (-9007199254740992)])),
 oq 20 (.mov (.t 19)),
 ⟨some 21, .fad 1 1 49 3 (.t 1), some (20, true), []⟩,
 ⟨some 22, .ld lI 3 (.t 21), some (20, true), []⟩,
 ⟨some 23, .icmp .leq (.t 22) (.c lI [.int 9007199254740992]), some (20, true), []⟩,
 oq 24 (.pick (.t 20) (.t 23) (.c lB [.bool false])),
 oq 2 (.mov (.t 24))] false 0)
 .ret)
 (.seq (.region [] [oq 26 (.icmp .eql (.t 4) (.c lI [.int 4])),
 oq 25 (.mov (.t 26))] false 0)
 (.cond (.t 25) (.seq (.region [] [oq 27 (.fad 1 1 49 3 (.t 1)),
 oq 28 (.ld lI 3 (.t 27)),
 oq 29 (.icmp .geq (.t 28) (.c lI [.int 0])),
 oq 30 (.mov (.t 29)),
 ⟨some 31, .fad 1 1 49 3 (.t 1), some (30, true), []⟩,
 ⟨some 32, .ld lI 3 (.t 31), some (30, true), []⟩,
 ⟨some 33, .icmp .leq (.t 32) (.c lI [.int 4194304]), some (30, true), []⟩,
 oq 34 (.pick (.t 30) (.t 33) (.c lB [.bool false])),
 oq 2 (.mov (.t 34))] false 0)
 .ret)
 (.seq (.region [] [oq 36 (.icmp .eql (.t 4) (.c lI [.int 11])),
 oq 35 (.mov (.t 36))] false 0)
 (.cond (.t 35) (.seq (.region [] [oq 37 (.fad 1 1 49 3 (.t 1)),
 oq 38 (.ld lI 3 (.t 37)),
 oq 39 (.icmp .geq (.t 38) (.c lI [.int 0])),
 oq 40 (.mov (.t 39)),
 ⟨some 41, .fad 1 1 49 3 (.t 1), some (40, true), []⟩,
 ⟨some 42, .ld lI 3 (.t 41), some (40, true), []⟩,
 ⟨some 43, .icmp .leq (.t 42) (.c lI [.int 9007199254740992]), some (40, true), []⟩,
 oq 44 (.pick (.t 40) (.t 43) (.c lB [.bool false])),
 oq 2 (.mov (.t 44))] false 0)
 .ret)
 .skip))))))))))
 (.seq (.region [] [oq 2 (.mov (.c lB [.bool true]))] false 0)
 .ret))) }

def value_Name_h0 : Shape := { slots := [(23, .d (.one (.sl 5))), (24, .d lI), (25, .d lI)], objs := [] }
def value_Name_o0 : List (Exit' × Shape) := [(.exit 0, { slots := [], objs := [] }), (.ret, { slots := [(2, .d lB)], objs := [] })]
def value_Name_c0 : ACode := (.seq (.region [] [oq 26 (.icmp .lss (.t 25) (.t 24))] false 0)
 (.seq (.cond (.t 26) .skip
 (.exit 0))
 (.seq (.join [(.normal, { slots := [(23, .d (.one (.sl 5))), (24, .d lI), (25, .d lI)], objs := [] }), (.ret, { slots := [(2, .d lB)], objs := [] })] (.block 1 (.seq (.region [] [oq 27 (.iad 5 lU (.t 23) (.t 25)),
 oq 28 (.ld lU 5 (.t 27)),
 oq 4 (.mov (.t 28))] false 0)
 (.seq (.region [] [oq 29 (.mov (.t 4)),
 oq 30 (.icmp .geq (.t 29) (.c lU [.int 97])),
 oq 31 (.mov (.t 30)),
 ⟨some 32, .mov (.t 4), some (31, true), []⟩,
 ⟨some 33, .icmp .leq (.t 32) (.c lU [.int 122]), some (31, true), []⟩,
 oq 34 (.pick (.t 31) (.t 33) (.c lB [.bool false])),
 oq 35 (.mov (.t 34)),
 ⟨some 36, .mov (.t 4), some (35, false), []⟩,
 ⟨some 37, .icmp .geq (.t 36) (.c lU [.int 48]), some (35, false), []⟩,
 ⟨some 38, .mov (.t 37), some (35, false), []⟩,
 ⟨some 39, .mov (.t 4), some (38, true), []⟩,
 ⟨some 40, .icmp .leq (.t 39) (.c lU [.int 57]), some (38, true), []⟩,
 ⟨some 41, .pick (.t 38) (.t 40) (.c lB [.bool false]), some (35, false), []⟩,
 oq 42 (.pick (.t 35) (.c lB [.bool true]) (.t 41)),
 oq 43 (.mov (.t 42)),
 ⟨some 44, .mov (.t 4), some (43, false), []⟩,
 ⟨some 45, .icmp .eql (.t 44) (.c lU [.int 45]), some (43, false), []⟩,
 oq 46 (.pick (.t 43) (.c lB [.bool true]) (.t 45)),
 oq 47 (.not (.t 46))] false 0)
 (.cond (.t 47) (.seq (.region [] [oq 2 (.mov (.c lB [.bool false]))] false 0)
 .ret)
 .skip)))))
 (.region [] [oq 48 (.ibin .add (.t 25) (.c lI [.int 1])),
 oq 25 (.mov (.t 48))] false 0))))
def value_Name_a : AFun := { ps := [lS], rs := [lB], res := [(false, 2, none)], body := (.seq (.region [] [oq 2 (.mov (.c lB [.bool false]))] false 0)
 (.seq (.seq (.join [(.normal, { slots := [(0, .d lS), (21, .d lB)], objs := [] })] (.region [] [oq 5 (.mov (.t 0)),
 oq 6 (.scmp .eql (.t 5) (.c lS [.str ([] : List UInt8)])),
 oq 7 (.mov (.t 6)),
 ⟨some 8, .mov (.t 0), some (7, false), []⟩,
 ⟨some 9, .lenS (.t 8), some (7, false), []⟩,
 ⟨some 10, .icmp .gtr (.t 9) (.c lI [.int 16]), some (7, false), []⟩,
 oq 11 (.pick (.t 7) (.c lB [.bool true]) (.t 10)),
 oq 12 (.mov (.t 11)),
 ⟨some 13, .mov (.t 0), some (12, false), []⟩,
 ⟨some 14, .idxS (.t 13) (.c lI [.int 0]), some (12, false), []⟩,
 ⟨some 15, .icmp .lss (.t 14) (.c lU [.int 97]), some (12, false), []⟩,
 oq 16 (.pick (.t 12) (.c lB [.bool true]) (.t 15)),
 oq 17 (.mov (.t 16)),
 ⟨some 18, .mov (.t 0), some (17, false), []⟩,
 ⟨some 19, .idxS (.t 18) (.c lI [.int 0]), some (17, false), []⟩,
 ⟨some 20, .icmp .gtr (.t 19) (.c lU [.int 122]), some (17, false), []⟩,
 oq 21 (.pick (.t 17) (.c lB [.bool true]) (.t 20))] false 0))
 (.cond (.t 21) (.seq (.region [] [oq 2 (.mov (.c lB [.bool false]))] false 0)
 .ret)
 .skip))
 (.seq (.seq (.region [] [oq 22 (.mov (.t 0)),
 oq 23 (.s2b 5 (.t 22)),
 oq 24 (.lenL (.t 23)),
 oq 25 (.mov (.c lI [.int 0]))] false 0)
 (.block 0 (.loop value_Name_h0 value_Name_o0 value_Name_c0)))
 (.seq (.region [] [oq 2 (.mov (.c lB [.bool true]))] false 0)
 .ret)))) }

def slices_IndexFunc_api_Field_h0 : Shape := { slots := [(0, .d (.one (.sl 64))), (1, .d (.one (.fn 85))), (7, .d lI), (8, .d lI)], objs := [] }
def slices_IndexFunc_api_Field_o0 : List (Exit' × Shape) := [(.exit 0, { slots := [], objs := [] }), (.ret, { slots := [(4, .d lI)], objs := [] })]
def slices_IndexFunc_api_Field_c0 : ACode := (.seq (.region [] [oq 9 (.icmp .lss (.t 8) (.t 7))] false 0)
 (.seq (.cond (.t 9) .skip
 (.exit 0))
 (.seq (.block 1 (.seq (.region [] [oq 10 (.mov (.t 8)),
 oq 5 (.mov (.t 10))] false 0)
 (.seq (.region [] [oq 11 (.mov (.t 1)),
 oq 12 (.mov (.t 0)),
 oq 13 (.mov (.t 5)),
 oq 14 (.iad 64 lA0 (.t 12) (.t 13)),
 oq 15 (.ld lA0 64 (.t 14)),
 oq 16 (.callv 85 [lA0] [lB] (.t 11) [(.t 15)])] false 0)
 (.cond (.t 16) (.seq (.region [] [oq 17 (.mov (.t 5)),
 oq 4 (.mov (.t 17))] false 0)
 .ret)
 .skip))))
 (.region [] [oq 18 (.ibin .add (.t 8) (.c lI [.int 1])),
 oq 8 (.mov (.t 18))] false 0))))
def slices_IndexFunc_api_Field_a : AFun := { ps := [(.one (.sl 64)), (.one (.fn 85))], rs := [lI], res := [(false, 4, none)], body := (.seq (.region [] [oq 4 (.mov (.c lI [.int 0]))] false 0)
 (.seq (.seq (.region [] [oq 6 (.mov (.t 0)),
 oq 7 (.lenL (.t 6)),
 oq 8 (.mov (.c lI [.int 0]))] false 0)
 (.block 0 (.loop slices_IndexFunc_api_Field_h0 slices_IndexFunc_api_Field_o0 slices_IndexFunc_api_Field_c0)))
 (.seq (.region [] [oq 4 (.mov (.c lI [.int (-1)]))] false 0)
 .ret))) }

def slices_ContainsFunc_api_Field_a : AFun := { ps := [(.one (.sl 64)), (.one (.fn 85))], rs := [lB], res := [(false, 4, none)], body := (.seq (.region [] [oq 4 (.mov (.c lB [.bool false]))] false 0)
 (.seq (.region [] [oq 5 (.mov (.t 0)),
 oq 6 (.mov (.t 1)),
 oq 7 (.call 56 [(.one (.sl 64)), (.one (.fn 85))] [lI] [(.t 5), (.t 6)]),
 oq 8 (.icmp .geq (.t 7) (.c lI [.int 0])),
 oq 4 (.mov (.t 8))] false 0)
 .ret)) }

def value_names_1_a : AFun := { ps := [lA0, (.one (.ref 64))], rs := [lB], res := [(false, 3, none)], body := (.seq (.region [] [oq 2 (.boxP lA0 64 (.t 0)),
 oq 3 (.mov (.c lB [.bool false]))] false 0)
 (.seq (.region [] [oq 4 (.fad 0 1 64 9 (.t 2)),
 oq 5 (.ld lS 9 (.t 4)),
 oq 6 (.fad 0 1 64 9 (.t 1)),
 oq 7 (.ld lS 9 (.t 6)),
 oq 8 (.scmp .eql (.t 5) (.t 7)),
 oq 3 (.mov (.t 8))] false 0)
 .ret)) }

def value_names_h0 : Shape := { slots := [(0, .d (.one (.sl 64))), (5, .d (.one (.sl 64))), (6, .d lI), (7, .d lI)], objs := [] }
def value_names_o0 : List (Exit' × Shape) := [(.exit 0, { slots := [], objs := [] }), (.ret, { slots := [(2, .d lI)], objs := [] })]
def value_names_c0 : ACode := (.seq (.region [] [oq 8 (.icmp .lss (.t 7) (.t 6))] false 0)
 (.seq (.cond (.t 8) .skip
 (.exit 0))
 (.seq (.block 1 (.seq (.region [] [oq 9 (.mov (.t 7)),
 oq 10 (.iad 64 lA0 (.t 5) (.t 7)),
 oq 11 (.ld lA0 64 (.t 10)),
 oq 4 (.allocO 0 lA0 [.str [], .int 0, .int 0, .str [], .nils]),
 oq 3 (.mov (.t 9)),
 ⟨none, .st lA0 (.t 4) (.t 11), none, []⟩] false 1)
 (.seq (.seq (.region [] [oq 12 (.fad 0 1 64 9 (.t 4)),
 oq 13 (.ld lS 9 (.t 12)),
 oq 14 (.call 52 [lS] [lB] [(.t 13)]),
 oq 15 (.not (.t 14))] false 0)
 (.cond (.t 15) (.seq (.region [] [oq 2 (.mov (.c lI [.int 15]))] false 0)
 .ret)
 .skip))
 (.seq (.region [(4, 64, some lA0)] [oq 16 (.mov (.t 0)),
 oq 17 (.mov (.t 3)),
 oq 18 (.slc 64 lA0 (.t 16) none (some (.t 17))),
 oq 19 (.mkf 54 85 [.ref 64] [(.t 4)]),
 oq 20 (.call 53 [(.one (.sl 64)), (.one (.fn 85))] [lB] [(.t 18), (.t 19)])] false 0)
 (.cond (.t 20) (.seq (.region [] [oq 2 (.mov (.c lI [.int 5]))] false 0)
 .ret)
 .skip)))))
 (.region [] [oq 21 (.ibin .add (.t 7) (.c lI [.int 1])),
 oq 7 (.mov (.t 21))] false 0))))
def value_names_a : AFun := { ps := [(.one (.sl 64))], rs := [lI], res := [(false, 2, none)], body := (.seq (.region [] [oq 2 (.mov (.c lI [.int 0]))] false 0)
 (.seq (.seq (.region [] [oq 5 (.mov (.t 0)),
 oq 6 (.lenL (.t 5)),
 oq 7 (.mov (.c lI [.int 0]))] false 0)
 (.block 0 (.loop value_names_h0 value_names_o0 value_names_c0)))
 (.seq (.region [] [oq 2 (.mov (.c lI [.int 0]))] false 0)
 .ret))) }

def value_keys_h0 : Shape := { slots := [(1, .d (.one (.ref 49))), (6, .d (.one (.sl 64))), (7, .d lI), (8, .d lI)], objs := [] }
def value_keys_o0 : List (Exit' × Shape) := [(.exit 0, { slots := [], objs := [] }), (.ret, { slots := [(2, .d lI)], objs := [] })]
def value_keys_c0 : ACode := (.seq (.region [] [oq 9 (.icmp .lss (.t 8) (.t 7))] false 0)
 (.seq (.cond (.t 9) .skip
 (.exit 0))
 (.seq (.join [(.normal, { slots := [(1, .d (.one (.ref 49))), (6, .d (.one (.sl 64))), (7, .d lI), (8, .d lI)], objs := [] }), (.ret, { slots := [(2, .d lI)], objs := [] })] (.block 1 (.seq (.region [] [oq 10 (.mov (.t 8)),
 oq 11 (.iad 64 lA0 (.t 6) (.t 8)),
 oq 12 (.ld lA0 64 (.t 11)),
 oq 4 (.allocO 0 lA0 [.str [], .int 0, .int 0, .str [], .nils]),
 oq 3 (.mov (.t 10)),
 ⟨none, .st lA0 (.t 4) (.t 12), none, []⟩] false 1)
 (.block 2 (.seq (.join [(.normal, { slots := [(1, .d (.one (.ref 49))), (3, .d lI), (4, .ptr 0 0), (6, .d (.one (.sl 64))), (7, .d lI), (8, .d lI), (13, .d lB)], objs := [.var lA0] })] (.region [] [oq 14 (.fad 0 1 49 3 (.t 1)),
 oq 15 (.ld lI 3 (.t 14)),
 oq 16 (.icmp .eql (.t 15) (.c lI [.int 8])),
 oq 17 (.mov (.t 16)),
 ⟨some 18, .fad 0 1 64 9 (.t 4), some (17, true), []⟩,
 ⟨some 19, .ld lS 9 (.t 18), some (17, true), []⟩,
 ⟨some 20, .scmp .neq (.t 19) (.c lS [.str ([] : List UInt8)]), some (17, true), []⟩,
 oq 21 (.pick (.t 17) (.t 20) (.c lB [.bool false])),
 oq 13 (.mov (.t 21))] false 0))
 (.cond (.t 13) (.seq (.region [] [oq 2 (.mov (.c lI [.int 3]))] false 0)
 .ret)
 (.seq (.region [] [oq 23 (.fad 0 1 49 3 (.t 1)),
 oq 24 (.ld lI 3 (.t 23)),
 oq 25 (.icmp .eql (.t 24) (.c lI [.int 8])),
 oq 22 (.mov (.t 25))] false 0)
 (.cond (.t 22) .skip
 (.seq (.region [] [oq 27 (.fad 0 1 64 9 (.t 4)),
 oq 28 (.ld lS 9 (.t 27)),
 oq 29 (.lenS (.t 28)),
 oq 30 (.icmp .gtr (.t 29) (.c lI [.int 4000])),
 oq 26 (.mov (.t 30))] false 0)
 (.cond (.t 26) (.seq (.region [] [oq 2 (.mov (.c lI [.int 2]))] false 0)
 .ret)
 (.seq (.region [] [oq 32 (.mov (.t 3)),
 ⟨some 33, .icmp .gtr (.t 32) (.c lI [.int 0]), none, [0]⟩,
 ⟨some 34, .mov (.t 33), none, [0, 1]⟩,
 ⟨some 35, .fad 0 1 64 9 (.t 4), some (34, true), [0, 1, 2]⟩,
 ⟨some 36, .ld lS 9 (.t 35), some (34, true), [0, 1, 2, 3]⟩,
 ⟨some 37, .fad 3 1 49 47 (.t 1), some (34, true), [0, 1, 2]⟩,
 ⟨some 38, .ld (.one (.sl 64)) 47 (.t 37), some (34, true), [0, 1, 2, 5]⟩,
 ⟨some 39, .mov (.t 3), some (34, true), [0, 1, 2]⟩,
 ⟨some 40, .ibin .sub (.t 39) (.c lI [.int 1]), some (34, true), [0, 1, 2, 7]⟩,
 ⟨some 41, .iad 64 lA0 (.t 38) (.t 40), some (34, true), [0, 1, 2, 5, 6, 7, 8]⟩,
 ⟨some 42, .fad 0 1 64 9 (.t 41), some (34, true), [0, 1, 2, 5, 6, 7, 8, 9]⟩,
 ⟨some 43, .ld lS 9 (.t 42), some (34, true), [0, 1, 2, 5, 6, 7, 8, 9, 10]⟩,
 ⟨some 44, .scmp .leq (.t 36) (.t 43), some (34, true), [0, 1, 2, 3, 4, 5, 6, 7, 8, 9, 10, 11]⟩,
 ⟨some 45, .pick (.t 34) (.t 44) (.c lB [.bool false]), none, [0, 1, 2, 3, 4, 5, 6, 7, 8, 9, 10, 11, 12]⟩,
 ⟨some 31, .mov (.t 45), none, [0, 1, 2, 3, 4, 5, 6, 7, 8, 9, 10, 11, 12, 13]⟩] true 0)
 (.cond (.t 31) (.seq (.region [] [oq 2 (.mov (.c lI [.int 9]))] false 0)
 .ret)
 .skip))))))))))))
 (.region [] [oq 46 (.ibin .add (.t 8) (.c lI [.int 1])),
 oq 8 (.mov (.t 46))] false 0))))
def value_keys_a : AFun := { ps := [lA1], rs := [lI], res := [(false, 2, none)], body := (.seq (.region [] [oq 1 (.boxP lA1 49 (.t 0)),
 oq 2 (.mov (.c lI [.int 0]))] false 0)
 (.seq (.seq (.region [] [oq 5 (.fad 3 1 49 47 (.t 1)),
 oq 6 (.ld (.one (.sl 64)) 47 (.t 5)),
 oq 7 (.lenL (.t 6)),
 oq 8 (.mov (.c lI [.int 0]))] false 0)
 (.block 0 (.loop value_keys_h0 value_keys_o0 value_keys_c0)))
 (.seq (.region [] [oq 2 (.mov (.c lI [.int 0]))] false 0)
 .ret))) }

def value_fields_a : AFun := { ps := [lA1], rs := [lI], res := [(false, 2, none)], body := (.seq (.region [] [oq 1 (.boxP lA1 49 (.t 0)),
 oq 2 (.mov (.c lI [.int 0]))] false 0)
 (.seq (.seq (.region [] [oq 3 (.fad 0 1 49 3 (.t 1)),
 oq 4 (.ld lI 3 (.t 3))] false 0)
 (.block 0 (.seq (.region [] [oq 6 (.icmp .eql (.t 4) (.c lI [.int 5])),
 oq 5 (.mov (.t 6))] false 0)
 (.cond (.t 5) (.seq (.region [] [oq 7 (.fad 2 1 49 9 (.t 1)),
 oq 8 (.ld lS 9 (.t 7)),
 oq 9 (.lenS (.t 8)),
 oq 10 (.icmp .gtr (.t 9) (.c lI [.int 4000]))] false 0)
 (.cond (.t 10) (.seq (.region [] [oq 2 (.mov (.c lI [.int 2]))] false 0)
 .ret)
 .skip))
 (.seq (.region [] [oq 12 (.icmp .eql (.t 4) (.c lI [.int 6])),
 oq 11 (.mov (.t 12))] false 0)
 (.cond (.t 11) (.seq (.seq (.region [] [oq 13 (.fad 3 1 49 47 (.t 1)),
 oq 14 (.ld (.one (.sl 64)) 47 (.t 13)),
 oq 15 (.lenL (.t 14)),
 oq 16 (.icmp .gtr (.t 15) (.c lI [.int 24]))] false 0)
 (.cond (.t 16) (.seq (.region [] [oq 2 (.mov (.c lI [.int 2]))] false 0)
 .ret)
 .skip))
 (.seq (.region [] [oq 17 (.fad 3 1 49 47 (.t 1)),
 oq 18 (.ld (.one (.sl 64)) 47 (.t 17)),
 oq 19 (.call 49 [(.one (.sl 64))] [lI] [(.t 18)]),
 oq 2 (.mov (.t 19))] false 0)
 .ret))
 (.seq (.region [] [oq 21 (.icmp .eql (.t 4) (.c lI [.int 7])),
 oq 20 (.mov (.t 21))] false 0)
 (.cond (.t 20) (.seq (.seq (.region [] [oq 22 (.fad 3 1 49 47 (.t 1)),
 oq 23 (.ld (.one (.sl 64)) 47 (.t 22)),
 oq 24 (.lenL (.t 23)),
 oq 25 (.icmp .neq (.t 24) (.c lI [.int 1]))] false 0)
 (.cond (.t 25) (.seq (.region [] [oq 2 (.mov (.c lI [.int 3]))] false 0)
 .ret)
 .skip))
 (.seq (.region [] [oq 26 (.fad 3 1 49 47 (.t 1)),
 oq 27 (.ld (.one (.sl 64)) 47 (.t 26)),
 oq 28 (.call 49 [(.one (.sl 64))] [lI] [(.t 27)]),
 oq 2 (.mov (.t 28))] false 0)
 .ret))
 (.seq (.seq (.region [] [oq 30 (.icmp .eql (.t 4) (.c lI [.int 8])),
 oq 29 (.mov (.t 30))] false 0)
 (.cond (.t 29) .skip
 (.region [] [oq 31 (.icmp .eql (.t 4) (.c lI [.int 9])),
 oq 29 (.mov (.t 31))] false 0)))
 (.cond (.t 29) (.seq (.seq (.region [] [oq 32 (.fad 3 1 49 47 (.t 1)),
 oq 33 (.ld (.one (.sl 64)) 47 (.t 32)),
 oq 34 (.lenL (.t 33)),
 oq 35 (.icmp .gtr (.t 34) (.c lI [.int 200]))] false 0)
 (.cond (.t 35) (.seq (.region [] [oq 2 (.mov (.c lI [.int 2]))] false 0)
 .ret)
 .skip))
 (.seq (.region [] [oq 36 (.ld lA1 49 (.t 1)),
 oq 37 (.call 50 [lA1] [lI] [(.t 36)]),
 oq 2 (.mov (.t 37))] false 0)
 .ret))
 .skip))))))))))
 (.seq (.region [] [oq 2 (.mov (.c lI [.int 0]))] false 0)
 .ret))) }

def value_node_h0 : Shape := { slots := [(46, .d (.one (.sl 64))), (47, .d lI), (48, .d lI)], objs := [] }
def value_node_o0 : List (Exit' × Shape) := [(.exit 1, { slots := [], objs := [] }), (.ret, { slots := [(4, .d lI)], objs := [] })]
def value_node_c0 : ACode := (.seq (.region [] [oq 49 (.icmp .lss (.t 48) (.t 47))] false 0)
 (.seq (.cond (.t 49) .skip
 (.exit 1))
 (.seq (.block 2 (.seq (.region [] [oq 50 (.iad 64 lA0 (.t 46) (.t 48)),
 oq 51 (.ld lA0 64 (.t 50)),
 oq 7 (.allocO 0 lA0 [.str [], .int 0, .int 0, .str [], .nils]),
 ⟨none, .st lA0 (.t 7) (.t 51), none, []⟩] false 1)
 (.seq (.region [] [oq 52 (.fad 1 4 64 49 (.t 7)),
 oq 53 (.ld lA1 49 (.t 52)),
 oq 54 (.call 36 [lA1, lB] [lI] [(.t 53), (.c lB [.bool false])]),
 oq 8 (.mov (.t 54))] false 0)
 (.seq (.region [] [oq 55 (.mov (.t 8)),
 oq 56 (.icmp .neq (.t 55) (.c lI [.int 0]))] false 0)
 (.cond (.t 56) (.seq (.region [] [oq 57 (.mov (.t 8)),
 oq 4 (.mov (.t 57))] false 0)
 .ret)
 .skip)))))
 (.region [] [oq 58 (.ibin .add (.t 48) (.c lI [.int 1])),
 oq 48 (.mov (.t 58))] false 0))))
def value_node_a : AFun := { ps := [lA1, lB], rs := [lI], res := [(false, 4, none)], body := (.seq (.region [] [oq 2 (.boxP lA1 49 (.t 0)),
 oq 4 (.mov (.c lI [.int 0]))] false 0)
 (.seq (.join [(.normal, { slots := [(2, .d (.one (.ref 49)))], objs := [] }), (.ret, { slots := [(4, .d lI)], objs := [] })] (.block 0 (.seq (.join [(.normal, { slots := [(2, .d (.one (.ref 49))), (9, .d lB)], objs := [] })] (.region [] [oq 10 (.fad 0 1 49 3 (.t 2)),
 oq 11 (.ld lI 3 (.t 10)),
 oq 12 (.icmp .lss (.t 11) (.c lI [.int 0])),
 oq 13 (.mov (.t 12)),
 ⟨some 14, .fad 0 1 49 3 (.t 2), some (13, false), []⟩,
 ⟨some 15, .ld lI 3 (.t 14), some (13, false), []⟩,
 ⟨some 16, .icmp .geq (.t 15) (.c lI [.int 12]), some (13, false), []⟩,
 oq 17 (.pick (.t 13) (.c lB [.bool true]) (.t 16)),
 oq 18 (.mov (.t 17)),
 ⟨some 19, .fad 0 1 49 3 (.t 2), some (18, false), []⟩,
 ⟨some 20, .ld lI 3 (.t 19), some (18, false), []⟩,
 ⟨some 21, .icmp .eql (.t 20) (.c lI [.int 10]), some (18, false), []⟩,
 oq 22 (.pick (.t 18) (.c lB [.bool true]) (.t 21)),
 oq 23 (.mov (.t 22)),
 ⟨some 24, .fad 0 1 49 3 (.t 2), some (23, false), []⟩,
 ⟨some 25, .ld lI 3 (.t 24), some (23, false), []⟩,
 ⟨some 26, .icmp .eql (.t 25) (.c lI [.int 11]), some (23, false), []⟩,
 ⟨some 27, .mov (.t 26), some (23, false), []⟩,
 ⟨some 28, .mov (.t 1), some (27, true), []⟩,
 ⟨some 29, .not (.t 28), some (27, true), []⟩,
 ⟨some 30, .pick (.t 27) (.t 29) (.c lB [.bool false]), some (23, false), []⟩,
 oq 31 (.pick (.t 23) (.c lB [.bool true]) (.t 30)),
 oq 32 (.mov (.t 31)),
 ⟨some 33, .ld lA1 49 (.t 2), some (32, false), []⟩,
 ⟨some 34, .call 39 [lA1] [lB] [(.t 33)], some (32, false), []⟩,
 oq 35 (.pick (.t 32) (.c lB [.bool true]) (.t 34)),
 oq 9 (.mov (.t 35))] false 0))
 (.cond (.t 9) (.seq (.region [] [oq 4 (.mov (.c lI [.int 3]))] false 0)
 .ret)
 (.seq (.region [] [oq 37 (.ld lA1 49 (.t 2)),
 oq 38 (.call 40 [lA1] [lB] [(.t 37)]),
 oq 39 (.not (.t 38)),
 oq 36 (.mov (.t 39))] false 0)
 (.cond (.t 36) (.seq (.region [] [oq 4 (.mov (.c lI [.int 11]))] false 0)
 .ret)
 .skip))))))
 (.seq (.seq (.region [] [oq 40 (.ld lA1 49 (.t 2)),
 oq 41 (.call 41 [lA1] [lI] [(.t 40)]),
 oq 5 (.mov (.t 41))] false 0)
 (.seq (.region [] [oq 42 (.mov (.t 5)),
 oq 43 (.icmp .neq (.t 42) (.c lI [.int 0]))] false 0)
 (.cond (.t 43) (.seq (.region [] [oq 44 (.mov (.t 5)),
 oq 4 (.mov (.t 44))] false 0)
 .ret)
 .skip)))
 (.seq (.seq (.region [] [oq 45 (.fad 3 1 49 47 (.t 2)),
 oq 46 (.ld (.one (.sl 64)) 47 (.t 45)),
 oq 47 (.lenL (.t 46)),
 oq 48 (.mov (.c lI [.int 0]))] false 0)
 (.block 1 (.loop value_node_h0 value_node_o0 value_node_c0)))
 (.seq (.region [] [oq 4 (.mov (.c lI [.int 0]))] false 0)
 .ret))))) }

def value_Check_a : AFun := { ps := [lA1], rs := [lI], res := [(false, 2, none)], body := (.seq (.region [] [oq 1 (.boxP lA1 49 (.t 0)),
 oq 2 (.mov (.c lI [.int 0]))] false 0)
 (.seq (.seq (.region [] [oq 3 (.ld lA1 49 (.t 1)),
 oq 4 (.call 34 [lA1] [lI] [(.t 3)]),
 oq 5 (.icmp .gtr (.t 4) (.c lI [.int 2000])),
 oq 6 (.mov (.t 5)),
 ⟨some 7, .ld lA1 49 (.t 1), some (6, false), []⟩,
 ⟨some 8, .call 35 [lA1] [lI] [(.t 7)], some (6, false), []⟩,
 ⟨some 9, .icmp .gtr (.t 8) (.c lI [.int 40]), some (6, false), []⟩,
 oq 10 (.pick (.t 6) (.c lB [.bool true]) (.t 9))] false 0)
 (.cond (.t 10) (.seq (.region [] [oq 2 (.mov (.c lI [.int 2]))] false 0)
 .ret)
 .skip))
 (.seq (.region [] [oq 11 (.ld lA1 49 (.t 1)),
 oq 12 (.call 36 [lA1, lB] [lI] [(.t 11), (.c lB [.bool true])]),
 oq 2 (.mov (.t 12))] false 0)
 .ret))) }

def align_check_h0 : Shape := { slots := [(10, .d (.one (.sl 49))), (11, .d lI), (12, .d lI)], objs := [] }
def align_check_o0 : List (Exit' × Shape) := [(.exit 0, { slots := [], objs := [] }), (.ret, { slots := [(4, .d lI)], objs := [] })]
def align_check_c0 : ACode := (.seq (.region [] [oq 13 (.icmp .lss (.t 12) (.t 11))] false 0)
 (.seq (.cond (.t 13) .skip
 (.exit 0))
 (.seq (.block 1 (.seq (.region [] [oq 14 (.iad 49 lA1 (.t 10) (.t 12)),
 oq 15 (.ld lA1 49 (.t 14)),
 oq 6 (.allocO 0 lA1 [.int 0, .int 0, .str [], .nils]),
 ⟨none, .st lA1 (.t 6) (.t 15), none, []⟩] false 1)
 (.seq (.seq (.region [] [oq 16 (.ld lA1 49 (.t 6)),
 oq 17 (.call 30 [lA1] [lI] [(.t 16)]),
 oq 7 (.mov (.t 17))] false 0)
 (.seq (.region [] [oq 18 (.mov (.t 7)),
 oq 19 (.icmp .neq (.t 18) (.c lI [.int 0]))] false 0)
 (.cond (.t 19) (.seq (.region [] [oq 20 (.mov (.t 7)),
 oq 4 (.mov (.t 20))] false 0)
 .ret)
 .skip)))
 (.seq (.region [] [oq 21 (.fad 0 1 49 3 (.t 6)),
 oq 22 (.ld lI 3 (.t 21)),
 oq 23 (.icmp .neq (.t 22) (.c lI [.int 8]))] false 0)
 (.cond (.t 23) (.seq (.region [] [oq 4 (.mov (.c lI [.int 8]))] false 0)
 .ret)
 .skip)))))
 (.region [] [oq 24 (.ibin .add (.t 12) (.c lI [.int 1])),
 oq 12 (.mov (.t 24))] false 0))))
def align_check_a : AFun := { ps := [lA1, lA1], rs := [lI], res := [(false, 4, none)], body := (.seq (.region [] [oq 2 (.boxP lA1 49 (.t 0)),
 oq 3 (.boxP lA1 49 (.t 1)),
 oq 4 (.mov (.c lI [.int 0]))] false 0)
 (.seq (.seq (.region [] [oq 8 (.ld lA1 49 (.t 2)),
 oq 9 (.ld lA1 49 (.t 3)),
 oq 10 (.bsl 49 lA1 2 [.int 0, .int 0, .str [], .nils] [(0, (.t 8)), (1, (.t 9))]),
 oq 11 (.lenL (.t 10)),
 oq 12 (.mov (.c lI [.int 0]))] false 0)
 (.block 0 (.loop align_check_h0 align_check_o0 align_check_c0)))
 (.seq (.region [] [oq 4 (.mov (.c lI [.int 0]))] false 0)
 .ret))) }

def cmp_isNaN_int_a : AFun := { ps := [lI], rs := [lB], res := [(false, 2, none)], body := (.seq (.region [] [oq 2 (.mov (.c lB [.bool false]))] false 0)
 (.seq (.region [] [oq 3 (.mov (.t 0)),
 oq 4 (.mov (.t 0)),
 oq 5 (.icmp .neq (.t 3) (.t 4)),
 oq 2 (.mov (.t 5))] false 0)
 .ret)) }
noncomputable def cmp_isNaN_int (E : Env) (p0 : Int) : Option (List Row) :=
 some [[.bool (p0 != p0)]]
theorem cmp_isNaN_int_eq (E : Env) (p0 : Int) : runP E cmp_isNaN_int_a [[.int p0]] = cmp_isNaN_int E p0 := by kernel_rfl

def cmp_Compare_int_a : AFun := { ps := [lI, lI], rs := [lI], res := [(false, 4, none)], body := (.seq (.region [] [oq 4 (.mov (.c lI [.int 0]))] false 0)
 (.seq (.region [] [oq 7 (.mov (.t 0)),
 oq 8 (.call 29 [lI] [lB] [(.t 7)]),
 oq 5 (.mov (.t 8))] false 0)
 (.seq (.region [] [oq 9 (.mov (.t 1)),
 oq 10 (.call 29 [lI] [lB] [(.t 9)]),
 oq 6 (.mov (.t 10))] false 0)
 (.seq (.seq (.region [] [oq 11 (.mov (.t 5))] false 0)
 (.cond (.t 11) (.seq (.seq (.region [] [oq 12 (.mov (.t 6))] false 0)
 (.cond (.t 12) (.seq (.region [] [oq 4 (.mov (.c lI [.int 0]))] false 0)
 .ret)
 .skip))
 (.seq (.region [] [oq 4 (.mov (.c lI [.int (-1)]))] false 0)
 .ret))
 .skip))
 (.seq (.seq (.region [] [oq 13 (.mov (.t 6))] false 0)
 (.cond (.t 13) (.seq (.region [] [oq 4 (.mov (.c lI [.int 1]))] false 0)
 .ret)
 .skip))
 (.seq (.seq (.region [] [oq 14 (.mov (.t 0)),
 oq 15 (.mov (.t 1)),
 oq 16 (.icmp .lss (.t 14) (.t 15))] false 0)
 (.cond (.t 16) (.seq (.region [] [oq 4 (.mov (.c lI [.int (-1)]))] false 0)
 .ret)
 .skip))
 (.seq (.seq (.region [] [oq 17 (.mov (.t 0)),
 oq 18 (.mov (.t 1)),
 oq 19 (.icmp .gtr (.t 17) (.t 18))] false 0)
 (.cond (.t 19) (.seq (.region [] [oq 4 (.mov (.c lI [.int 1]))] false 0)
 .ret)
 .skip))
 (.seq (.region [] [oq 4 (.mov (.c lI [.int 0]))] false 0)
 .ret)))))))) }
noncomputable def cmp_Compare_int (E : Env) (p0 : Int) (p1 : Int) : Option (List Row) :=
 (E.pc n_cmp_isNaN_int [[.int p0]]).bind fun y1 =>
 (E.pc n_cmp_isNaN_int [[.int p1]]).bind fun y2 =>
 if ((at_ (rowsAt y1 0) 0).toB) = true then
 if ((at_ (rowsAt y2 0) 0).toB) = true then
 some [[.int 0]]
 else
 some [[.int (-1)]]
 else
 if ((at_ (rowsAt y2 0) 0).toB) = true then
 some [[.int 1]]
 else
 if (decide (p0 < p1)) = true then
 some [[.int (-1)]]
 else
 if (decide (p0 > p1)) = true then
 some [[.int 1]]
 else
 some [[.int 0]]
theorem cmp_Compare_int_eq (E : Env) (p0 : Int) (p1 : Int) : runP E cmp_Compare_int_a [[.int p0], [.int p1]] = cmp_Compare_int E p0 p1 := by kernel_rfl

def value_order_a : AFun := { ps := [lI], rs := [lI], res := [(false, 2, none)], body := (.seq (.region [] [oq 2 (.mov (.c lI [.int 0]))] false 0)
 (.seq (.seq (.region [] [oq 3 (.mov (.t 0)),
 oq 4 (.icmp .lss (.t 3) (.c lI [.int 0]))] false 0)
 (.cond (.t 4) (.seq (.region [] [oq 5 (.mov (.t 0)),
 oq 6 (.ibin .and (.t 5) (.c lI [.int 9223372036854775807])),
 oq 7 (.ibin .sub (.c lI [.int (-1)]) (.t 6)),
 oq 2 (.mov (.t 7))] false 0)
 .ret)
 .skip))
 (.seq (.region [] [oq 8 (.mov (.t 0)),
 oq 2 (.mov (.t 8))] false 0)
 .ret))) }

def cmp_Or_int_h0 : Shape := { slots := [(3, .d lI), (6, .d (.one (.sl 3))), (7, .d lI), (8, .d lI)], objs := [] }
def cmp_Or_int_o0 : List (Exit' × Shape) := [(.exit 0, { slots := [(3, .d lI)], objs := [] }), (.ret, { slots := [(2, .d lI)], objs := [] })]
def cmp_Or_int_c0 : ACode := (.seq (.region [] [oq 9 (.icmp .lss (.t 8) (.t 7))] false 0)
 (.seq (.cond (.t 9) .skip
 (.exit 0))
 (.seq (.block 1 (.seq (.region [] [oq 10 (.iad 3 lI (.t 6) (.t 8)),
 oq 11 (.ld lI 3 (.t 10)),
 oq 5 (.mov (.t 11))] false 0)
 (.seq (.region [] [oq 12 (.mov (.t 5)),
 oq 13 (.mov (.t 3)),
 oq 14 (.icmp .neq (.t 12) (.t 13))] false 0)
 (.cond (.t 14) (.seq (.region [] [oq 15 (.mov (.t 5)),
 oq 2 (.mov (.t 15))] false 0)
 .ret)
 .skip))))
 (.region [] [oq 16 (.ibin .add (.t 8) (.c lI [.int 1])),
 oq 8 (.mov (.t 16))] false 0))))
def cmp_Or_int_a : AFun := { ps := [(.one (.sl 3))], rs := [lI], res := [(false, 2, none)], body := (.seq (.region [] [oq 2 (.mov (.c lI [.int 0]))] false 0)
 (.seq (.region [] [oq 3 (.mov (.c lI [.int 0]))] false 0)
 (.seq (.seq (.region [] [oq 6 (.mov (.t 0)),
 oq 7 (.lenL (.t 6)),
 oq 8 (.mov (.c lI [.int 0]))] false 0)
 (.block 0 (.loop cmp_Or_int_h0 cmp_Or_int_o0 cmp_Or_int_c0)))
 (.seq (.region [] [oq 17 (.mov (.t 3)),
 oq 2 (.mov (.t 17))] false 0)
 .ret)))) }

def internal_bytealg_CompareString_a : AFun := { ps := [lS, lS], rs := [lI], res := [(false, 4, none)], body := (.seq (.region [] [oq 4 (.mov (.c lI [.int 0]))] false 0)
 (.seq (.region [] [oq 5 (.mov (.t 0)),
 oq 6 (.mov (.t 1)),
 oq 7 (.cmpS 55 (.t 5) (.t 6)),
 oq 4 (.mov (.t 7))] false 0)
 .ret)) }

def strings_Compare_a : AFun := { ps := [lS, lS], rs := [lI], res := [(false, 4, none)], body := (.seq (.region [] [oq 4 (.mov (.c lI [.int 0]))] false 0)
 (.seq (.region [] [oq 5 (.mov (.t 0)),
 oq 6 (.mov (.t 1)),
 oq 7 (.call 51 [lS, lS] [lI] [(.t 5), (.t 6)]),
 oq 4 (.mov (.t 7))] false 0)
 .ret)) }

def slices_CompareFunc_api_Field_h0 : Shape := { slots := [(0, .d (.one (.sl 64))), (1, .d (.one (.sl 64))), (2, .d (.one (.fn 81))), (11, .d (.one (.sl 64))), (12, .d lI), (13, .d lI)], objs := [] }
def slices_CompareFunc_api_Field_o0 : List (Exit' × Shape) := [(.exit 0, { slots := [(0, .d (.one (.sl 64))), (1, .d (.one (.sl 64)))], objs := [] }), (.ret, { slots := [(6, .d lI)], objs := [] })]
def slices_CompareFunc_api_Field_c0 : ACode := (.seq (.region [] [oq 14 (.icmp .lss (.t 13) (.t 12))] false 0)
 (.seq (.cond (.t 14) .skip
 (.exit 0))
 (.seq (.block 1 (.seq (.region [] [oq 15 (.mov (.t 13)),
 oq 16 (.iad 64 lA0 (.t 11) (.t 13)),
 oq 17 (.ld lA0 64 (.t 16)),
 oq 8 (.allocO 0 lA0 [.str [], .int 0, .int 0, .str [], .nils]),
 oq 7 (.mov (.t 15)),
 ⟨none, .st lA0 (.t 8) (.t 17), none, []⟩] false 1)
 (.seq (.seq (.region [] [oq 18 (.mov (.t 7)),
 oq 19 (.mov (.t 1)),
 oq 20 (.lenL (.t 19)),
 oq 21 (.icmp .geq (.t 18) (.t 20))] false 0)
 (.cond (.t 21) (.seq (.region [] [oq 6 (.mov (.c lI [.int 1]))] false 0)
 .ret)
 .skip))
 (.seq (.region [] [oq 22 (.mov (.t 1)),
 oq 23 (.mov (.t 7)),
 oq 24 (.iad 64 lA0 (.t 22) (.t 23)),
 oq 25 (.ld lA0 64 (.t 24)),
 oq 9 (.allocO 0 lA0 [.str [], .int 0, .int 0, .str [], .nils]),
 ⟨none, .st lA0 (.t 9) (.t 25), none, []⟩] false 1)
 (.seq (.region [] [oq 26 (.mov (.t 2)),
 oq 27 (.ld lA0 64 (.t 8)),
 oq 28 (.ld lA0 64 (.t 9)),
 oq 29 (.callv 81 [lA0, lA0] [lI] (.t 26) [(.t 27), (.t 28)]),
 oq 10 (.mov (.t 29))] false 0)
 (.seq (.region [] [oq 30 (.mov (.t 10)),
 oq 31 (.icmp .neq (.t 30) (.c lI [.int 0]))] false 0)
 (.cond (.t 31) (.seq (.region [] [oq 32 (.mov (.t 10)),
 oq 6 (.mov (.t 32))] false 0)
 .ret)
 .skip)))))))
 (.region [] [oq 33 (.ibin .add (.t 13) (.c lI [.int 1])),
 oq 13 (.mov (.t 33))] false 0))))
def slices_CompareFunc_api_Field_a : AFun := { ps := [(.one (.sl 64)), (.one (.sl 64)), (.one (.fn 81))], rs := [lI], res := [(false, 6, none)], body := (.seq (.region [] [oq 6 (.mov (.c lI [.int 0]))] false 0)
 (.seq (.seq (.region [] [oq 11 (.mov (.t 0)),
 oq 12 (.lenL (.t 11)),
 oq 13 (.mov (.c lI [.int 0]))] false 0)
 (.block 0 (.loop slices_CompareFunc_api_Field_h0 slices_CompareFunc_api_Field_o0 slices_CompareFunc_api_Field_c0)))
 (.seq (.seq (.region [] [oq 34 (.mov (.t 0)),
 oq 35 (.lenL (.t 34)),
 oq 36 (.mov (.t 1)),
 oq 37 (.lenL (.t 36)),
 oq 38 (.icmp .lss (.t 35) (.t 37))] false 0)
 (.cond (.t 38) (.seq (.region [] [oq 6 (.mov (.c lI [.int (-1)]))] false 0)
 .ret)
 .skip))
 (.seq (.region [] [oq 6 (.mov (.c lI [.int 0]))] false 0)
 .ret)))) }

def value_Cmp_1_a : AFun := { ps := [lA0, lA0], rs := [lI], res := [(false, 4, none)], body := (.seq (.region [] [oq 2 (.boxP lA0 64 (.t 0)),
 oq 3 (.boxP lA0 64 (.t 1)),
 oq 4 (.mov (.c lI [.int 0]))] false 0)
 (.seq (.region [] [oq 5 (.fad 0 1 64 9 (.t 2)),
 ⟨some 6, .ld lS 9 (.t 5), none, [0]⟩,
 oq 7 (.fad 0 1 64 9 (.t 3)),
 ⟨some 8, .ld lS 9 (.t 7), none, [2]⟩,
 ⟨some 9, .call 44 [lS, lS] [lI] [(.t 6), (.t 8)], none, [0, 1, 2, 3]⟩,
 oq 10 (.fad 1 4 64 49 (.t 2)),
 ⟨some 11, .ld lA1 49 (.t 10), none, [5]⟩,
 oq 12 (.fad 1 4 64 49 (.t 3)),
 ⟨some 13, .ld lA1 49 (.t 12), none, [7]⟩,
 ⟨some 14, .call 37 [lA1, lA1] [lI] [(.t 11), (.t 13)], none, [0, 1, 2, 3, 4, 5, 6, 7, 8]⟩,
 ⟨some 15, .bsl 3 lI 2 [.int 0] [(0, (.t 9)), (1, (.t 14))], none, [0, 1, 2, 3, 4, 5, 6, 7, 8, 9]⟩,
 ⟨some 16, .call 43 [(.one (.sl 3))] [lI] [(.t 15)], none, [0, 1, 2, 3, 4, 5, 6, 7, 8, 9, 10]⟩,
 ⟨some 4, .mov (.t 16), none, [0, 1, 2, 3, 4, 5, 6, 7, 8, 9, 10, 11]⟩] true 0)
 .ret)) }

def value_Cmp_a : AFun := { ps := [lA1, lA1], rs := [lI], res := [(false, 4, none)], body := (.seq (.region [] [oq 2 (.boxP lA1 49 (.t 0)),
 oq 3 (.boxP lA1 49 (.t 1)),
 oq 4 (.mov (.c lI [.int 0]))] false 0)
 (.seq (.region [] [oq 8 (.fad 1 1 49 3 (.t 2)),
 ⟨some 9, .ld lI 3 (.t 8), none, [0]⟩,
 oq 10 (.fad 1 1 49 3 (.t 3)),
 ⟨some 11, .ld lI 3 (.t 10), none, [2]⟩,
 ⟨some 5, .mov (.t 9), none, [0, 1]⟩,
 ⟨some 6, .mov (.t 11), none, [0, 1, 2, 3, 4]⟩] true 0)
 (.seq (.seq (.region [] [oq 12 (.fad 0 1 49 3 (.t 2)),
 oq 13 (.ld lI 3 (.t 12)),
 oq 14 (.icmp .eql (.t 13) (.c lI [.int 3]))] false 0)
 (.join [(.normal, { slots := [(2, .d (.one (.ref 49))), (3, .d (.one (.ref 49))), (5, .d lI), (6, .d lI)], objs := [] })] (.cond (.t 14) (.region [] [oq 15 (.mov (.t 5)),
 oq 16 (.call 42 [lI] [lI] [(.t 15)]),
 oq 17 (.mov (.t 6)),
 oq 18 (.call 42 [lI] [lI] [(.t 17)]),
 oq 5 (.mov (.t 16)),
 oq 6 (.mov (.t 18))] false 0)
 .skip)))
 (.seq (.region [] [oq 19 (.fad 0 1 49 3 (.t 2)),
 ⟨some 20, .ld lI 3 (.t 19), none, [0]⟩,
 oq 21 (.fad 0 1 49 3 (.t 3)),
 ⟨some 22, .ld lI 3 (.t 21), none, [2]⟩,
 ⟨some 23, .call 22 [lI, lI] [lI] [(.t 20), (.t 22)], none, [0, 1, 2, 3]⟩,
 oq 24 (.mov (.t 5)),
 oq 25 (.mov (.t 6)),
 ⟨some 26, .call 22 [lI, lI] [lI] [(.t 24), (.t 25)], none, [0, 1, 2, 3, 4, 5, 6]⟩,
 oq 27 (.fad 2 1 49 9 (.t 2)),
 ⟨some 28, .ld lS 9 (.t 27), none, [8]⟩,
 oq 29 (.fad 2 1 49 9 (.t 3)),
 ⟨some 30, .ld lS 9 (.t 29), none, [10]⟩,
 ⟨some 31, .call 44 [lS, lS] [lI] [(.t 28), (.t 30)], none, [0, 1, 2, 3, 4, 5, 6, 7, 8, 9, 10, 11]⟩,
 ⟨some 32, .bsl 3 lI 3 [.int 0] [(0, (.t 23)), (1, (.t 26)), (2, (.t 31))], none, [0, 1, 2, 3, 4, 5, 6, 7, 8, 9, 10, 11, 12]⟩,
 ⟨some 33, .call 43 [(.one (.sl 3))] [lI] [(.t 32)], none, [0, 1, 2, 3, 4, 5, 6, 7, 8, 9, 10, 11, 12, 13]⟩,
 ⟨some 7, .mov (.t 33), none, [0, 1, 2, 3, 4, 5, 6, 7, 8, 9, 10, 11, 12, 13, 14]⟩] true 0)
 (.seq (.seq (.region [] [oq 34 (.mov (.t 7)),
 oq 35 (.icmp .neq (.t 34) (.c lI [.int 0]))] false 0)
 (.cond (.t 35) (.seq (.region [] [oq 36 (.mov (.t 7)),
 oq 4 (.mov (.t 36))] false 0)
 .ret)
 .skip))
 (.seq (.region [] [oq 37 (.fad 3 1 49 47 (.t 2)),
 oq 38 (.ld (.one (.sl 64)) 47 (.t 37)),
 oq 39 (.fad 3 1 49 47 (.t 3)),
 oq 40 (.ld (.one (.sl 64)) 47 (.t 39)),
 oq 41 (.call 45 [(.one (.sl 64)), (.one (.sl 64)), (.one (.fn 81))] [lI] [(.t 38), (.t 40), (.c (.one (.fn 81)) [.fn n_value_Cmp_1 []])]),
 oq 4 (.mov (.t 41))] false 0)
 .ret)))))) }

def value_Same_a : AFun := { ps := [lA1, lA1], rs := [lB], res := [(false, 4, none)], body := (.seq (.region [] [oq 2 (.boxP lA1 49 (.t 0)),
 oq 3 (.boxP lA1 49 (.t 1)),
 oq 4 (.mov (.c lB [.bool false]))] false 0)
 (.seq (.region [] [oq 5 (.ld lA1 49 (.t 2)),
 oq 6 (.ld lA1 49 (.t 3)),
 oq 7 (.call 37 [lA1, lA1] [lI] [(.t 5), (.t 6)]),
 oq 8 (.icmp .eql (.t 7) (.c lI [.int 0])),
 oq 4 (.mov (.t 8))] false 0)
 .ret)) }

def align_Cost_h0 : Shape := { slots := [(3, .d (.one (.ref 49))), (5, .d lI), (29, .d (.one (.sl 64))), (30, .d lI), (31, .d lI)], objs := [] }
def align_Cost_o0 : List (Exit' × Shape) := [(.exit 0, { slots := [(5, .d lI)], objs := [] }), (.ret, { slots := [(4, .d lI)], objs := [] })]
def align_Cost_c0 : ACode := (.seq (.region [] [oq 32 (.icmp .lss (.t 31) (.t 30))] false 0)
 (.seq (.cond (.t 32) .skip
 (.exit 0))
 (.seq (.block 1 (.seq (.region [] [oq 33 (.mov (.t 31)),
 oq 34 (.iad 64 lA0 (.t 29) (.t 31)),
 oq 35 (.ld lA0 64 (.t 34)),
 oq 7 (.allocO 0 lA0 [.str [], .int 0, .int 0, .str [], .nils]),
 oq 6 (.mov (.t 33)),
 ⟨none, .st lA0 (.t 7) (.t 35), none, []⟩] false 1)
 (.seq (.seq (.region [] [oq 36 (.fad 0 1 64 9 (.t 7)),
 ⟨some 37, .ld lS 9 (.t 36), none, [0]⟩,
 oq 38 (.fad 3 1 49 47 (.t 3)),
 ⟨some 39, .ld (.one (.sl 64)) 47 (.t 38), none, [2]⟩,
 oq 40 (.mov (.t 6)),
 ⟨some 41, .iad 64 lA0 (.t 39) (.t 40), none, [2, 3, 4]⟩,
 ⟨some 42, .fad 0 1 64 9 (.t 41), none, [2, 3, 4, 5]⟩,
 ⟨some 43, .ld lS 9 (.t 42), none, [2, 3, 4, 5, 6]⟩,
 ⟨some 44, .scmp .neq (.t 37) (.t 43), none, [0, 1, 2, 3, 4, 5, 6, 7]⟩] true 0)
 (.cond (.t 44) (.seq (.region [] [oq 4 (.mov (.c lI [.int 3]))] false 0)
 .ret)
 .skip))
 (.seq (.region [] [oq 45 (.fad 1 4 64 49 (.t 7)),
 ⟨some 46, .ld lA1 49 (.t 45), none, [0]⟩,
 oq 47 (.fad 3 1 49 47 (.t 3)),
 ⟨some 48, .ld (.one (.sl 64)) 47 (.t 47), none, [2]⟩,
 oq 49 (.mov (.t 6)),
 ⟨some 50, .iad 64 lA0 (.t 48) (.t 49), none, [2, 3, 4]⟩,
 ⟨some 51, .fad 1 4 64 49 (.t 50), none, [2, 3, 4, 5]⟩,
 ⟨some 52, .ld lA1 49 (.t 51), none, [2, 3, 4, 5, 6]⟩,
 ⟨some 53, .call 31 [lA1, lA1] [lB] [(.t 46), (.t 52)], none, [0, 1, 2, 3, 4, 5, 6, 7]⟩,
 ⟨some 54, .not (.t 53), none, [0, 1, 2, 3, 4, 5, 6, 7, 8]⟩] true 0)
 (.cond (.t 54) (.region [] [oq 55 (.mov (.t 5)),
 oq 56 (.ibin .add (.t 55) (.c lI [.int 1])),
 oq 5 (.mov (.t 56))] false 0)
 .skip)))))
 (.region [] [oq 57 (.ibin .add (.t 31) (.c lI [.int 1])),
 oq 31 (.mov (.t 57))] false 0))))
def align_Cost_a : AFun := { ps := [lA1, lA1], rs := [lI], res := [(false, 4, none)], body := (.seq (.region [] [oq 2 (.boxP lA1 49 (.t 0)),
 oq 3 (.boxP lA1 49 (.t 1)),
 oq 4 (.mov (.c lI [.int 0]))] false 0)
 (.seq (.seq (.region [] [oq 8 (.ld lA1 49 (.t 2)),
 oq 9 (.ld lA1 49 (.t 3)),
 oq 10 (.call 31 [lA1, lA1] [lB] [(.t 8), (.t 9)])] false 0)
 (.cond (.t 10) (.seq (.region [] [oq 4 (.mov (.c lI [.int 0]))] false 0)
 .ret)
 .skip))
 (.seq (.seq (.join [(.normal, { slots := [(2, .d (.one (.ref 49))), (3, .d (.one (.ref 49))), (27, .d lB)], objs := [] })] (.region [] [oq 11 (.fad 0 1 49 3 (.t 2)),
 oq 12 (.ld lI 3 (.t 11)),
 oq 13 (.icmp .neq (.t 12) (.c lI [.int 6])),
 oq 14 (.mov (.t 13)),
 ⟨some 15, .fad 0 1 49 3 (.t 3), some (14, false), []⟩,
 ⟨some 16, .ld lI 3 (.t 15), some (14, false), []⟩,
 ⟨some 17, .icmp .neq (.t 16) (.c lI [.int 6]), some (14, false), []⟩,
 oq 18 (.pick (.t 14) (.c lB [.bool true]) (.t 17)),
 oq 19 (.mov (.t 18)),
 ⟨some 20, .fad 3 1 49 47 (.t 2), some (19, false), []⟩,
 ⟨some 21, .ld (.one (.sl 64)) 47 (.t 20), some (19, false), []⟩,
 ⟨some 22, .lenL (.t 21), some (19, false), []⟩,
 ⟨some 23, .fad 3 1 49 47 (.t 3), some (19, false), []⟩,
 ⟨some 24, .ld (.one (.sl 64)) 47 (.t 23), some (19, false), []⟩,
 ⟨some 25, .lenL (.t 24), some (19, false), []⟩,
 ⟨some 26, .icmp .neq (.t 22) (.t 25), some (19, false), []⟩,
 oq 27 (.pick (.t 19) (.c lB [.bool true]) (.t 26))] false 0))
 (.cond (.t 27) (.seq (.region [] [oq 4 (.mov (.c lI [.int 3]))] false 0)
 .ret)
 .skip))
 (.seq (.region [] [oq 5 (.mov (.c lI [.int 0]))] false 0)
 (.seq (.seq (.region [] [oq 28 (.fad 3 1 49 47 (.t 2)),
 oq 29 (.ld (.one (.sl 64)) 47 (.t 28)),
 oq 30 (.lenL (.t 29)),
 oq 31 (.mov (.c lI [.int 0]))] false 0)
 (.block 0 (.loop align_Cost_h0 align_Cost_o0 align_Cost_c0)))
 (.seq (.region [] [oq 58 (.mov (.t 5)),
 oq 59 (.imin false [(.t 58), (.c lI [.int 3])]),
 oq 4 (.mov (.t 59))] false 0)
 .ret)))))) }

def align_table_h1 : Shape := { slots := [(0, .d (.one (.sl 64))), (1, .d (.one (.sl 64))), (5, .hol 0), (6, .d lI), (7, .d lI)], objs := [.hol (.one (.sl 3)) (.whole 1), .arr lI] }
def align_table_o1 : List (Exit' × Shape) := [(.exit 2, { slots := [(0, .d (.one (.sl 64))), (1, .d (.one (.sl 64))), (5, .hol 0), (6, .d lI)], objs := [.hol (.one (.sl 3)) (.whole 1), .arr lI] })]
def align_table_c1 : ACode := (.seq (.seq (.region [] [oq 27 (.mov (.t 7)),
 oq 28 (.icmp .geq (.t 27) (.c lI [.int 0]))] false 0)
 (.cond (.t 28) .skip
 (.exit 2)))
 (.seq (.block 3 (.block 4 (.seq (.region [] [oq 78 (.mov (.t 6)),
 oq 79 (.mov (.t 0)),
 oq 80 (.lenL (.t 79)),
 oq 81 (.icmp .eql (.t 78) (.t 80)),
 oq 77 (.mov (.t 81))] false 0)
 (.cond (.t 77) (.region [] [oq 82 (.mov (.t 5)),
 oq 83 (.mov (.t 6)),
 oq 84 (.iad 30 (.one (.sl 3)) (.t 82) (.t 83)),
 oq 85 (.ldH true (.one (.sl 3)) (.t 84)),
 oq 86 (.mov (.t 7)),
 oq 87 (.mov (.t 1)),
 oq 88 (.lenL (.t 87)),
 oq 89 (.mov (.t 7)),
 oq 90 (.ibin .sub (.t 88) (.t 89)),
 oq 91 (.ibin .mul (.c lI [.int 2]) (.t 90)),
 oq 92 (.iad 3 lI (.t 85) (.t 86)),
 ⟨none, .st lI (.t 92) (.t 91), none, []⟩] false 0)
 (.seq (.region [] [oq 94 (.mov (.t 7)),
 oq 95 (.mov (.t 1)),
 oq 96 (.lenL (.t 95)),
 oq 97 (.icmp .eql (.t 94) (.t 96)),
 oq 93 (.mov (.t 97))] false 0)
 (.cond (.t 93) (.region [] [oq 98 (.mov (.t 5)),
 oq 99 (.mov (.t 6)),
 oq 100 (.iad 30 (.one (.sl 3)) (.t 98) (.t 99)),
 oq 101 (.ldH true (.one (.sl 3)) (.t 100)),
 oq 102 (.mov (.t 7)),
 oq 103 (.mov (.t 0)),
 oq 104 (.lenL (.t 103)),
 oq 105 (.mov (.t 6)),
 oq 106 (.ibin .sub (.t 104) (.t 105)),
 oq 107 (.ibin .mul (.c lI [.int 2]) (.t 106)),
 oq 108 (.iad 3 lI (.t 101) (.t 102)),
 ⟨none, .st lI (.t 108) (.t 107), none, []⟩] false 0)
 (.region [] [oq 31 (.mov (.t 5)),
 oq 32 (.mov (.t 6)),
 ⟨some 33, .iad 30 (.one (.sl 3)) (.t 31) (.t 32), none, [0, 1]⟩,
 ⟨some 34, .ldH true (.one (.sl 3)) (.t 33), none, [0, 1, 2]⟩,
 oq 35 (.mov (.t 7)),
 oq 36 (.mov (.t 5)),
 oq 37 (.mov (.t 6)),
 ⟨some 38, .ibin .add (.t 37) (.c lI [.int 1]), none, [6]⟩,
 ⟨some 39, .iad 30 (.one (.sl 3)) (.t 36) (.t 38), none, [5, 6, 7]⟩,
 ⟨some 40, .ldH false (.one (.sl 3)) (.t 39), none, [5, 6, 7, 8]⟩,
 oq 41 (.mov (.t 7)),
 ⟨some 42, .ibin .add (.t 41) (.c lI [.int 1]), none, [10]⟩,
 ⟨some 43, .iad 3 lI (.t 40) (.t 42), none, [5, 6, 7, 8, 9, 10, 11]⟩,
 ⟨some 44, .ld lI 3 (.t 43), none, [5, 6, 7, 8, 9, 10, 11, 12]⟩,
 oq 45 (.mov (.t 0)),
 oq 46 (.mov (.t 6)),
 ⟨some 47, .iad 64 lA0 (.t 45) (.t 46), none, [14, 15]⟩,
 ⟨some 48, .fad 1 4 64 49 (.t 47), none, [14, 15, 16]⟩,
 ⟨some 49, .ld lA1 49 (.t 48), none, [14, 15, 16, 17]⟩,
 oq 50 (.mov (.t 1)),
 oq 51 (.mov (.t 7)),
 ⟨some 52, .iad 64 lA0 (.t 50) (.t 51), none, [19, 20]⟩,
 ⟨some 53, .fad 1 4 64 49 (.t 52), none, [19, 20, 21]⟩,
 ⟨some 54, .ld lA1 49 (.t 53), none, [19, 20, 21, 22]⟩,
 ⟨some 55, .call 26 [lA1, lA1] [lI] [(.t 49), (.t 54)], none, [14, 15, 16, 17, 18, 19, 20, 21, 22, 23]⟩,
 ⟨some 56, .ibin .add (.t 44) (.t 55), none, [5, 6, 7, 8, 9, 10, 11, 12, 13, 14, 15, 16, 17, 18, 19, 20, 21, 22, 23, 24]⟩,
 oq 57 (.mov (.t 5)),
 oq 58 (.mov (.t 6)),
 ⟨some 59, .ibin .add (.t 58) (.c lI [.int 1]), none, [27]⟩,
 ⟨some 60, .iad 30 (.one (.sl 3)) (.t 57) (.t 59), none, [26, 27, 28]⟩,
 ⟨some 61, .ldH false (.one (.sl 3)) (.t 60), none, [26, 27, 28, 29]⟩,
 oq 62 (.mov (.t 7)),
 ⟨some 63, .iad 3 lI (.t 61) (.t 62), none, [26, 27, 28, 29, 30, 31]⟩,
 ⟨some 64, .ld lI 3 (.t 63), none, [26, 27, 28, 29, 30, 31, 32]⟩,
 ⟨some 65, .ibin .add (.t 64) (.c lI [.int 2]), none, [26, 27, 28, 29, 30, 31, 32, 33]⟩,
 oq 66 (.mov (.t 5)),
 oq 67 (.mov (.t 6)),
 ⟨some 68, .iad 30 (.one (.sl 3)) (.t 66) (.t 67), none, [35, 36]⟩,
 ⟨some 69, .ldH true (.one (.sl 3)) (.t 68), none, [35, 36, 37]⟩,
 oq 70 (.mov (.t 7)),
 ⟨some 71, .ibin .add (.t 70) (.c lI [.int 1]), none, [39]⟩,
 ⟨some 72, .iad 3 lI (.t 69) (.t 71), none, [35, 36, 37, 38, 39, 40]⟩,
 ⟨some 73, .ld lI 3 (.t 72), none, [35, 36, 37, 38, 39, 40, 41]⟩,
 ⟨some 74, .ibin .add (.t 73) (.c lI [.int 2]), none, [35, 36, 37, 38, 39, 40, 41, 42]⟩,
 ⟨some 75, .imin false [(.t 56), (.t 65), (.t 74)], none, [5, 6, 7, 8, 9, 10, 11, 12, 13, 14, 15, 16, 17, 18, 19, 20, 21, 22, 23, 24, 25, 26, 27, 28, 29, 30, 31, 32, 33, 34, 35, 36, 37, 38, 39, 40, 41, 42, 43]⟩,
 ⟨some 76, .iad 3 lI (.t 34) (.t 35), none, [0, 1, 2, 3, 4, 5, 6, 7, 8, 9, 10, 11, 12, 13, 14, 15, 16, 17, 18, 19, 20, 21, 22, 23, 24, 25, 26, 27, 28, 29, 30, 31, 32, 33, 34, 35, 36, 37, 38, 39, 40, 41, 42, 43, 44]⟩,
 ⟨none, .st lI (.t 76) (.t 75), none, [0, 1, 2, 3, 4, 5, 6, 7, 8, 9, 10, 11, 12, 13, 14, 15, 16, 17, 18, 19, 20, 21, 22, 23, 24, 25, 26, 27, 28, 29, 30, 31, 32, 33, 34, 35, 36, 37, 38, 39, 40, 41, 42, 43, 44, 45]⟩] true 0)))))))
 (.region [] [oq 29 (.mov (.t 7)),
 oq 30 (.ibin .sub (.t 29) (.c lI [.int 1])),
 oq 7 (.mov (.t 30))] false 0)))
def align_table_h0 : Shape := { slots := [(0, .d (.one (.sl 64))), (1, .d (.one (.sl 64))), (5, .whole 0), (6, .d lI)], objs := [.arr (.one (.sl 3))] }
def align_table_o0 : List (Exit' × Shape) := [(.exit 0, { slots := [(5, .whole 0)], objs := [.arr (.one (.sl 3))] })]
def align_table_c0 : ACode := (.seq (.seq (.region [] [oq 14 (.mov (.t 6)),
 oq 15 (.icmp .geq (.t 14) (.c lI [.int 0]))] false 0)
 (.cond (.t 15) .skip
 (.exit 0)))
 (.seq (.block 1 (.seq (.ghost (.opnH 5 (.one (.sl 3))) (.region [] [oq 18 (.mov (.t 5)),
 oq 19 (.mov (.t 6)),
 oq 20 (.mov (.t 1)),
 oq 21 (.lenL (.t 20)),
 oq 22 (.ibin .add (.t 21) (.c lI [.int 1])),
 oq 23 (.mk 0 3 lI [.int 0] 8 (.t 22) (.t 22)),
 oq 24 (.iad 30 (.one (.sl 3)) (.t 18) (.t 19)),
 ⟨none, .stH (.t 24) (.t 23), none, []⟩] false 1))
 (.seq (.region [] [oq 25 (.mov (.t 1)),
 oq 26 (.lenL (.t 25)),
 oq 7 (.mov (.t 26))] false 0)
 (.block 2 (.loop align_table_h1 align_table_o1 align_table_c1)))))
 (.ghost (.clsH 5 3 lI) (.region [] [oq 16 (.mov (.t 6)),
 oq 17 (.ibin .sub (.t 16) (.c lI [.int 1])),
 oq 6 (.mov (.t 17))] false 0))))
def align_table_a : AFun := { ps := [(.one (.sl 64)), (.one (.sl 64))], rs := [(.one (.sl 30))], res := [(false, 4, (some (.one (.sl 3))))], body := (.seq (.region [] [oq 4 (.mov (.c (.one (.sl 30)) [.nils]))] false 0)
 (.seq (.region [] [oq 8 (.mov (.t 0)),
 oq 9 (.lenL (.t 8)),
 oq 10 (.ibin .add (.t 9) (.c lI [.int 1])),
 oq 11 (.mk 0 30 (.one (.sl 3)) [.nils] 24 (.t 10) (.t 10)),
 oq 5 (.mov (.t 11))] false 1)
 (.seq (.seq (.region [] [oq 12 (.mov (.t 0)),
 oq 13 (.lenL (.t 12)),
 oq 6 (.mov (.t 13))] false 0)
 (.block 0 (.loop align_table_h0 align_table_o0 align_table_c0)))
 (.seq (.region [] [oq 109 (.mov (.t 5)),
 oq 4 (.mov (.t 109))] false 0)
 .ret)))) }
end Go.Ev
