/-
  A part of the proof: what the functions of the program compute.
-/
import Derived.Test.YtgfpahfegbmoeaaZNum
set_option linter.all false
set_option maxRecDepth 100000
namespace Go.Ev
def align_ByEdits_h0 : Shape := { slots := [(2, .d (.one (.ref 49))), (3, .d (.one (.ref 49))), (8, .d (.one (.sl 30))), (9, .sw 0), (10, .d lI), (11, .d lI)], objs := [.sarr 27 lA2] }
def align_ByEdits_o0 : List (Exit' × Shape) := [(.exit 0, { slots := [(8, .d (.one (.sl 30))), (9, .sw 0)], objs := [.sarr 27 lA2] })]
def align_ByEdits_c0 : ACode := (.seq (.seq (.join [(.normal, { slots := [(2, .d (.one (.ref 49))), (3, .d (.one (.ref 49))), (8, .d (.one (.sl 30))), (9, .sw 0), (10, .d lI), (11, .d lI), (34, .d lB)], objs := [.sarr 27 lA2] })] (.region [] [oq 23 (.mov (.t 10)),
 oq 24 (.fad 3 1 49 47 (.t 2)),
 oq 25 (.ld (.one (.sl 64)) 47 (.t 24)),
 oq 26 (.lenL (.t 25)),
 oq 27 (.icmp .lss (.t 23) (.t 26)),
 oq 28 (.mov (.t 27)),
 ⟨some 29, .mov (.t 11), some (28, false), []⟩,
 ⟨some 30, .fad 3 1 49 47 (.t 3), some (28, false), []⟩,
 ⟨some 31, .ld (.one (.sl 64)) 47 (.t 30), some (28, false), []⟩,
 ⟨some 32, .lenL (.t 31), some (28, false), []⟩,
 ⟨some 33, .icmp .lss (.t 29) (.t 32), some (28, false), []⟩,
 oq 34 (.pick (.t 28) (.c lB [.bool true]) (.t 33))] false 0))
 (.cond (.t 34) .skip
 (.exit 0)))
 (.join [(.normal, { slots := [(2, .d (.one (.ref 49))), (3, .d (.one (.ref 49))), (8, .d (.one (.sl 30))), (9, .sw 0), (10, .d lI), (11, .d lI)], objs := [.sarr 27 lA2] })] (.block 1 (.block 2 (.seq (.join [(.normal, { slots := [(2, .d (.one (.ref 49))), (3, .d (.one (.ref 49))), (8, .d (.one (.sl 30))), (9, .sw 0), (10, .d lI), (11, .d lI), (37, .d lB)], objs := [.sarr 27 lA2] })] (.region [] [oq 38 (.mov (.t 10)),
 oq 39 (.fad 3 1 49 47 (.t 2)),
 ⟨some 40, .ld (.one (.sl 64)) 47 (.t 39), none, [1]⟩,
 ⟨some 41, .lenL (.t 40), none, [1, 2]⟩,
 ⟨some 42, .icmp .lss (.t 38) (.t 41), none, [0, 1, 2, 3]⟩,
 ⟨some 43, .mov (.t 42), none, [0, 1, 2, 3, 4]⟩,
 ⟨some 44, .mov (.t 11), some (43, true), [0, 1, 2, 3, 4, 5]⟩,
 ⟨some 45, .fad 3 1 49 47 (.t 3), some (43, true), [0, 1, 2, 3, 4, 5]⟩,
 ⟨some 46, .ld (.one (.sl 64)) 47 (.t 45), some (43, true), [0, 1, 2, 3, 4, 5, 7]⟩,
 ⟨some 47, .lenL (.t 46), some (43, true), [0, 1, 2, 3, 4, 5, 7, 8]⟩,
 ⟨some 48, .icmp .lss (.t 44) (.t 47), some (43, true), [0, 1, 2, 3, 4, 5, 6, 7, 8, 9]⟩,
 ⟨some 49, .pick (.t 43) (.t 48) (.c lB [.bool false]), none, [0, 1, 2, 3, 4, 5, 6, 7, 8, 9, 10]⟩,
 ⟨some 50, .mov (.t 49), none, [0, 1, 2, 3, 4, 5, 6, 7, 8, 9, 10, 11]⟩,
 ⟨some 51, .mov (.t 8), some (50, true), [0, 1, 2, 3, 4, 5, 6, 7, 8, 9, 10, 11, 12]⟩,
 ⟨some 52, .mov (.t 10), some (50, true), [0, 1, 2, 3, 4, 5, 6, 7, 8, 9, 10, 11, 12]⟩,
 ⟨some 53, .iad 30 (.one (.sl 3)) (.t 51) (.t 52), some (50, true), [0, 1, 2, 3, 4, 5, 6, 7, 8, 9, 10, 11, 12, 13, 14]⟩,
 ⟨some 54, .ld (.one (.sl 3)) 30 (.t 53), some (50, true), [0, 1, 2, 3, 4, 5, 6, 7, 8, 9, 10, 11, 12, 13, 14, 15]⟩,
 ⟨some 55, .mov (.t 11), some (50, true), [0, 1, 2, 3, 4, 5, 6, 7, 8, 9, 10, 11, 12]⟩,
 ⟨some 56, .iad 3 lI (.t 54) (.t 55), some (50, true), [0, 1, 2, 3, 4, 5, 6, 7, 8, 9, 10, 11, 12, 13, 14, 15, 16, 17]⟩,
 ⟨some 57, .ld lI 3 (.t 56), some (50, true), [0, 1, 2, 3, 4, 5, 6, 7, 8, 9, 10, 11, 12, 13, 14, 15, 16, 17, 18]⟩,
 ⟨some 58, .mov (.t 8), some (50, true), [0, 1, 2, 3, 4, 5, 6, 7, 8, 9, 10, 11, 12]⟩,
 ⟨some 59, .mov (.t 10), some (50, true), [0, 1, 2, 3, 4, 5, 6, 7, 8, 9, 10, 11, 12]⟩,
 ⟨some 60, .ibin .add (.t 59) (.c lI [.int 1]), some (50, true), [0, 1, 2, 3, 4, 5, 6, 7, 8, 9, 10, 11, 12, 21]⟩,
 ⟨some 61, .iad 30 (.one (.sl 3)) (.t 58) (.t 60), some (50, true), [0, 1, 2, 3, 4, 5, 6, 7, 8, 9, 10, 11, 12, 20, 21, 22]⟩,
 ⟨some 62, .ld (.one (.sl 3)) 30 (.t 61), some (50, true), [0, 1, 2, 3, 4, 5, 6, 7, 8, 9, 10, 11, 12, 20, 21, 22, 23]⟩,
 ⟨some 63, .mov (.t 11), some (50, true), [0, 1, 2, 3, 4, 5, 6, 7, 8, 9, 10, 11, 12]⟩,
 ⟨some 64, .ibin .add (.t 63) (.c lI [.int 1]), some (50, true), [0, 1, 2, 3, 4, 5, 6, 7, 8, 9, 10, 11, 12, 25]⟩,
 ⟨some 65, .iad 3 lI (.t 62) (.t 64), some (50, true), [0, 1, 2, 3, 4, 5, 6, 7, 8, 9, 10, 11, 12, 20, 21, 22, 23, 24, 25, 26]⟩,
 ⟨some 66, .ld lI 3 (.t 65), some (50, true), [0, 1, 2, 3, 4, 5, 6, 7, 8, 9, 10, 11, 12, 20, 21, 22, 23, 24, 25, 26, 27]⟩,
 ⟨some 67, .fad 3 1 49 47 (.t 2), some (50, true), [0, 1, 2, 3, 4, 5, 6, 7, 8, 9, 10, 11, 12]⟩,
 ⟨some 68, .ld (.one (.sl 64)) 47 (.t 67), some (50, true), [0, 1, 2, 3, 4, 5, 6, 7, 8, 9, 10, 11, 12, 29]⟩,
 ⟨some 69, .mov (.t 10), some (50, true), [0, 1, 2, 3, 4, 5, 6, 7, 8, 9, 10, 11, 12]⟩,
 ⟨some 70, .iad 64 lA0 (.t 68) (.t 69), some (50, true), [0, 1, 2, 3, 4, 5, 6, 7, 8, 9, 10, 11, 12, 29, 30, 31]⟩,
 ⟨some 71, .fad 1 4 64 49 (.t 70), some (50, true), [0, 1, 2, 3, 4, 5, 6, 7, 8, 9, 10, 11, 12, 29, 30, 31, 32]⟩,
 ⟨some 72, .ld lA1 49 (.t 71), some (50, true), [0, 1, 2, 3, 4, 5, 6, 7, 8, 9, 10, 11, 12, 29, 30, 31, 32, 33]⟩,
 ⟨some 73, .fad 3 1 49 47 (.t 3), some (50, true), [0, 1, 2, 3, 4, 5, 6, 7, 8, 9, 10, 11, 12]⟩,
 ⟨some 74, .ld (.one (.sl 64)) 47 (.t 73), some (50, true), [0, 1, 2, 3, 4, 5, 6, 7, 8, 9, 10, 11, 12, 35]⟩,
 ⟨some 75, .mov (.t 11), some (50, true), [0, 1, 2, 3, 4, 5, 6, 7, 8, 9, 10, 11, 12]⟩,
 ⟨some 76, .iad 64 lA0 (.t 74) (.t 75), some (50, true), [0, 1, 2, 3, 4, 5, 6, 7, 8, 9, 10, 11, 12, 35, 36, 37]⟩,
 ⟨some 77, .fad 1 4 64 49 (.t 76), some (50, true), [0, 1, 2, 3, 4, 5, 6, 7, 8, 9, 10, 11, 12, 35, 36, 37, 38]⟩,
 ⟨some 78, .ld lA1 49 (.t 77), some (50, true), [0, 1, 2, 3, 4, 5, 6, 7, 8, 9, 10, 11, 12, 35, 36, 37, 38, 39]⟩,
 ⟨some 79, .call 26 [lA1, lA1] [lI] [(.t 72), (.t 78)], some (50, true), [0, 1, 2, 3, 4, 5, 6, 7, 8, 9, 10, 11, 12, 29, 30, 31, 32, 33, 34, 35, 36, 37, 38, 39, 40]⟩,
 ⟨some 80, .ibin .add (.t 66) (.t 79), some (50, true), [0, 1, 2, 3, 4, 5, 6, 7, 8, 9, 10, 11, 12, 20, 21, 22, 23, 24, 25, 26, 27, 28, 29, 30, 31, 32, 33, 34, 35, 36, 37, 38, 39, 40, 41]⟩,
 ⟨some 81, .icmp .eql (.t 57) (.t 80), some (50, true), [0, 1, 2, 3, 4, 5, 6, 7, 8, 9, 10, 11, 12, 13, 14, 15, 16, 17, 18, 19, 20, 21, 22, 23, 24, 25, 26, 27, 28, 29, 30, 31, 32, 33, 34, 35, 36, 37, 38, 39, 40, 41, 42]⟩,
 ⟨some 82, .pick (.t 50) (.t 81) (.c lB [.bool false]), none, [0, 1, 2, 3, 4, 5, 6, 7, 8, 9, 10, 11, 12, 13, 14, 15, 16, 17, 18, 19, 20, 21, 22, 23, 24, 25, 26, 27, 28, 29, 30, 31, 32, 33, 34, 35, 36, 37, 38, 39, 40, 41, 42, 43]⟩,
 ⟨some 37, .mov (.t 82), none, [0, 1, 2, 3, 4, 5, 6, 7, 8, 9, 10, 11, 12, 13, 14, 15, 16, 17, 18, 19, 20, 21, 22, 23, 24, 25, 26, 27, 28, 29, 30, 31, 32, 33, 34, 35, 36, 37, 38, 39, 40, 41, 42, 43, 44]⟩] true 0))
 (.cond (.t 37) (.seq (.region [] [oq 83 (.mov (.t 9)),
 oq 84 (.mov (.t 10)),
 oq 85 (.mov (.t 11)),
 oq 86 (.bld lA2 [.int 0, .int 0] [(0, 1, (.t 84)), (1, 1, (.t 85))]),
 oq 87 (.bsl 27 lA2 1 [.int 0, .int 0] [(0, (.t 86))]),
 oq 88 (.appW 0 27 lA2 16 (.t 83) (.t 87)),
 oq 9 (.mov (.t 88))] false 1)
 (.region [] [oq 89 (.mov (.t 10)),
 oq 90 (.ibin .add (.t 89) (.c lI [.int 1])),
 oq 91 (.mov (.t 11)),
 oq 92 (.ibin .add (.t 91) (.c lI [.int 1])),
 oq 10 (.mov (.t 90)),
 oq 11 (.mov (.t 92))] false 0))
 (.seq (.region [] [oq 94 (.mov (.t 10)),
 oq 95 (.fad 3 1 49 47 (.t 2)),
 ⟨some 96, .ld (.one (.sl 64)) 47 (.t 95), none, [1]⟩,
 ⟨some 97, .lenL (.t 96), none, [1, 2]⟩,
 ⟨some 98, .icmp .lss (.t 94) (.t 97), none, [0, 1, 2, 3]⟩,
 ⟨some 99, .mov (.t 98), none, [0, 1, 2, 3, 4]⟩,
 ⟨some 100, .mov (.t 8), some (99, true), [0, 1, 2, 3, 4, 5]⟩,
 ⟨some 101, .mov (.t 10), some (99, true), [0, 1, 2, 3, 4, 5]⟩,
 ⟨some 102, .iad 30 (.one (.sl 3)) (.t 100) (.t 101), some (99, true), [0, 1, 2, 3, 4, 5, 6, 7]⟩,
 ⟨some 103, .ld (.one (.sl 3)) 30 (.t 102), some (99, true), [0, 1, 2, 3, 4, 5, 6, 7, 8]⟩,
 ⟨some 104, .mov (.t 11), some (99, true), [0, 1, 2, 3, 4, 5]⟩,
 ⟨some 105, .iad 3 lI (.t 103) (.t 104), some (99, true), [0, 1, 2, 3, 4, 5, 6, 7, 8, 9, 10]⟩,
 ⟨some 106, .ld lI 3 (.t 105), some (99, true), [0, 1, 2, 3, 4, 5, 6, 7, 8, 9, 10, 11]⟩,
 ⟨some 107, .mov (.t 8), some (99, true), [0, 1, 2, 3, 4, 5]⟩,
 ⟨some 108, .mov (.t 10), some (99, true), [0, 1, 2, 3, 4, 5]⟩,
 ⟨some 109, .ibin .add (.t 108) (.c lI [.int 1]), some (99, true), [0, 1, 2, 3, 4, 5, 14]⟩,
 ⟨some 110, .iad 30 (.one (.sl 3)) (.t 107) (.t 109), some (99, true), [0, 1, 2, 3, 4, 5, 13, 14, 15]⟩,
 ⟨some 111, .ld (.one (.sl 3)) 30 (.t 110), some (99, true), [0, 1, 2, 3, 4, 5, 13, 14, 15, 16]⟩,
 ⟨some 112, .mov (.t 11), some (99, true), [0, 1, 2, 3, 4, 5]⟩,
 ⟨some 113, .iad 3 lI (.t 111) (.t 112), some (99, true), [0, 1, 2, 3, 4, 5, 13, 14, 15, 16, 17, 18]⟩,
 ⟨some 114, .ld lI 3 (.t 113), some (99, true), [0, 1, 2, 3, 4, 5, 13, 14, 15, 16, 17, 18, 19]⟩,
 ⟨some 115, .ibin .add (.t 114) (.c lI [.int 2]), some (99, true), [0, 1, 2, 3, 4, 5, 13, 14, 15, 16, 17, 18, 19, 20]⟩,
 ⟨some 116, .icmp .eql (.t 106) (.t 115), some (99, true), [0, 1, 2, 3, 4, 5, 6, 7, 8, 9, 10, 11, 12, 13, 14, 15, 16, 17, 18, 19, 20, 21]⟩,
 ⟨some 117, .pick (.t 99) (.t 116) (.c lB [.bool false]), none, [0, 1, 2, 3, 4, 5, 6, 7, 8, 9, 10, 11, 12, 13, 14, 15, 16, 17, 18, 19, 20, 21, 22]⟩,
 ⟨some 93, .mov (.t 117), none, [0, 1, 2, 3, 4, 5, 6, 7, 8, 9, 10, 11, 12, 13, 14, 15, 16, 17, 18, 19, 20, 21, 22, 23]⟩] true 0)
 (.cond (.t 93) (.region [] [oq 118 (.mov (.t 10)),
 oq 119 (.ibin .add (.t 118) (.c lI [.int 1])),
 oq 10 (.mov (.t 119))] false 0)
 (.region [] [oq 35 (.mov (.t 11)),
 oq 36 (.ibin .add (.t 35) (.c lI [.int 1])),
 oq 11 (.mov (.t 36))] false 0)))))))))
def align_ByEdits_a : AFun := { ps := [lA1, lA1], rs := [(.one (.sl 27)), lI, lI], res := [(false, 4, (some lA2)), (false, 5, none), (false, 6, none)], body := (.seq (.region [] [oq 2 (.boxP lA1 49 (.t 0)),
 oq 3 (.boxP lA1 49 (.t 1)),
 oq 4 (.mov (.c (.one (.sl 27)) [.nils])),
 oq 5 (.mov (.c lI [.int 0])),
 oq 6 (.mov (.c lI [.int 0]))] false 0)
 (.seq (.seq (.region [] [oq 12 (.ld lA1 49 (.t 2)),
 oq 13 (.ld lA1 49 (.t 3)),
 oq 14 (.call 24 [lA1, lA1] [lI] [(.t 12), (.t 13)]),
 oq 7 (.mov (.t 14))] false 0)
 (.seq (.region [] [oq 15 (.mov (.t 7)),
 oq 16 (.icmp .neq (.t 15) (.c lI [.int 0]))] false 0)
 (.cond (.t 16) (.seq (.region [] [oq 17 (.mov (.t 7)),
 oq 4 (.mov (.c (.one (.sl 27)) [.nils])),
 oq 5 (.mov (.c lI [.int 0])),
 oq 6 (.mov (.t 17))] false 0)
 .ret)
 .skip)))
 (.seq (.region [] [oq 18 (.fad 3 1 49 47 (.t 2)),
 oq 19 (.ld (.one (.sl 64)) 47 (.t 18)),
 oq 20 (.fad 3 1 49 47 (.t 3)),
 oq 21 (.ld (.one (.sl 64)) 47 (.t 20)),
 oq 22 (.call 25 [(.one (.sl 64)), (.one (.sl 64))] [(.one (.sl 30))] [(.t 19), (.t 21)]),
 oq 8 (.mov (.t 22))] false 0)
 (.seq (.region [] [oq 9 (.nilS 0 27 lA2)] false 1)
 (.seq (.region [] [oq 10 (.mov (.c lI [.int 0])),
 oq 11 (.mov (.c lI [.int 0]))] false 0)
 (.seq (.block 0 (.loop align_ByEdits_h0 align_ByEdits_o0 align_ByEdits_c0))
 (.seq (.region [] [oq 120 (.mov (.t 9)),
 oq 121 (.mov (.t 8)),
 ⟨some 122, .iad 30 (.one (.sl 3)) (.t 121) (.c lI [.int 0]), none, [1]⟩,
 ⟨some 123, .ld (.one (.sl 3)) 30 (.t 122), none, [1, 2]⟩,
 ⟨some 124, .iad 3 lI (.t 123) (.c lI [.int 0]), none, [1, 2, 3]⟩,
 ⟨some 125, .ld lI 3 (.t 124), none, [1, 2, 3, 4]⟩,
 ⟨some 4, .mov (.t 120), none, [0]⟩,
 ⟨some 5, .mov (.t 125), none, [0, 1, 2, 3, 4, 5, 6]⟩,
 ⟨some 6, .mov (.c lI [.int 0]), none, [0, 1, 2, 3, 4, 5, 6, 7]⟩] true 0)
 .ret))))))) }

def claplaw3_num_a : AFun := { ps := [lI], rs := [lA1], res := [(true, 2, none)], body := (.seq (.region [] [oq 2 (.allocO 0 lA1 [.int 0, .int 0, .str [], .nils])] false 1)
 (.seq (.region [] [oq 3 (.mov (.t 0)),
 oq 4 (.bld lA1 [.int 0, .int 0, .str [], .nils] [(0, 1, (.c lI [.int 2])), (1, 1, (.t 3))]),
 ⟨none, .st lA1 (.t 2) (.t 4), none, []⟩] false 0)
 .ret)) }

def claplaw3_list_h0 : Shape := { slots := [(2, .ptr 0 0), (3, .ptr 1 0), (7, .d (.one (.sl 3))), (8, .d lI), (9, .d lI)], objs := [.var lA1, oS0, .sarr 64 lA0] }
def claplaw3_list_o0 : List (Exit' × Shape) := [(.exit 0, { slots := [(2, .ptr 0 0), (3, .ptr 1 0)], objs := [.var lA1, oS0, .sarr 64 lA0] })]
def claplaw3_list_c0 : ACode := (.seq (.region [] [oq 10 (.icmp .lss (.t 9) (.t 8))] false 0)
 (.seq (.cond (.t 10) .skip
 (.exit 0))
 (.seq (.block 1 (.seq (.region [] [oq 11 (.iad 3 lI (.t 7) (.t 9)),
 oq 12 (.ld lI 3 (.t 11)),
 oq 5 (.mov (.t 12))] false 0)
 (.region [] [oq 13 (.fad 3 1 49 47 (.t 3)),
 ⟨some 14, .ldC (.t 13), none, [0]⟩,
 oq 15 (.mov (.t 5)),
 ⟨some 16, .call 27 [lI] [lA1] [(.t 15)], none, [2]⟩,
 ⟨some 17, .bld lA0 [.str [], .int 0, .int 0, .str [], .nils] [(1, 4, (.t 16))], none, [2, 3]⟩,
 ⟨some 18, .bsl 64 lA0 1 [.str [], .int 0, .int 0, .str [], .nils] [(0, (.t 17))], none, [2, 3, 4]⟩,
 ⟨some 19, .appW 0 64 lA0 72 (.t 14) (.t 18), none, [0, 1, 2, 3, 4, 5]⟩,
 ⟨some 20, .fad 3 1 49 47 (.t 3), none, [0, 1, 2, 3, 4, 5, 6]⟩,
 ⟨none, .stC (.t 20) (.t 19), none, [0, 1, 2, 3, 4, 5, 6, 7]⟩] true 1)))
 (.region [] [oq 21 (.ibin .add (.t 9) (.c lI [.int 1])),
 oq 9 (.mov (.t 21))] false 0))))
def claplaw3_list_a : AFun := { ps := [(.one (.sl 3))], rs := [lA1], res := [(true, 2, none)], body := (.seq (.region [] [oq 2 (.allocO 0 lA1 [.int 0, .int 0, .str [], .nils])] false 1)
 (.seq (.post (.lft 3 (some 3) 64 lA0) (.region [] [oq 6 (.bldA [some ((.int .i64), .int 0), some ((.int .i64), .int 0), some ((.str), .str []), some ((.sl 64), .nils)] [(0, 1, (.c lI [.int 8]))]),
 oq 3 (.allocA 0 [some ((.int .i64), .int 0), some ((.int .i64), .int 0), some ((.str), .str []), some ((.sl 64), .nils)]),
 ⟨none, .stA 4 (.t 3) (.t 6), none, []⟩] false 1))
 (.seq (.seq (.region [] [oq 7 (.mov (.t 0)),
 oq 8 (.lenL (.t 7)),
 oq 9 (.mov (.c lI [.int 0]))] false 0)
 (.block 0 (.loop claplaw3_list_h0 claplaw3_list_o0 claplaw3_list_c0)))
 (.seq (.region [] [oq 22 (.ldA 4 (.t 3)),
 ⟨none, .st lA1 (.t 2) (.t 22), none, []⟩] false 0)
 .ret)))) }

def claplaw3_aligned_a : AFun := { ps := [], rs := [lB], res := [(false, 0, none)], body := (.seq (.region [] [oq 0 (.mov (.c lB [.bool false]))] false 0)
 (.seq (.region [] [oq 5 (.bsl 3 lI 2 [.int 0] [(0, (.c lI [.int 1])), (1, (.c lI [.int 2]))]),
 oq 6 (.call 19 [(.one (.sl 3))] [lA1] [(.t 5)]),
 oq 7 (.bsl 3 lI 1 [.int 0] [(0, (.c lI [.int 2]))]),
 oq 8 (.call 19 [(.one (.sl 3))] [lA1] [(.t 7)]),
 oq 9 (.call 18 [lA1, lA1] [(.one (.sl 27)), lI, lI] [(.t 6), (.t 8)]),
 oq 4 (.mov (.t 9)),
 oq 10 (.ext 0 (.t 4)),
 oq 11 (.ext 1 (.t 4)),
 oq 12 (.ext 2 (.t 4)),
 oq 1 (.mov (.t 10)),
 oq 2 (.mov (.t 11)),
 oq 3 (.mov (.t 12))] false 0)
 (.seq (.region [] [oq 13 (.mov (.t 3)),
 oq 14 (.icmp .eql (.t 13) (.c lI [.int 0])),
 oq 15 (.mov (.t 14)),
 ⟨some 16, .mov (.t 2), some (15, true), []⟩,
 ⟨some 17, .icmp .eql (.t 16) (.c lI [.int 2]), some (15, true), []⟩,
 oq 18 (.pick (.t 15) (.t 17) (.c lB [.bool false])),
 oq 19 (.mov (.t 18)),
 ⟨some 20, .mov (.t 1), some (19, true), []⟩,
 ⟨some 21, .lenL (.t 20), some (19, true), []⟩,
 ⟨some 22, .icmp .eql (.t 21) (.c lI [.int 1]), some (19, true), []⟩,
 oq 23 (.pick (.t 19) (.t 22) (.c lB [.bool false])),
 oq 24 (.mov (.t 23)),
 ⟨some 25, .mov (.t 1), some (24, true), []⟩,
 ⟨some 26, .iad 27 lA2 (.t 25) (.c lI [.int 0]), some (24, true), []⟩,
 ⟨some 27, .ld lA2 27 (.t 26), some (24, true), []⟩,
 ⟨some 28, .bld lA2 [.int 0, .int 0] [(0, 1, (.c lI [.int 1])), (1, 1, (.c lI [.int 0]))], some (24, true), []⟩,
 ⟨some 29, .aeq false lA2 (.t 27) (.t 28), some (24, true), []⟩,
 oq 30 (.pick (.t 24) (.t 29) (.c lB [.bool false])),
 oq 0 (.mov (.t 30))] false 0)
 .ret))) }

def align_Check_h0 : Shape := { slots := [(1, .d lI), (2, .d lI), (7, .whole 0), (8, .whole 1), (29, .d (.one (.sl 27))), (30, .d lI), (31, .d lI)], objs := [.arr lB, .arr lB] }
def align_Check_o0 : List (Exit' × Shape) := [(.exit 0, { slots := [], objs := [] }), (.ret, { slots := [(6, .d lI)], objs := [] })]
def align_Check_c0 : ACode := (.seq (.region [] [oq 32 (.icmp .lss (.t 31) (.t 30))] false 0)
 (.seq (.cond (.t 32) .skip
 (.exit 0))
 (.seq (.join [(.normal, { slots := [(1, .d lI), (2, .d lI), (7, .whole 0), (8, .whole 1), (29, .d (.one (.sl 27))), (30, .d lI), (31, .d lI)], objs := [.arr lB, .arr lB] }), (.ret, { slots := [(6, .d lI)], objs := [] })] (.block 1 (.seq (.region [] [oq 33 (.iad 27 lA2 (.t 29) (.t 31)),
 oq 34 (.ld lA2 27 (.t 33)),
 oq 10 (.allocO 0 lA2 [.int 0, .int 0]),
 ⟨none, .st lA2 (.t 10) (.t 34), none, []⟩] false 1)
 (.seq (.seq (.join [(.normal, { slots := [(1, .d lI), (2, .d lI), (7, .whole 0), (8, .whole 1), (10, .ptr 2 0), (29, .d (.one (.sl 27))), (30, .d lI), (31, .d lI), (54, .d lB)], objs := [.arr lB, .arr lB, .var lA2] })] (.region [] [oq 35 (.fad 0 1 27 3 (.t 10)),
 oq 36 (.ld lI 3 (.t 35)),
 oq 37 (.icmp .lss (.t 36) (.c lI [.int 0])),
 oq 38 (.mov (.t 37)),
 ⟨some 39, .fad 0 1 27 3 (.t 10), some (38, false), []⟩,
 ⟨some 40, .ld lI 3 (.t 39), some (38, false), []⟩,
 ⟨some 41, .mov (.t 1), some (38, false), []⟩,
 ⟨some 42, .icmp .geq (.t 40) (.t 41), some (38, false), []⟩,
 oq 43 (.pick (.t 38) (.c lB [.bool true]) (.t 42)),
 oq 44 (.mov (.t 43)),
 ⟨some 45, .fad 1 1 27 3 (.t 10), some (44, false), []⟩,
 ⟨some 46, .ld lI 3 (.t 45), some (44, false), []⟩,
 ⟨some 47, .icmp .lss (.t 46) (.c lI [.int 0]), some (44, false), []⟩,
 oq 48 (.pick (.t 44) (.c lB [.bool true]) (.t 47)),
 oq 49 (.mov (.t 48)),
 ⟨some 50, .fad 1 1 27 3 (.t 10), some (49, false), []⟩,
 ⟨some 51, .ld lI 3 (.t 50), some (49, false), []⟩,
 ⟨some 52, .mov (.t 2), some (49, false), []⟩,
 ⟨some 53, .icmp .geq (.t 51) (.t 52), some (49, false), []⟩,
 oq 54 (.pick (.t 49) (.c lB [.bool true]) (.t 53))] false 0))
 (.cond (.t 54) (.seq (.region [] [oq 6 (.mov (.c lI [.int 11]))] false 0)
 .ret)
 .skip))
 (.seq (.seq (.join [(.normal, { slots := [(1, .d lI), (2, .d lI), (7, .whole 0), (8, .whole 1), (10, .ptr 2 0), (29, .d (.one (.sl 27))), (30, .d lI), (31, .d lI), (66, .d lB)], objs := [.arr lB, .arr lB, .var lA2] })] (.region [] [oq 55 (.mov (.t 7)),
 oq 56 (.fad 0 1 27 3 (.t 10)),
 oq 57 (.ld lI 3 (.t 56)),
 oq 58 (.iad 4 lB (.t 55) (.t 57)),
 oq 59 (.ld lB 4 (.t 58)),
 oq 60 (.mov (.t 59)),
 ⟨some 61, .mov (.t 8), some (60, false), []⟩,
 ⟨some 62, .fad 1 1 27 3 (.t 10), some (60, false), []⟩,
 ⟨some 63, .ld lI 3 (.t 62), some (60, false), []⟩,
 ⟨some 64, .iad 4 lB (.t 61) (.t 63), some (60, false), []⟩,
 ⟨some 65, .ld lB 4 (.t 64), some (60, false), []⟩,
 oq 66 (.pick (.t 60) (.c lB [.bool true]) (.t 65))] false 0))
 (.cond (.t 66) (.seq (.region [] [oq 6 (.mov (.c lI [.int 5]))] false 0)
 .ret)
 .skip))
 (.region [] [oq 67 (.mov (.t 7)),
 oq 68 (.fad 0 1 27 3 (.t 10)),
 ⟨some 69, .ld lI 3 (.t 68), none, [1]⟩,
 oq 70 (.mov (.t 8)),
 oq 71 (.fad 1 1 27 3 (.t 10)),
 ⟨some 72, .ld lI 3 (.t 71), none, [4]⟩,
 ⟨some 73, .iad 4 lB (.t 67) (.t 69), none, [0, 1, 2]⟩,
 ⟨none, .st lB (.t 73) (.c lB [.bool true]), none, [0, 1, 2, 6]⟩,
 ⟨some 74, .iad 4 lB (.t 70) (.t 72), none, [0, 1, 2, 3, 4, 5, 6, 7]⟩,
 ⟨none, .st lB (.t 74) (.c lB [.bool true]), none, [0, 1, 2, 3, 4, 5, 6, 7, 8]⟩] true 0))))))
 (.region [] [oq 75 (.ibin .add (.t 31) (.c lI [.int 1])),
 oq 31 (.mov (.t 75))] false 0))))
noncomputable def align_Check_l0 (E : Env) (v0 : Int) (v1 : Int) (v2 : C) (v3 : Int) (v4 : Int) (v5 : C) (v6 : C) : Option (Nat × List PV) := E.fix (stepOf E align_Check_c0 align_Check_h0 align_Check_o0) [.r [.int v0], .r [.int v1], .r [v2], .r [.int v3], .r [.int v4], .r [v5], .r [v6]]
noncomputable def align_Check_b0 (E : Env) (X : Int → Int → C → Int → Int → C → C → Option (Nat × List PV)) (v0 : Int) (v1 : Int) (v2 : C) (v3 : Int) (v4 : Int) (v5 : C) (v6 : C) : Option (Nat × List PV) :=
 if (decide (v4 < v3)) = true then
 (if (0 : Int) ≤ v4 ∧ v4 < (v2.rows.length : Int) then
 (let K8 : Bool → Option (Nat × List PV) := fun q9 =>
 let K10 : Bool → Option (Nat × List PV) := fun q11 =>
 let K12 : Bool → Option (Nat × List PV) := fun q13 =>
 some (0, [.r [.int v0], .r [.int v1], .r [v2], .r [.int v3], .r [.int v4], .r [.bool q13], .r [v5], .r [v6], .r (rowsAt v2.rows v4.toNat)])
 if q11 = true then
 K12 true
 else
 K12 (decide (((at_ (rowsAt v2.rows v4.toNat) 1).toI) ≥ v1))
 if q9 = true then
 K10 true
 else
 K10 (decide (((at_ (rowsAt v2.rows v4.toNat) 1).toI) < 0))
 if (decide (((at_ (rowsAt v2.rows v4.toNat) 0).toI) < 0)) = true then
 K8 true
 else
 K8 (decide (((at_ (rowsAt v2.rows v4.toNat) 0).toI) ≥ v0))).bind fun x14 =>
 if (gB 5 x14.2) = true then
 some (1, [.r [.int 11]])
 else
 (if (0 : Int) ≤ (gI 8 x14.2) ∧ (gI 8 x14.2) < (((gC 6 x14.2).rows).length : Int) then
 if ((gI 8 x14.2).toNat) < ((gC 6 x14.2).rows).length then
 let K15 : Bool → Option (Nat × List PV) := fun q16 =>
 some (0, [.r [.int (gI 0 x14.2)], .r [.int (gI 1 x14.2)], .r [gC 2 x14.2], .r [.int (gI 3 x14.2)], .r [.int (gI 4 x14.2)], .r [.bool q16], .r [gC 6 x14.2], .r [gC 7 x14.2], .r (gR 8 x14.2)])
 if ((at_ (rowsAt ((gC 6 x14.2).rows) ((gI 8 x14.2).toNat)) 0).toB) = true then
 K15 true
 else
 if (0 : Int) ≤ ((at_ (gR 8 x14.2) 1).toI) ∧ ((at_ (gR 8 x14.2) 1).toI) < (((gC 7 x14.2).rows).length : Int) then
 if (((at_ (gR 8 x14.2) 1).toI).toNat) < ((gC 7 x14.2).rows).length then
 K15 ((at_ (rowsAt ((gC 7 x14.2).rows) (((at_ (gR 8 x14.2) 1).toI).toNat)) 0).toB)
 else none
 else none
 else none
 else none).bind fun x17 =>
 if (gB 5 x17.2) = true then
 some (1, [.r [.int 5]])
 else
 if (0 : Int) ≤ (gI 8 x17.2) ∧ (gI 8 x17.2) < (((gC 6 x17.2).rows).length : Int) then
 if ((gI 8 x17.2).toNat) < ((gC 6 x17.2).rows).length then
 if (0 : Int) ≤ ((at_ (gR 8 x17.2) 1).toI) ∧ ((at_ (gR 8 x17.2) 1).toI) < (((gC 7 x17.2).rows).length : Int) then
 if (((at_ (gR 8 x17.2) 1).toI).toNat) < ((gC 7 x17.2).rows).length then
 some (0, [.r [.int (gI 0 x17.2)], .r [.int (gI 1 x17.2)], .r [gC 2 x17.2], .r [.int (gI 3 x17.2)], .r [.int (gI 4 x17.2)], .r [.sl (((gC 6 x17.2).rows).set ((gI 8 x17.2).toNat) [.bool true])], .r [.sl (((gC 7 x17.2).rows).set (((at_ (gR 8 x17.2) 1).toI).toNat) [.bool true])]])
 else none
 else none
 else none
 else none
 else none).bind fun x18 =>
 match x18.1 with
 | 0 =>
 X (gI 0 x18.2) (gI 1 x18.2) (gC 2 x18.2) (gI 3 x18.2) (Go.IntKind.i64.wrap ((gI 4 x18.2) + 1)) (gC 5 x18.2) (gC 6 x18.2)
 | i19 + 1 =>
 some (1, [.r [.int (gI 0 x18.2)]])
 else
 some (0, [])
theorem align_Check_s0 (E : Env) (X : List PV → Option (Nat × List PV)) (v0 : Int) (v1 : Int) (v2 : C) (v3 : Int) (v4 : Int) (v5 : C) (v6 : C) : stepOf E align_Check_c0 align_Check_h0 align_Check_o0 X [.r [.int v0], .r [.int v1], .r [v2], .r [.int v3], .r [.int v4], .r [v5], .r [v6]] = align_Check_b0 E (fun (v0 : Int) (v1 : Int) (v2 : C) (v3 : Int) (v4 : Int) (v5 : C) (v6 : C) => X [.r [.int v0], .r [.int v1], .r [v2], .r [.int v3], .r [.int v4], .r [v5], .r [v6]]) v0 v1 v2 v3 v4 v5 v6 := by kernel_rfl
def align_Check_a : AFun := { ps := [(.one (.sl 27)), lI, lI], rs := [lI], res := [(false, 6, none)], body := (.seq (.region [] [oq 6 (.mov (.c lI [.int 0]))] false 0)
 (.seq (.seq (.join [(.normal, { slots := [(0, .d (.one (.sl 27))), (1, .d lI), (2, .d lI), (24, .d lB)], objs := [] })] (.region [] [oq 11 (.mov (.t 1)),
 oq 12 (.icmp .lss (.t 11) (.c lI [.int 0])),
 oq 13 (.mov (.t 12)),
 ⟨some 14, .mov (.t 2), some (13, false), []⟩,
 ⟨some 15, .icmp .lss (.t 14) (.c lI [.int 0]), some (13, false), []⟩,
 oq 16 (.pick (.t 13) (.c lB [.bool true]) (.t 15)),
 oq 17 (.mov (.t 16)),
 ⟨some 18, .mov (.t 1), some (17, false), []⟩,
 ⟨some 19, .icmp .gtr (.t 18) (.c lI [.int 200]), some (17, false), []⟩,
 oq 20 (.pick (.t 17) (.c lB [.bool true]) (.t 19)),
 oq 21 (.mov (.t 20)),
 ⟨some 22, .mov (.t 2), some (21, false), []⟩,
 ⟨some 23, .icmp .gtr (.t 22) (.c lI [.int 200]), some (21, false), []⟩,
 oq 24 (.pick (.t 21) (.c lB [.bool true]) (.t 23))] false 0))
 (.cond (.t 24) (.seq (.region [] [oq 6 (.mov (.c lI [.int 1]))] false 0)
 .ret)
 .skip))
 (.seq (.region [] [oq 25 (.mov (.t 1)),
 ⟨some 26, .mk 0 4 lB [.bool false] 1 (.t 25) (.t 25), none, [0]⟩,
 oq 27 (.mov (.t 2)),
 ⟨some 28, .mk 1 4 lB [.bool false] 1 (.t 27) (.t 27), none, [2]⟩,
 ⟨some 7, .mov (.t 26), none, [0, 1]⟩,
 ⟨some 8, .mov (.t 28), none, [0, 1, 2, 3, 4]⟩] true 2)
 (.seq (.seq (.region [] [oq 29 (.mov (.t 0)),
 oq 30 (.lenL (.t 29)),
 oq 31 (.mov (.c lI [.int 0]))] false 0)
 (.block 0 (.loop align_Check_h0 align_Check_o0 align_Check_c0)))
 (.seq (.region [] [oq 6 (.mov (.c lI [.int 0]))] false 0)
 .ret))))) }
noncomputable def align_Check (E : Env) (p0 : C) (p1 : Int) (p2 : Int) : Option (List Row) :=
 (let K1 : Bool → Option (Nat × List PV) := fun q2 =>
 let K3 : Bool → Option (Nat × List PV) := fun q4 =>
 let K5 : Bool → Option (Nat × List PV) := fun q6 =>
 some (0, [.r [p0], .r [.int p1], .r [.int p2], .r [.bool q6]])
 if q4 = true then
 K5 true
 else
 K5 (decide (p2 > 200))
 if q2 = true then
 K3 true
 else
 K3 (decide (p1 > 200))
 if (decide (p1 < 0)) = true then
 K1 true
 else
 K1 (decide (p2 < 0))).bind fun x7 =>
 if (gB 3 x7.2) = true then
 some [[.int 1]]
 else
 if (0 : Int) ≤ (gI 1 x7.2) ∧ (gI 1 x7.2) ≤ (gI 1 x7.2) ∧ (gI 1 x7.2) * 1 ≤ 140737488355328 ∧ (gI 1 x7.2) ≤ 1099511627776 then
 if (0 : Int) ≤ (gI 2 x7.2) ∧ (gI 2 x7.2) ≤ (gI 2 x7.2) ∧ (gI 2 x7.2) * 1 ≤ 140737488355328 ∧ (gI 2 x7.2) ≤ 1099511627776 then
 (align_Check_l0 E (gI 1 x7.2) (gI 2 x7.2) (gC 0 x7.2) (((gC 0 x7.2).rows).length : Int) 0 (.sl (List.replicate ((gI 1 x7.2).toNat) ([.bool false] : Row))) (.sl (List.replicate ((gI 2 x7.2).toNat) ([.bool false] : Row)))).bind fun x20 =>
 match x20.1 with
 | 0 =>
 some [[.int 0]]
 | i21 + 1 =>
 some [[.int (gI 0 x20.2)]]
 else none
 else none
theorem align_Check_eq (E : Env) (p0 : C) (p1 : Int) (p2 : Int) : runP E align_Check_a [[p0], [.int p1], [.int p2]] = align_Check E p0 p1 p2 := by kernel_rfl

def claplaw3_twos_h0 : Shape := { slots := [(3, .sw 0), (6, .d (.one (.sl 27))), (7, .d lI), (8, .d lI)], objs := [.sarr 37 lA2] }
def claplaw3_twos_o0 : List (Exit' × Shape) := [(.exit 0, { slots := [(3, .sw 0)], objs := [.sarr 37 lA2] })]
def claplaw3_twos_c0 : ACode := (.seq (.region [] [oq 9 (.icmp .lss (.t 8) (.t 7))] false 0)
 (.seq (.cond (.t 9) .skip
 (.exit 0))
 (.seq (.block 1 (.seq (.region [] [oq 10 (.iad 27 lA2 (.t 6) (.t 8)),
 oq 11 (.ld lA2 27 (.t 10)),
 oq 5 (.allocO 0 lA2 [.int 0, .int 0]),
 ⟨none, .st lA2 (.t 5) (.t 11), none, []⟩] false 1)
 (.region [] [oq 12 (.mov (.t 3)),
 oq 13 (.fad 0 1 27 3 (.t 5)),
 oq 14 (.ld lI 3 (.t 13)),
 oq 15 (.fad 1 1 27 3 (.t 5)),
 oq 16 (.ld lI 3 (.t 15)),
 oq 17 (.bld lA2 [.int 0, .int 0] [(0, 1, (.t 14)), (1, 1, (.t 16))]),
 oq 18 (.bsl 37 lA2 1 [.int 0, .int 0] [(0, (.t 17))]),
 oq 19 (.appW 0 37 lA2 16 (.t 12) (.t 18)),
 oq 3 (.mov (.t 19))] false 1)))
 (.region [] [oq 20 (.ibin .add (.t 8) (.c lI [.int 1])),
 oq 8 (.mov (.t 20))] false 0))))
noncomputable def claplaw3_twos_l0 (E : Env) (v0 : C) (v1 : Int) (v2 : Int) (v3 : C) : Option (Nat × List PV) := E.fix (stepOf E claplaw3_twos_c0 claplaw3_twos_h0 claplaw3_twos_o0) [.r [v0], .r [.int v1], .r [.int v2], .r [v3]]
noncomputable def claplaw3_twos_b0 (E : Env) (X : C → Int → Int → C → Option (Nat × List PV)) (v0 : C) (v1 : Int) (v2 : Int) (v3 : C) : Option (Nat × List PV) :=
 if (decide (v2 < v1)) = true then
 if (0 : Int) ≤ v2 ∧ v2 < (v0.rows.length : Int) then
 if (v3.rows.length + ([[.int ((at_ (rowsAt v0.rows v2.toNat) 0).toI), .int ((at_ (rowsAt v0.rows v2.toNat) 1).toI)]] : List Row).length) * 16 ≤ 140737488355328 then
 X v0 v1 (Go.IntKind.i64.wrap (v2 + 1)) (appC v3 ([[.int ((at_ (rowsAt v0.rows v2.toNat) 0).toI), .int ((at_ (rowsAt v0.rows v2.toNat) 1).toI)]] : List Row))
 else none
 else none
 else
 some (0, [.r [v3]])
theorem claplaw3_twos_s0 (E : Env) (X : List PV → Option (Nat × List PV)) (v0 : C) (v1 : Int) (v2 : Int) (v3 : C) : stepOf E claplaw3_twos_c0 claplaw3_twos_h0 claplaw3_twos_o0 X [.r [v0], .r [.int v1], .r [.int v2], .r [v3]] = claplaw3_twos_b0 E (fun (v0 : C) (v1 : Int) (v2 : Int) (v3 : C) => X [.r [v0], .r [.int v1], .r [.int v2], .r [v3]]) v0 v1 v2 v3 := by kernel_rfl
def claplaw3_twos_a : AFun := { ps := [(.one (.sl 27))], rs := [(.one (.sl 37))], res := [(false, 2, (some lA2))], body := (.seq (.region [] [oq 2 (.mov (.c (.one (.sl 37)) [.nils]))] false 0)
 (.seq (.region [] [oq 3 (.nilS 0 37 lA2)] false 1)
 (.seq (.seq (.region [] [oq 6 (.mov (.t 0)),
 oq 7 (.lenL (.t 6)),
 oq 8 (.mov (.c lI [.int 0]))] false 0)
 (.block 0 (.loop claplaw3_twos_h0 claplaw3_twos_o0 claplaw3_twos_c0)))
 (.seq (.region [] [oq 21 (.mov (.t 3)),
 oq 2 (.mov (.t 21))] false 0)
 .ret)))) }
noncomputable def claplaw3_twos (E : Env) (p0 : C) : Option (List Row) :=
 (claplaw3_twos_l0 E p0 (p0.rows.length : Int) 0 .nils).bind fun x1 =>
 some [[gC 0 x1.2]]
theorem claplaw3_twos_eq (E : Env) (p0 : C) : runP E claplaw3_twos_a [[p0]] = claplaw3_twos E p0 := by kernel_rfl

def align_Kept_h0 : Shape := { slots := [(0, .d (.one (.sl 27))), (1, .d lI), (10, .whole 0), (28, .d lI), (29, .d lI)], objs := [.arr lI] }
def align_Kept_o0 : List (Exit' × Shape) := [(.exit 0, { slots := [(0, .d (.one (.sl 27))), (1, .d lI), (10, .whole 0)], objs := [.arr lI] })]
def align_Kept_c0 : ACode := (.seq (.region [] [oq 30 (.icmp .lss (.t 29) (.t 28))] false 0)
 (.seq (.cond (.t 30) .skip
 (.exit 0))
 (.seq (.block 1 (.seq (.region [] [oq 31 (.mov (.t 29)),
 oq 11 (.mov (.t 31))] false 0)
 (.region [] [oq 32 (.mov (.t 10)),
 oq 33 (.mov (.t 11)),
 oq 34 (.iad 3 lI (.t 32) (.t 33)),
 ⟨none, .st lI (.t 34) (.c lI [.int (-1)]), none, []⟩] false 0)))
 (.region [] [oq 35 (.ibin .add (.t 29) (.c lI [.int 1])),
 oq 29 (.mov (.t 35))] false 0))))
noncomputable def align_Kept_l0 (E : Env) (v0 : C) (v1 : Int) (v2 : Int) (v3 : Int) (v4 : C) : Option (Nat × List PV) := E.fix (stepOf E align_Kept_c0 align_Kept_h0 align_Kept_o0) [.r [v0], .r [.int v1], .r [.int v2], .r [.int v3], .r [v4]]
noncomputable def align_Kept_b0 (E : Env) (X : C → Int → Int → Int → C → Option (Nat × List PV)) (v0 : C) (v1 : Int) (v2 : Int) (v3 : Int) (v4 : C) : Option (Nat × List PV) :=
 if (decide (v3 < v2)) = true then
 if (0 : Int) ≤ v3 ∧ v3 < (v4.rows.length : Int) then
 if v3.toNat < v4.rows.length then
 X v0 v1 v2 (Go.IntKind.i64.wrap (v3 + 1)) (.sl (v4.rows.set v3.toNat [.int (-1)]))
 else none
 else none
 else
 some (0, [.r [v0], .r [.int v1], .r [v4]])
theorem align_Kept_s0 (E : Env) (X : List PV → Option (Nat × List PV)) (v0 : C) (v1 : Int) (v2 : Int) (v3 : Int) (v4 : C) : stepOf E align_Kept_c0 align_Kept_h0 align_Kept_o0 X [.r [v0], .r [.int v1], .r [.int v2], .r [.int v3], .r [v4]] = align_Kept_b0 E (fun (v0 : C) (v1 : Int) (v2 : Int) (v3 : Int) (v4 : C) => X [.r [v0], .r [.int v1], .r [.int v2], .r [.int v3], .r [v4]]) v0 v1 v2 v3 v4 := by kernel_rfl
def align_Kept_h1 : Shape := { slots := [(10, .whole 0), (12, .whole 1), (38, .d (.one (.sl 27))), (39, .d lI), (40, .d lI)], objs := [.arr lI, .arr lB] }
def align_Kept_o1 : List (Exit' × Shape) := [(.exit 2, { slots := [(10, .whole 0), (12, .whole 1)], objs := [.arr lI, .arr lB] })]
def align_Kept_c1 : ACode := (.seq (.region [] [oq 41 (.icmp .lss (.t 40) (.t 39))] false 0)
 (.seq (.cond (.t 41) .skip
 (.exit 2))
 (.seq (.block 3 (.seq (.region [] [oq 42 (.iad 27 lA2 (.t 38) (.t 40)),
 oq 43 (.ld lA2 27 (.t 42)),
 oq 14 (.allocO 0 lA2 [.int 0, .int 0]),
 ⟨none, .st lA2 (.t 14) (.t 43), none, []⟩] false 1)
 (.region [] [oq 44 (.mov (.t 10)),
 oq 45 (.fad 1 1 27 3 (.t 14)),
 ⟨some 46, .ld lI 3 (.t 45), none, [1]⟩,
 oq 47 (.mov (.t 12)),
 oq 48 (.fad 0 1 27 3 (.t 14)),
 ⟨some 49, .ld lI 3 (.t 48), none, [4]⟩,
 oq 50 (.fad 0 1 27 3 (.t 14)),
 ⟨some 51, .ld lI 3 (.t 50), none, [6]⟩,
 ⟨some 52, .iad 3 lI (.t 44) (.t 46), none, [0, 1, 2, 6, 7]⟩,
 ⟨none, .st lI (.t 52) (.t 51), none, [0, 1, 2, 6, 7, 8]⟩,
 ⟨some 53, .iad 4 lB (.t 47) (.t 49), none, [0, 1, 2, 3, 4, 5, 6, 7, 8, 9]⟩,
 ⟨none, .st lB (.t 53) (.c lB [.bool true]), none, [0, 1, 2, 3, 4, 5, 6, 7, 8, 9, 10]⟩] true 0)))
 (.region [] [oq 54 (.ibin .add (.t 40) (.c lI [.int 1])),
 oq 40 (.mov (.t 54))] false 0))))
noncomputable def align_Kept_l1 (E : Env) (v0 : C) (v1 : Int) (v2 : Int) (v3 : C) (v4 : C) : Option (Nat × List PV) := E.fix (stepOf E align_Kept_c1 align_Kept_h1 align_Kept_o1) [.r [v0], .r [.int v1], .r [.int v2], .r [v3], .r [v4]]
noncomputable def align_Kept_b1 (E : Env) (X : C → Int → Int → C → C → Option (Nat × List PV)) (v0 : C) (v1 : Int) (v2 : Int) (v3 : C) (v4 : C) : Option (Nat × List PV) :=
 if (decide (v2 < v1)) = true then
 if (0 : Int) ≤ v2 ∧ v2 < (v0.rows.length : Int) then
 if (0 : Int) ≤ ((at_ (rowsAt v0.rows v2.toNat) 1).toI) ∧ ((at_ (rowsAt v0.rows v2.toNat) 1).toI) < (v3.rows.length : Int) then
 if (((at_ (rowsAt v0.rows v2.toNat) 1).toI).toNat) < v3.rows.length then
 if (0 : Int) ≤ ((at_ (rowsAt v0.rows v2.toNat) 0).toI) ∧ ((at_ (rowsAt v0.rows v2.toNat) 0).toI) < (v4.rows.length : Int) then
 if (((at_ (rowsAt v0.rows v2.toNat) 0).toI).toNat) < v4.rows.length then
 X v0 v1 (Go.IntKind.i64.wrap (v2 + 1)) (.sl (v3.rows.set (((at_ (rowsAt v0.rows v2.toNat) 1).toI).toNat) [.int ((at_ (rowsAt v0.rows v2.toNat) 0).toI)])) (.sl (v4.rows.set (((at_ (rowsAt v0.rows v2.toNat) 0).toI).toNat) [.bool true]))
 else none
 else none
 else none
 else none
 else none
 else
 some (0, [.r [v3], .r [v4]])
theorem align_Kept_s1 (E : Env) (X : List PV → Option (Nat × List PV)) (v0 : C) (v1 : Int) (v2 : Int) (v3 : C) (v4 : C) : stepOf E align_Kept_c1 align_Kept_h1 align_Kept_o1 X [.r [v0], .r [.int v1], .r [.int v2], .r [v3], .r [v4]] = align_Kept_b1 E (fun (v0 : C) (v1 : Int) (v2 : Int) (v3 : C) (v4 : C) => X [.r [v0], .r [.int v1], .r [.int v2], .r [v3], .r [v4]]) v0 v1 v2 v3 v4 := by kernel_rfl
def align_Kept_h2 : Shape := { slots := [(10, .whole 0), (15, .sw 1), (55, .whole 2), (56, .d lI), (57, .d lI)], objs := [.arr lI, .sarr 3 lI, .arr lB] }
def align_Kept_o2 : List (Exit' × Shape) := [(.exit 4, { slots := [(10, .whole 0), (15, .sw 1)], objs := [.arr lI, .sarr 3 lI] })]
def align_Kept_c2 : ACode := (.seq (.region [] [oq 58 (.icmp .lss (.t 57) (.t 56))] false 0)
 (.seq (.cond (.t 58) .skip
 (.exit 4))
 (.seq (.block 5 (.seq (.region [] [oq 59 (.mov (.t 57)),
 oq 60 (.iad 4 lB (.t 55) (.t 57)),
 oq 61 (.ld lB 4 (.t 60)),
 oq 16 (.mov (.t 59)),
 oq 17 (.mov (.t 61))] false 0)
 (.seq (.region [] [oq 62 (.mov (.t 17)),
 oq 63 (.not (.t 62))] false 0)
 (.cond (.t 63) (.region [] [oq 64 (.mov (.t 15)),
 oq 65 (.mov (.t 16)),
 oq 66 (.bsl 3 lI 1 [.int 0] [(0, (.t 65))]),
 oq 67 (.appW 0 3 lI 8 (.t 64) (.t 66)),
 oq 15 (.mov (.t 67))] false 1)
 .skip))))
 (.region [] [oq 68 (.ibin .add (.t 57) (.c lI [.int 1])),
 oq 57 (.mov (.t 68))] false 0))))
noncomputable def align_Kept_l2 (E : Env) (v0 : Int) (v1 : Int) (v2 : C) (v3 : C) (v4 : C) : Option (Nat × List PV) := E.fix (stepOf E align_Kept_c2 align_Kept_h2 align_Kept_o2) [.r [.int v0], .r [.int v1], .r [v2], .r [v3], .r [v4]]
noncomputable def align_Kept_b2 (E : Env) (X : Int → Int → C → C → C → Option (Nat × List PV)) (v0 : Int) (v1 : Int) (v2 : C) (v3 : C) (v4 : C) : Option (Nat × List PV) :=
 if (decide (v1 < v0)) = true then
 if (0 : Int) ≤ v1 ∧ v1 < (v4.rows.length : Int) then
 if v1.toNat < v4.rows.length then
 if (!((at_ (rowsAt v4.rows v1.toNat) 0).toB)) = true then
 if (v3.rows.length + ([[.int v1]] : List Row).length) * 8 ≤ 140737488355328 then
 X v0 (Go.IntKind.i64.wrap (v1 + 1)) v2 (appC v3 ([[.int v1]] : List Row)) v4
 else none
 else
 X v0 (Go.IntKind.i64.wrap (v1 + 1)) v2 v3 v4
 else none
 else none
 else
 some (0, [.r [v2], .r [v3]])
theorem align_Kept_s2 (E : Env) (X : List PV → Option (Nat × List PV)) (v0 : Int) (v1 : Int) (v2 : C) (v3 : C) (v4 : C) : stepOf E align_Kept_c2 align_Kept_h2 align_Kept_o2 X [.r [.int v0], .r [.int v1], .r [v2], .r [v3], .r [v4]] = align_Kept_b2 E (fun (v0 : Int) (v1 : Int) (v2 : C) (v3 : C) (v4 : C) => X [.r [.int v0], .r [.int v1], .r [v2], .r [v3], .r [v4]]) v0 v1 v2 v3 v4 := by kernel_rfl
def align_Kept_a : AFun := { ps := [(.one (.sl 27)), lI, lI], rs := [(.one (.sl 3)), (.one (.sl 3)), lI], res := [(false, 6, (some lI)), (false, 7, (some lI)), (false, 8, none)], body := (.seq (.region [] [oq 6 (.mov (.c (.one (.sl 3)) [.nils])),
 oq 7 (.mov (.c (.one (.sl 3)) [.nils])),
 oq 8 (.mov (.c lI [.int 0]))] false 0)
 (.seq (.seq (.region [] [oq 18 (.mov (.t 0)),
 oq 19 (.mov (.t 1)),
 oq 20 (.mov (.t 2)),
 oq 21 (.call 5 [(.one (.sl 27)), lI, lI] [lI] [(.t 18), (.t 19), (.t 20)]),
 oq 9 (.mov (.t 21))] false 0)
 (.seq (.region [] [oq 22 (.mov (.t 9)),
 oq 23 (.icmp .neq (.t 22) (.c lI [.int 0]))] false 0)
 (.cond (.t 23) (.seq (.region [] [oq 24 (.mov (.t 9)),
 oq 6 (.mov (.c (.one (.sl 3)) [.nils])),
 oq 7 (.mov (.c (.one (.sl 3)) [.nils])),
 oq 8 (.mov (.t 24))] false 0)
 .ret)
 .skip)))
 (.seq (.region [] [oq 25 (.mov (.t 2)),
 oq 26 (.mk 0 3 lI [.int 0] 8 (.t 25) (.t 25)),
 oq 10 (.mov (.t 26))] false 1)
 (.seq (.seq (.region [] [oq 27 (.mov (.t 10)),
 oq 28 (.lenL (.t 27)),
 oq 29 (.mov (.c lI [.int 0]))] false 0)
 (.block 0 (.loop align_Kept_h0 align_Kept_o0 align_Kept_c0)))
 (.seq (.region [] [oq 36 (.mov (.t 1)),
 oq 37 (.mk 0 4 lB [.bool false] 1 (.t 36) (.t 36)),
 oq 12 (.mov (.t 37))] false 1)
 (.seq (.seq (.region [] [oq 38 (.mov (.t 0)),
 oq 39 (.lenL (.t 38)),
 oq 40 (.mov (.c lI [.int 0]))] false 0)
 (.block 2 (.loop align_Kept_h1 align_Kept_o1 align_Kept_c1)))
 (.seq (.region [] [oq 15 (.nilS 0 3 lI)] false 1)
 (.seq (.seq (.region [] [oq 55 (.mov (.t 12)),
 oq 56 (.lenL (.t 55)),
 oq 57 (.mov (.c lI [.int 0]))] false 0)
 (.block 4 (.loop align_Kept_h2 align_Kept_o2 align_Kept_c2)))
 (.seq (.region [] [oq 69 (.mov (.t 10)),
 oq 70 (.mov (.t 15)),
 oq 6 (.mov (.t 69)),
 oq 7 (.mov (.t 70)),
 oq 8 (.mov (.c lI [.int 0]))] false 0)
 .ret))))))))) }
noncomputable def align_Kept (E : Env) (p0 : C) (p1 : Int) (p2 : Int) : Option (List Row) :=
 (E.pc n_align_Check [[p0], [.int p1], [.int p2]]).bind fun y1 =>
 if (((at_ (rowsAt y1 0) 0).toI) != 0) = true then
 some [[.nils], [.nils], [.int ((at_ (rowsAt y1 0) 0).toI)]]
 else
 if (0 : Int) ≤ p2 ∧ p2 ≤ p2 ∧ p2 * 8 ≤ 140737488355328 ∧ p2 ≤ 1099511627776 then
 (align_Kept_l0 E p0 p1 ((List.replicate p2.toNat ([.int 0] : Row)).length : Int) 0 (.sl (List.replicate p2.toNat ([.int 0] : Row)))).bind fun x2 =>
 if (0 : Int) ≤ (gI 1 x2.2) ∧ (gI 1 x2.2) ≤ (gI 1 x2.2) ∧ (gI 1 x2.2) * 1 ≤ 140737488355328 ∧ (gI 1 x2.2) ≤ 1099511627776 then
 (align_Kept_l1 E (gC 0 x2.2) (((gC 0 x2.2).rows).length : Int) 0 (gC 2 x2.2) (.sl (List.replicate ((gI 1 x2.2).toNat) ([.bool false] : Row)))).bind fun x3 =>
 (align_Kept_l2 E (((gC 1 x3.2).rows).length : Int) 0 (gC 0 x3.2) .nils (gC 1 x3.2)).bind fun x4 =>
 some [[gC 0 x4.2], [gC 1 x4.2], [.int 0]]
 else none
 else none
theorem align_Kept_eq (E : Env) (p0 : C) (p1 : Int) (p2 : Int) : runP E align_Kept_a [[p0], [.int p1], [.int p2]] = align_Kept E p0 p1 p2 := by kernel_rfl

def clapref3_Aligned_h0 : Shape := { slots := [(1, .d lI), (2, .d lI), (7, .map 0), (8, .map 1), (27, .d (.one (.sl 37))), (28, .d lI), (29, .d lI)], objs := [.map lI lB, .map lI lB] }
def clapref3_Aligned_o0 : List (Exit' × Shape) := [(.exit 0, { slots := [], objs := [] }), (.ret, { slots := [(6, .d lI)], objs := [] })]
def clapref3_Aligned_c0 : ACode := (.seq (.region [] [oq 30 (.icmp .lss (.t 29) (.t 28))] false 0)
 (.seq (.cond (.t 30) .skip
 (.exit 0))
 (.seq (.join [(.normal, { slots := [(1, .d lI), (2, .d lI), (7, .map 0), (8, .map 1), (27, .d (.one (.sl 37))), (28, .d lI), (29, .d lI)], objs := [.map lI lB, .map lI lB] }), (.ret, { slots := [(6, .d lI)], objs := [] })] (.block 1 (.seq (.region [] [oq 31 (.iad 37 lA2 (.t 27) (.t 29)),
 oq 32 (.ld lA2 37 (.t 31)),
 oq 10 (.allocO 0 lA2 [.int 0, .int 0]),
 ⟨none, .st lA2 (.t 10) (.t 32), none, []⟩] false 1)
 (.seq (.seq (.join [(.normal, { slots := [(1, .d lI), (2, .d lI), (7, .map 0), (8, .map 1), (10, .ptr 2 0), (27, .d (.one (.sl 37))), (28, .d lI), (29, .d lI), (52, .d lB)], objs := [.map lI lB, .map lI lB, .var lA2] })] (.region [] [oq 33 (.fad 0 1 37 3 (.t 10)),
 oq 34 (.ld lI 3 (.t 33)),
 oq 35 (.icmp .lss (.t 34) (.c lI [.int 0])),
 oq 36 (.mov (.t 35)),
 ⟨some 37, .fad 0 1 37 3 (.t 10), some (36, false), []⟩,
 ⟨some 38, .ld lI 3 (.t 37), some (36, false), []⟩,
 ⟨some 39, .mov (.t 1), some (36, false), []⟩,
 ⟨some 40, .icmp .geq (.t 38) (.t 39), some (36, false), []⟩,
 oq 41 (.pick (.t 36) (.c lB [.bool true]) (.t 40)),
 oq 42 (.mov (.t 41)),
 ⟨some 43, .fad 1 1 37 3 (.t 10), some (42, false), []⟩,
 ⟨some 44, .ld lI 3 (.t 43), some (42, false), []⟩,
 ⟨some 45, .icmp .lss (.t 44) (.c lI [.int 0]), some (42, false), []⟩,
 oq 46 (.pick (.t 42) (.c lB [.bool true]) (.t 45)),
 oq 47 (.mov (.t 46)),
 ⟨some 48, .fad 1 1 37 3 (.t 10), some (47, false), []⟩,
 ⟨some 49, .ld lI 3 (.t 48), some (47, false), []⟩,
 ⟨some 50, .mov (.t 2), some (47, false), []⟩,
 ⟨some 51, .icmp .geq (.t 49) (.t 50), some (47, false), []⟩,
 oq 52 (.pick (.t 47) (.c lB [.bool true]) (.t 51))] false 0))
 (.cond (.t 52) (.seq (.region [] [oq 6 (.mov (.c lI [.int 11]))] false 0)
 .ret)
 .skip))
 (.seq (.seq (.region [] [oq 53 (.mov (.t 7)),
 oq 54 (.fad 0 1 37 3 (.t 10)),
 oq 55 (.ld lI 3 (.t 54)),
 oq 56 (.lk lI lB [.bool false] (.t 53) (.t 55) false),
 oq 57 (.mov (.t 56)),
 ⟨some 58, .mov (.t 8), some (57, false), []⟩,
 ⟨some 59, .fad 1 1 37 3 (.t 10), some (57, false), []⟩,
 ⟨some 60, .ld lI 3 (.t 59), some (57, false), []⟩,
 ⟨some 61, .lk lI lB [.bool false] (.t 58) (.t 60) false, some (57, false), []⟩,
 oq 62 (.pick (.t 57) (.c lB [.bool true]) (.t 61))] false 0)
 (.cond (.t 62) (.seq (.region [] [oq 6 (.mov (.c lI [.int 5]))] false 0)
 .ret)
 .skip))
 (.region [] [oq 63 (.mov (.t 7)),
 oq 64 (.fad 0 1 37 3 (.t 10)),
 ⟨some 65, .ld lI 3 (.t 64), none, [1]⟩,
 oq 66 (.mov (.t 8)),
 oq 67 (.fad 1 1 37 3 (.t 10)),
 ⟨some 68, .ld lI 3 (.t 67), none, [4]⟩,
 ⟨none, .mup lI (.t 63) (.t 65) (.c lB [.bool true]), none, [0, 1, 2]⟩,
 ⟨none, .mup lI (.t 66) (.t 68) (.c lB [.bool true]), none, [0, 1, 2, 3, 4, 5, 6]⟩] true 0))))))
 (.region [] [oq 69 (.ibin .add (.t 29) (.c lI [.int 1])),
 oq 29 (.mov (.t 69))] false 0))))
noncomputable def clapref3_Aligned_l0 (E : Env) (v0 : Int) (v1 : Int) (v2 : C) (v3 : Int) (v4 : Int) (v5 : List (Row × Row)) (v6 : List (Row × Row)) : Option (Nat × List PV) := E.fix (stepOf E clapref3_Aligned_c0 clapref3_Aligned_h0 clapref3_Aligned_o0) [.r [.int v0], .r [.int v1], .r [v2], .r [.int v3], .r [.int v4], .m v5, .m v6]
noncomputable def clapref3_Aligned_b0 (E : Env) (X : Int → Int → C → Int → Int → List (Row × Row) → List (Row × Row) → Option (Nat × List PV)) (v0 : Int) (v1 : Int) (v2 : C) (v3 : Int) (v4 : Int) (v5 : List (Row × Row)) (v6 : List (Row × Row)) : Option (Nat × List PV) :=
 if (decide (v4 < v3)) = true then
 (if (0 : Int) ≤ v4 ∧ v4 < (v2.rows.length : Int) then
 (let K8 : Bool → Option (Nat × List PV) := fun q9 =>
 let K10 : Bool → Option (Nat × List PV) := fun q11 =>
 let K12 : Bool → Option (Nat × List PV) := fun q13 =>
 some (0, [.r [.int v0], .r [.int v1], .r [v2], .r [.int v3], .r [.int v4], .r [.bool q13], .m v5, .m v6, .r (rowsAt v2.rows v4.toNat)])
 if q11 = true then
 K12 true
 else
 K12 (decide (((at_ (rowsAt v2.rows v4.toNat) 1).toI) ≥ v1))
 if q9 = true then
 K10 true
 else
 K10 (decide (((at_ (rowsAt v2.rows v4.toNat) 1).toI) < 0))
 if (decide (((at_ (rowsAt v2.rows v4.toNat) 0).toI) < 0)) = true then
 K8 true
 else
 K8 (decide (((at_ (rowsAt v2.rows v4.toNat) 0).toI) ≥ v0))).bind fun x14 =>
 if (gB 5 x14.2) = true then
 some (1, [.r [.int 11]])
 else
 let K15 : Bool → Option (Nat × List PV) := fun q16 =>
 if q16 = true then
 some (1, [.r [.int 5]])
 else
 some (0, [.r [.int (gI 0 x14.2)], .r [.int (gI 1 x14.2)], .r [gC 2 x14.2], .r [.int (gI 3 x14.2)], .r [.int (gI 4 x14.2)], .m (setE lI [.int (gI 8 x14.2)] [.bool true] (gM 6 x14.2)), .m (setE lI [.int ((at_ (gR 8 x14.2) 1).toI)] [.bool true] (gM 7 x14.2))])
 if ((at_ ((findE lI [.int (gI 8 x14.2)] (gM 6 x14.2)).getD [.bool false]) 0).toB) = true then
 K15 true
 else
 K15 ((at_ ((findE lI [.int ((at_ (gR 8 x14.2) 1).toI)] (gM 7 x14.2)).getD [.bool false]) 0).toB)
 else none).bind fun x17 =>
 match x17.1 with
 | 0 =>
 X (gI 0 x17.2) (gI 1 x17.2) (gC 2 x17.2) (gI 3 x17.2) (Go.IntKind.i64.wrap ((gI 4 x17.2) + 1)) (gM 5 x17.2) (gM 6 x17.2)
 | i18 + 1 =>
 some (1, [.r [.int (gI 0 x17.2)]])
 else
 some (0, [])
theorem clapref3_Aligned_s0 (E : Env) (X : List PV → Option (Nat × List PV)) (v0 : Int) (v1 : Int) (v2 : C) (v3 : Int) (v4 : Int) (v5 : List (Row × Row)) (v6 : List (Row × Row)) : stepOf E clapref3_Aligned_c0 clapref3_Aligned_h0 clapref3_Aligned_o0 X [.r [.int v0], .r [.int v1], .r [v2], .r [.int v3], .r [.int v4], .m v5, .m v6] = clapref3_Aligned_b0 E (fun (v0 : Int) (v1 : Int) (v2 : C) (v3 : Int) (v4 : Int) (v5 : List (Row × Row)) (v6 : List (Row × Row)) => X [.r [.int v0], .r [.int v1], .r [v2], .r [.int v3], .r [.int v4], .m v5, .m v6]) v0 v1 v2 v3 v4 v5 v6 := by kernel_rfl
def clapref3_Aligned_a : AFun := { ps := [(.one (.sl 37)), lI, lI], rs := [lI], res := [(false, 6, none)], body := (.seq (.region [] [oq 6 (.mov (.c lI [.int 0]))] false 0)
 (.seq (.seq (.join [(.normal, { slots := [(0, .d (.one (.sl 37))), (1, .d lI), (2, .d lI), (24, .d lB)], objs := [] })] (.region [] [oq 11 (.mov (.t 1)),
 oq 12 (.icmp .lss (.t 11) (.c lI [.int 0])),
 oq 13 (.mov (.t 12)),
 ⟨some 14, .mov (.t 2), some (13, false), []⟩,
 ⟨some 15, .icmp .lss (.t 14) (.c lI [.int 0]), some (13, false), []⟩,
 oq 16 (.pick (.t 13) (.c lB [.bool true]) (.t 15)),
 oq 17 (.mov (.t 16)),
 ⟨some 18, .mov (.t 1), some (17, false), []⟩,
 ⟨some 19, .icmp .gtr (.t 18) (.c lI [.int 200]), some (17, false), []⟩,
 oq 20 (.pick (.t 17) (.c lB [.bool true]) (.t 19)),
 oq 21 (.mov (.t 20)),
 ⟨some 22, .mov (.t 2), some (21, false), []⟩,
 ⟨some 23, .icmp .gtr (.t 22) (.c lI [.int 200]), some (21, false), []⟩,
 oq 24 (.pick (.t 21) (.c lB [.bool true]) (.t 23))] false 0))
 (.cond (.t 24) (.seq (.region [] [oq 6 (.mov (.c lI [.int 1]))] false 0)
 .ret)
 .skip))
 (.seq (.region [] [oq 25 (.mkm 0 lI lB),
 oq 26 (.mkm 1 lI lB),
 oq 7 (.mov (.t 25)),
 oq 8 (.mov (.t 26))] false 2)
 (.seq (.seq (.region [] [oq 27 (.mov (.t 0)),
 oq 28 (.lenL (.t 27)),
 oq 29 (.mov (.c lI [.int 0]))] false 0)
 (.block 0 (.loop clapref3_Aligned_h0 clapref3_Aligned_o0 clapref3_Aligned_c0)))
 (.seq (.region [] [oq 6 (.mov (.c lI [.int 0]))] false 0)
 .ret))))) }
noncomputable def clapref3_Aligned (E : Env) (p0 : C) (p1 : Int) (p2 : Int) : Option (List Row) :=
 (let K1 : Bool → Option (Nat × List PV) := fun q2 =>
 let K3 : Bool → Option (Nat × List PV) := fun q4 =>
 let K5 : Bool → Option (Nat × List PV) := fun q6 =>
 some (0, [.r [p0], .r [.int p1], .r [.int p2], .r [.bool q6]])
 if q4 = true then
 K5 true
 else
 K5 (decide (p2 > 200))
 if q2 = true then
 K3 true
 else
 K3 (decide (p1 > 200))
 if (decide (p1 < 0)) = true then
 K1 true
 else
 K1 (decide (p2 < 0))).bind fun x7 =>
 if (gB 3 x7.2) = true then
 some [[.int 1]]
 else
 (clapref3_Aligned_l0 E (gI 1 x7.2) (gI 2 x7.2) (gC 0 x7.2) (((gC 0 x7.2).rows).length : Int) 0 [] []).bind fun x19 =>
 match x19.1 with
 | 0 =>
 some [[.int 0]]
 | i20 + 1 =>
 some [[.int (gI 0 x19.2)]]
theorem clapref3_Aligned_eq (E : Env) (p0 : C) (p1 : Int) (p2 : Int) : runP E clapref3_Aligned_a [[p0], [.int p1], [.int p2]] = clapref3_Aligned E p0 p1 p2 := by kernel_rfl
end Go.Ev
