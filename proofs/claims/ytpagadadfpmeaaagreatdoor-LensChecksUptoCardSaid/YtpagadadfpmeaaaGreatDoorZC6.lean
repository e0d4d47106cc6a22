/-
  A part of the proof: what the functions of the program compute.
-/
import Derived.Test.YtpagadadfpmeaaaGreatDoorZNum
set_option linter.all false
set_option maxRecDepth 100000
namespace Go.Ev
def lens_printer_lens_i20_a : AImp := { fn := 27, entry := lens_printer_lens_i20_en, res := [], exit := lens_printer_lens_i20_ex, body := (.seq (.region [] [oq 3 (.boxP lA0 29 (.t 1))] false 0)
 (.seq (.region [] [oq 5 (.mov (.t 0)),
 oq 6 (.fad 0 1 29 3 (.t 3)),
 oq 7 (.ld lI 3 (.t 6)),
 oq 8 (.call 43 [lI] [lS] [(.t 7)]),
 oq 9 (.bsl 9 lS 1 [.str []] [(0, (.t 8))]),
 oq 10 (.icall 163 42 (lens_printer_put_i21_en) (lens_printer_put_i21_ex) [0, 1] 0 none [(.t 5), (.t 9)])] false 0)
 (.seq (.region [] [oq 11 (.fad 0 1 29 3 (.t 3)),
 oq 12 (.ld lI 3 (.t 11)),
 oq 13 (.call 16 [lI] [lA1] [(.t 12)]),
 oq 4 (.allocO 0 lA1 [.bool false, .bool false, .bool false, .bool false, .bool false, .bool false, .bool false, .bool false, .int 0]),
 ⟨none, .st lA1 (.t 4) (.t 13), none, []⟩] false 1)
 (.seq (.seq (.region [] [oq 14 (.fad 0 1 40 4 (.t 4)),
 oq 15 (.ld lB 4 (.t 14))] false 0)
 (.join [(.normal, { slots := [(0, .ptr 0 0), (3, .d (.one (.ref 29))), (4, .ptr 2 0)], objs := [.cells false [.sw 1], .sarr 5 lU, .var lA1], m := 2 })] (.cond (.t 15) (.seq (.region [] [oq 16 (.fad 1 1 29 9 (.t 3)),
 oq 17 (.ld lS 9 (.t 16)),
 oq 18 (.scmp .eql (.t 17) (.c lS [.str ([] : List UInt8)]))] false 0)
 (.cond (.t 18) (.region [] [oq 19 (.mov (.t 0)),
 oq 20 (.bsl 9 lS 1 [.str []] [(0, (.c lS [.str ([45] : List UInt8)]))]),
 oq 21 (.icall 163 42 (lens_printer_put_i21_en) (lens_printer_put_i21_ex) [0, 1] 0 none [(.t 19), (.t 20)])] false 0)
 (.region [] [oq 22 (.mov (.t 0)),
 oq 23 (.fad 1 1 29 9 (.t 3)),
 oq 24 (.ld lS 9 (.t 23)),
 oq 25 (.bsl 9 lS 1 [.str []] [(0, (.t 24))]),
 oq 26 (.icall 163 42 (lens_printer_put_i21_en) (lens_printer_put_i21_ex) [0, 1] 0 none [(.t 22), (.t 25)])] false 0)))
 .skip)))
 (.seq (.seq (.region [] [oq 27 (.fad 1 1 40 4 (.t 4)),
 oq 28 (.ld lB 4 (.t 27))] false 0)
 (.join [(.normal, { slots := [(0, .ptr 0 0), (3, .d (.one (.ref 29))), (4, .ptr 2 0)], objs := [.cells false [.sw 1], .sarr 5 lU, .var lA1], m := 2 })] (.cond (.t 28) (.region [] [oq 29 (.mov (.t 0)),
 oq 30 (.fad 2 1 29 9 (.t 3)),
 oq 31 (.ld lS 9 (.t 30)),
 oq 32 (.bsl 9 lS 1 [.str []] [(0, (.t 31))]),
 oq 33 (.icall 163 42 (lens_printer_put_i21_en) (lens_printer_put_i21_ex) [0, 1] 0 none [(.t 29), (.t 32)])] false 0)
 .skip)))
 (.seq (.seq (.region [] [oq 34 (.fad 3 1 40 4 (.t 4)),
 oq 35 (.ld lB 4 (.t 34))] false 0)
 (.join [(.normal, { slots := [(0, .ptr 0 0), (3, .d (.one (.ref 29))), (4, .ptr 2 0)], objs := [.cells false [.sw 1], .sarr 5 lU, .var lA1], m := 2 })] (.cond (.t 35) (.region [] [oq 36 (.mov (.t 0)),
 oq 37 (.fad 4 1 29 3 (.t 3)),
 oq 38 (.ld lI 3 (.t 37)),
 oq 39 (.call 44 [lI] [lS] [(.t 38)]),
 oq 40 (.bsl 9 lS 1 [.str []] [(0, (.t 39))]),
 oq 41 (.icall 163 42 (lens_printer_put_i21_en) (lens_printer_put_i21_ex) [0, 1] 0 none [(.t 36), (.t 40)])] false 0)
 .skip)))
 (.seq (.seq (.region [] [oq 42 (.fad 4 1 40 4 (.t 4)),
 oq 43 (.ld lB 4 (.t 42))] false 0)
 (.join [(.normal, { slots := [(0, .ptr 0 0), (3, .d (.one (.ref 29))), (4, .ptr 2 0)], objs := [.cells false [.sw 1], .sarr 5 lU, .var lA1], m := 2 })] (.cond (.t 43) (.region [] [oq 44 (.mov (.t 0)),
 oq 45 (.fad 5 1 29 3 (.t 3)),
 ⟨some 46, .ld lI 3 (.t 45), none, [1]⟩,
 ⟨some 47, .call 44 [lI] [lS] [(.t 46)], none, [1, 2]⟩,
 oq 48 (.fad 6 1 29 3 (.t 3)),
 ⟨some 49, .ld lI 3 (.t 48), none, [4]⟩,
 ⟨some 50, .call 44 [lI] [lS] [(.t 49)], none, [1, 2, 3, 4, 5]⟩,
 ⟨some 51, .bsl 9 lS 2 [.str []] [(0, (.t 47)), (1, (.t 50))], none, [1, 2, 3, 4, 5, 6]⟩,
 ⟨some 52, .icall 163 42 (lens_printer_put_i21_en) (lens_printer_put_i21_ex) [0, 1] 0 none [(.t 44), (.t 51)], none, [0, 1, 2, 3, 4, 5, 6, 7]⟩] true 0)
 .skip)))
 (.seq (.seq (.region [] [oq 53 (.fad 5 1 40 4 (.t 4)),
 oq 54 (.ld lB 4 (.t 53))] false 0)
 (.cond (.t 54) (.region [] [oq 55 (.mov (.t 0)),
 oq 56 (.fad 7 1 29 5 (.t 3)),
 oq 57 (.ld lU 5 (.t 56)),
 oq 58 (.i2i .i64 (.t 57)),
 oq 59 (.call 44 [lI] [lS] [(.t 58)]),
 oq 60 (.bsl 9 lS 1 [.str []] [(0, (.t 59))]),
 oq 61 (.icall 163 42 (lens_printer_put_i21_en) (lens_printer_put_i21_ex) [0, 1] 0 none [(.t 55), (.t 60)])] false 0)
 .skip))
 (.region [] [oq 62 (.mov (.t 0)),
 oq 63 (.ld lA0 29 (.t 3)),
 oq 64 (.ld lA1 40 (.t 4)),
 oq 65 (.icall 164 45 (lens_printer_rest_i22_en) (lens_printer_rest_i22_ex) [0, 1] 0 none [(.t 62), (.t 63), (.t 64)])] false 0))))))))) }

def lens_Text_a : AFun := { ps := [lA0], rs := [lS, lI], res := [(false, 2, none), (false, 3, none)], body := (.seq (.region [] [oq 1 (.boxP lA0 29 (.t 0)),
 oq 2 (.mov (.c lS [.str ([] : List UInt8)])),
 oq 3 (.mov (.c lI [.int 0]))] false 0)
 (.seq (.seq (.region [] [oq 6 (.ld lA0 29 (.t 1)),
 oq 7 (.call 5 [lA0] [lI] [(.t 6)]),
 oq 4 (.mov (.t 7))] false 0)
 (.seq (.region [] [oq 8 (.mov (.t 4)),
 oq 9 (.icmp .neq (.t 8) (.c lI [.int 0]))] false 0)
 (.cond (.t 9) (.seq (.region [] [oq 10 (.mov (.t 4)),
 oq 2 (.mov (.c lS [.str ([] : List UInt8)])),
 oq 3 (.mov (.t 10))] false 0)
 .ret)
 .skip)))
 (.seq (.post (.lft 5 (some 0) 5 lU) (.region [] [oq 5 (.allocA 0 [some ((.sl 5), .nils)])] false 1))
 (.seq (.region [] [oq 11 (.ld lA0 29 (.t 1)),
 oq 12 (.icall 162 27 (lens_printer_lens_i20_en) (lens_printer_lens_i20_ex) [0, 1] 0 none [(.t 5), (.t 11)])] false 0)
 (.seq (.seq (.region [] [oq 13 (.fad 0 1 54 52 (.t 5)),
 oq 14 (.ldC (.t 13)),
 oq 15 (.lenL (.t 14)),
 oq 16 (.icmp .gtr (.t 15) (.c lI [.int 4000]))] false 0)
 (.cond (.t 16) (.seq (.region [] [oq 2 (.mov (.c lS [.str ([] : List UInt8)])),
 oq 3 (.mov (.c lI [.int 2]))] false 0)
 .ret)
 .skip))
 (.seq (.region [] [oq 17 (.fad 0 1 54 52 (.t 5)),
 oq 18 (.ldC (.t 17)),
 oq 19 (.b2s 5 (.t 18)),
 oq 2 (.mov (.t 19)),
 oq 3 (.mov (.c lI [.int 0]))] false 0)
 .ret)))))) }

def claplaw3_num_a : AFun := { ps := [lI], rs := [lA3], res := [(true, 2, none)], body := (.seq (.region [] [oq 2 (.allocO 0 lA3 [.int 0, .int 0, .str [], .nils])] false 1)
 (.seq (.region [] [oq 3 (.mov (.t 0)),
 oq 4 (.bld lA3 [.int 0, .int 0, .str [], .nils] [(0, 1, (.c lI [.int 2])), (1, 1, (.t 3))]),
 ⟨none, .st lA3 (.t 2) (.t 4), none, []⟩] false 0)
 .ret)) }

def claplaw3_drop_a : AFun := { ps := [], rs := [lA0], res := [(true, 0, none)], body := (.seq (.region [] [oq 0 (.allocO 0 lA0 [.int 0, .str [], .str [], .nils, .int 0, .int 0, .int 0, .int 0, .int 0, .int 0, .str [], .nils, .nils, .nils])] false 1)
 (.seq (.region [] [oq 1 (.call 28 [lI] [lA3] [(.c lI [.int 7])]),
 oq 2 (.bld lA0 [.int 0, .str [], .str [], .nils, .int 0, .int 0, .int 0, .int 0, .int 0, .int 0, .str [], .nils, .nils, .nils] [(0, 1, (.c lI [.int 4])), (1, 1, (.c lS [.str ([98] : List UInt8)])), (8, 4, (.t 1))]),
 ⟨none, .st lA0 (.t 0) (.t 2), none, []⟩] false 0)
 .ret)) }

def claplaw3_formed_a : AFun := { ps := [], rs := [lB], res := [(false, 0, none)], body := (.seq (.region [] [oq 0 (.mov (.c lB [.bool false]))] false 0)
 (.seq (.region [] [oq 4 (.call 14 [] [lA0] []),
 oq 5 (.call 13 [lA0] [lS, lI] [(.t 4)]),
 oq 3 (.mov (.t 5)),
 oq 6 (.ext 0 (.t 3)),
 oq 7 (.ext 1 (.t 3)),
 oq 1 (.mov (.t 6)),
 oq 2 (.mov (.t 7))] false 0)
 (.seq (.region [] [oq 8 (.call 14 [] [lA0] []),
 oq 9 (.call 9 [lA0] [lI] [(.t 8)]),
 oq 10 (.icmp .eql (.t 9) (.c lI [.int 1])),
 oq 11 (.mov (.t 10)),
 ⟨some 12, .call 14 [] [lA0] [], some (11, true), []⟩,
 ⟨some 13, .call 5 [lA0] [lI] [(.t 12)], some (11, true), []⟩,
 ⟨some 14, .icmp .eql (.t 13) (.c lI [.int 0]), some (11, true), []⟩,
 oq 15 (.pick (.t 11) (.t 14) (.c lB [.bool false])),
 oq 16 (.mov (.t 15)),
 ⟨some 17, .bld lA0 [.int 0, .str [], .str [], .nils, .int 0, .int 0, .int 0, .int 0, .int 0, .int 0, .str [], .nils, .nils, .nils] [(0, 1, (.c lI [.int (-1)]))], some (16, true), []⟩,
 ⟨some 18, .call 5 [lA0] [lI] [(.t 17)], some (16, true), []⟩,
 ⟨some 19, .icmp .eql (.t 18) (.c lI [.int 1]), some (16, true), []⟩,
 oq 20 (.pick (.t 16) (.t 19) (.c lB [.bool false])),
 oq 21 (.mov (.t 20)),
 ⟨some 22, .mov (.t 2), some (21, true), []⟩,
 ⟨some 23, .icmp .eql (.t 22) (.c lI [.int 0]), some (21, true), []⟩,
 oq 24 (.pick (.t 21) (.t 23) (.c lB [.bool false])),
 oq 25 (.mov (.t 24)),
 ⟨some 26, .mov (.t 1), some (25, true), []⟩,
 ⟨some 27, .scmp .eql (.t 26) (.c lS [.str ([100, 114, 111, 112, 32, 98, 32, 105, 110, 116, 32, 55] : List UInt8)]), some (25, true), []⟩,
 oq 28 (.pick (.t 25) (.t 27) (.c lB [.bool false])),
 oq 0 (.mov (.t 28))] false 0)
 .ret))) }

def strings_FieldsFunc_a : AFun := { ps := [lS, (.one (.fn 90))], rs := [(.one (.sl 9))], res := [(false, 4, (some lS))], body := (.seq (.region [] [oq 4 (.mov (.c (.one (.sl 9)) [.nils]))] false 0)
 (.seq (.region [] [oq 12 (.mkS 0 122 (.agg [.int .i64, .int .i64]) [.int 0, .int 0] 16 (.c lI [.int 0]) (.c lI [.int 32])),
 oq 5 (.mov (.t 12))] false 1)
 (.seq (.region [] [oq 6 (.mov (.c lI [.int (-1)]))] false 0)
 (.seq (.seq (.region [] [oq 13 (.mov (.t 0)),
 oq 14 (.bad)] false 0)
 (.block 0 .bad))
 (.seq (.seq .bad
 .bad)
 (.seq .bad
 (.seq (.seq .bad
 (.block 2 .bad))
 (.seq .bad
 .ret)))))))) }

def unicode_IsSpace_a : AFun := { ps := [(.one (.int .i32))], rs := [lB], res := [(false, 2, none)], body := (.seq (.region [] [oq 2 (.mov (.c lB [.bool false]))] false 0)
 (.seq (.seq (.region [] [oq 3 (.mov (.t 0)),
 oq 4 (.i2i .u32 (.t 3)),
 oq 5 (.icmp .leq (.t 4) (.c (.one (.int .u32)) [.int 255]))] false 0)
 (.cond (.t 5) (.seq (.seq (.region [] [oq 6 (.mov (.t 0))] false 0)
 (.join [(.normal, { slots := [], objs := [] }), (.ret, { slots := [(2, .d lB)], objs := [] })] (.block 0 (.seq (.seq (.region [] [oq 8 (.icmp .eql (.t 6) (.c (.one (.int .i32)) [.int 9])),
 oq 7 (.mov (.t 8))] false 0)
 (.cond (.t 7) .skip
 (.seq (.region [] [oq 9 (.icmp .eql (.t 6) (.c (.one (.int .i32)) [.int 10])),
 oq 7 (.mov (.t 9))] false 0)
 (.cond (.t 7) .skip
 (.seq (.region [] [oq 10 (.icmp .eql (.t 6) (.c (.one (.int .i32)) [.int 11])),
 oq 7 (.mov (.t 10))] false 0)
 (.cond (.t 7) .skip
 (.seq (.region [] [oq 11 (.icmp .eql (.t 6) (.c (.one (.int .i32)) [.int 12])),
 oq 7 (.mov (.t 11))] false 0)
 (.cond (.t 7) .skip
 (.seq (.region [] [oq 12 (.icmp .eql (.t 6) (.c (.one (.int .i32)) [.int 13])),
 oq 7 (.mov (.t 12))] false 0)
 (.cond (.t 7) .skip
 (.seq (.region [] [oq 13 (.icmp .eql (.t 6) (.c (.one (.int .i32)) [.int 32])),
 oq 7 (.mov (.t 13))] false 0)
 (.cond (.t 7) .skip
 (.seq (.region [] [oq 14 (.icmp .eql (.t 6) (.c (.one (.int .i32)) [.int 133])),
 oq 7 (.mov (.t 14))] false 0)
 (.cond (.t 7) .skip
 (.region [] [oq 15 (.icmp .eql (.t 6) (.c (.one (.int .i32)) [.int 160])),
 oq 7 (.mov (.t 15))] false 0)))))))))))))))
 (.cond (.t 7) (.seq (.region [] [oq 2 (.mov (.c lB [.bool true]))] false 0)
 .ret)
 .skip)))))
 (.seq (.region [] [oq 2 (.mov (.c lB [.bool false]))] false 0)
 .ret))
 .skip))
 (.seq (.region [] [oq 16 (.bad),
 oq 17 (.bad),
 oq 18 (.bad),
 oq 2 (.bad)] false 0)
 .ret))) }

def strings_Fields_h0 : Shape := { slots := [(0, .d lS), (3, .d lI), (4, .d lI), (5, .d lU), (6, .d lI)], objs := [] }
def strings_Fields_o0 : List (Exit' × Shape) := [(.exit 0, { slots := [(0, .d lS), (3, .d lI), (5, .d lU)], objs := [] })]
def strings_Fields_c0 : ACode := (.seq (.seq (.region [] [oq 13 (.mov (.t 6)),
 oq 14 (.mov (.t 0)),
 oq 15 (.lenS (.t 14)),
 oq 16 (.icmp .lss (.t 13) (.t 15))] false 0)
 (.cond (.t 16) .skip
 (.exit 0)))
 (.seq (.block 1 (.seq (.region [] [oq 19 (.mov (.t 0)),
 oq 20 (.mov (.t 6)),
 oq 21 (.idxS (.t 19) (.t 20)),
 oq 7 (.mov (.t 21))] false 0)
 (.seq (.region [] [oq 22 (.mov (.t 5)),
 oq 23 (.mov (.t 7)),
 oq 24 (.ibin .or (.t 22) (.t 23)),
 oq 5 (.mov (.t 24))] false 0)
 (.seq (.region [] [oq 25 (.mov (.t 7)),
 oq 26 (.iadA 256 88 5 lU (.c (.one (.ref 88)) [.dp g_strings_asciiSpace]) (.t 25)),
 oq 27 (.ld lU 5 (.t 26)),
 oq 28 (.i2i .i64 (.t 27)),
 oq 8 (.mov (.t 28))] false 0)
 (.seq (.region [] [oq 29 (.mov (.t 3)),
 oq 30 (.mov (.t 4)),
 oq 31 (.mov (.t 8)),
 oq 32 (.icpl (.t 31)),
 oq 33 (.ibin .and (.t 30) (.t 32)),
 oq 34 (.ibin .add (.t 29) (.t 33)),
 oq 3 (.mov (.t 34))] false 0)
 (.region [] [oq 35 (.mov (.t 8)),
 oq 4 (.mov (.t 35))] false 0))))))
 (.region [] [oq 17 (.mov (.t 6)),
 oq 18 (.ibin .add (.t 17) (.c lI [.int 1])),
 oq 6 (.mov (.t 18))] false 0)))
def strings_Fields_h1 : Shape := { slots := [(0, .d lS), (9, .whole 0), (10, .d lI), (12, .d lI)], objs := [.arr lS] }
def strings_Fields_o1 : List (Exit' × Shape) := [(.exit 2, { slots := [(0, .d lS), (9, .whole 0), (10, .d lI), (12, .d lI)], objs := [.arr lS] })]
def strings_Fields_c1 : ACode := (.seq (.seq (.region [] [oq 42 (.mov (.t 12)),
 oq 43 (.mov (.t 0)),
 oq 44 (.lenS (.t 43)),
 oq 45 (.icmp .lss (.t 42) (.t 44)),
 oq 46 (.mov (.t 45)),
 ⟨some 47, .mov (.t 0), some (46, true), []⟩,
 ⟨some 48, .mov (.t 12), some (46, true), []⟩,
 ⟨some 49, .idxS (.t 47) (.t 48), some (46, true), []⟩,
 ⟨some 50, .iadA 256 88 5 lU (.c (.one (.ref 88)) [.dp g_strings_asciiSpace]) (.t 49), some (46, true), []⟩,
 ⟨some 51, .ld lU 5 (.t 50), some (46, true), []⟩,
 ⟨some 52, .icmp .neq (.t 51) (.c lU [.int 0]), some (46, true), []⟩,
 oq 53 (.pick (.t 46) (.t 52) (.c lB [.bool false]))] false 0)
 (.cond (.t 53) .skip
 (.exit 2)))
 (.block 3 (.region [] [oq 54 (.mov (.t 12)),
 oq 55 (.ibin .add (.t 54) (.c lI [.int 1])),
 oq 12 (.mov (.t 55))] false 0)))
def strings_Fields_h3 : Shape := { slots := [(0, .d lS), (9, .whole 0), (10, .d lI), (12, .d lI)], objs := [.arr lS] }
def strings_Fields_o3 : List (Exit' × Shape) := [(.exit 6, { slots := [(0, .d lS), (9, .whole 0), (10, .d lI), (12, .d lI)], objs := [.arr lS] })]
def strings_Fields_c3 : ACode := (.seq (.seq (.region [] [oq 80 (.mov (.t 12)),
 oq 81 (.mov (.t 0)),
 oq 82 (.lenS (.t 81)),
 oq 83 (.icmp .lss (.t 80) (.t 82)),
 oq 84 (.mov (.t 83)),
 ⟨some 85, .mov (.t 0), some (84, true), []⟩,
 ⟨some 86, .mov (.t 12), some (84, true), []⟩,
 ⟨some 87, .idxS (.t 85) (.t 86), some (84, true), []⟩,
 ⟨some 88, .iadA 256 88 5 lU (.c (.one (.ref 88)) [.dp g_strings_asciiSpace]) (.t 87), some (84, true), []⟩,
 ⟨some 89, .ld lU 5 (.t 88), some (84, true), []⟩,
 ⟨some 90, .icmp .neq (.t 89) (.c lU [.int 0]), some (84, true), []⟩,
 oq 91 (.pick (.t 84) (.t 90) (.c lB [.bool false]))] false 0)
 (.cond (.t 91) .skip
 (.exit 6)))
 (.block 7 (.region [] [oq 92 (.mov (.t 12)),
 oq 93 (.ibin .add (.t 92) (.c lI [.int 1])),
 oq 12 (.mov (.t 93))] false 0)))
def strings_Fields_h2 : Shape := { slots := [(0, .d lS), (9, .whole 0), (10, .d lI), (11, .d lI), (12, .d lI)], objs := [.arr lS] }
def strings_Fields_o2 : List (Exit' × Shape) := [(.exit 4, { slots := [(0, .d lS), (9, .whole 0), (10, .d lI), (11, .d lI)], objs := [.arr lS] })]
def strings_Fields_c2 : ACode := (.seq (.seq (.region [] [oq 57 (.mov (.t 12)),
 oq 58 (.mov (.t 0)),
 oq 59 (.lenS (.t 58)),
 oq 60 (.icmp .lss (.t 57) (.t 59))] false 0)
 (.cond (.t 60) .skip
 (.exit 4)))
 (.block 5 (.seq (.seq (.region [] [oq 61 (.mov (.t 0)),
 oq 62 (.mov (.t 12)),
 oq 63 (.idxS (.t 61) (.t 62)),
 oq 64 (.iadA 256 88 5 lU (.c (.one (.ref 88)) [.dp g_strings_asciiSpace]) (.t 63)),
 oq 65 (.ld lU 5 (.t 64)),
 oq 66 (.icmp .eql (.t 65) (.c lU [.int 0]))] false 0)
 (.cond (.t 66) (.seq (.region [] [oq 67 (.mov (.t 12)),
 oq 68 (.ibin .add (.t 67) (.c lI [.int 1])),
 oq 12 (.mov (.t 68))] false 0)
 (.exit 5))
 .skip))
 (.seq (.region [] [oq 69 (.mov (.t 9)),
 oq 70 (.mov (.t 10)),
 oq 71 (.mov (.t 0)),
 oq 72 (.mov (.t 11)),
 oq 73 (.mov (.t 12)),
 oq 74 (.slcS (.t 71) (some (.t 72)) (some (.t 73))),
 oq 75 (.iad 9 lS (.t 69) (.t 70)),
 ⟨none, .st lS (.t 75) (.t 74), none, []⟩] false 0)
 (.seq (.region [] [oq 76 (.mov (.t 10)),
 oq 77 (.ibin .add (.t 76) (.c lI [.int 1])),
 oq 10 (.mov (.t 77))] false 0)
 (.seq (.region [] [oq 78 (.mov (.t 12)),
 oq 79 (.ibin .add (.t 78) (.c lI [.int 1])),
 oq 12 (.mov (.t 79))] false 0)
 (.seq (.block 6 (.loop strings_Fields_h3 strings_Fields_o3 strings_Fields_c3))
 (.region [] [oq 94 (.mov (.t 12)),
 oq 11 (.mov (.t 94))] false 0))))))))
def strings_Fields_a : AFun := { ps := [lS], rs := [(.one (.sl 9))], res := [(false, 2, (some lS))], body := (.seq (.region [] [oq 2 (.mov (.c (.one (.sl 9)) [.nils]))] false 0)
 (.seq (.region [] [oq 3 (.mov (.c lI [.int 0]))] false 0)
 (.seq (.region [] [oq 4 (.mov (.c lI [.int 1]))] false 0)
 (.seq (.region [] [oq 5 (.mov (.c lU [.int 0]))] false 0)
 (.seq (.seq (.region [] [oq 6 (.mov (.c lI [.int 0]))] false 0)
 (.block 0 (.loop strings_Fields_h0 strings_Fields_o0 strings_Fields_c0)))
 (.seq (.seq (.region [] [oq 36 (.mov (.t 5)),
 oq 37 (.icmp .geq (.t 36) (.c lU [.int 128]))] false 0)
 (.cond (.t 37) (.seq (.region [] [oq 38 (.mov (.t 0)),
 oq 39 (.call 57 [lS, (.one (.fn 90))] [(.one (.sl 9))] [(.t 38), (.c (.one (.fn 90)) [.fn n_unicode_IsSpace []])]),
 oq 2 (.mov (.t 39))] false 0)
 .ret)
 .skip))
 (.seq (.region [] [oq 40 (.mov (.t 3)),
 oq 41 (.mk 0 9 lS [.str []] 16 (.t 40) (.t 40)),
 oq 9 (.mov (.t 41))] false 1)
 (.seq (.region [] [oq 10 (.mov (.c lI [.int 0]))] false 0)
 (.seq (.region [] [oq 11 (.mov (.c lI [.int 0]))] false 0)
 (.seq (.region [] [oq 12 (.mov (.c lI [.int 0]))] false 0)
 (.seq (.block 2 (.loop strings_Fields_h1 strings_Fields_o1 strings_Fields_c1))
 (.seq (.region [] [oq 56 (.mov (.t 12)),
 oq 11 (.mov (.t 56))] false 0)
 (.seq (.block 4 (.loop strings_Fields_h2 strings_Fields_o2 strings_Fields_c2))
 (.seq (.seq (.region [] [oq 95 (.mov (.t 11)),
 oq 96 (.mov (.t 0)),
 oq 97 (.lenS (.t 96)),
 oq 98 (.icmp .lss (.t 95) (.t 97))] false 0)
 (.cond (.t 98) (.region [] [oq 99 (.mov (.t 9)),
 oq 100 (.mov (.t 10)),
 oq 101 (.mov (.t 0)),
 oq 102 (.mov (.t 11)),
 oq 103 (.slcS (.t 101) (some (.t 102)) none),
 oq 104 (.iad 9 lS (.t 99) (.t 100)),
 ⟨none, .st lS (.t 104) (.t 103), none, []⟩] false 0)
 .skip))
 (.seq (.region [] [oq 105 (.mov (.t 9)),
 oq 2 (.mov (.t 105))] false 0)
 .ret))))))))))))))) }

def internal_stringslite_Index_a : AFun := { ps := [lS, lS], rs := [lI], res := [(false, 4, none)], body := (.seq (.region [] [oq 4 (.mov (.c lI [.int 0]))] false 0)
 (.seq (.region [] [oq 14 (.mov (.t 1)),
 oq 15 (.lenS (.t 14)),
 oq 5 (.mov (.t 15))] false 0)
 (.seq (.join [(.ret, { slots := [(4, .d lI)], objs := [] })] (.block 0 (.seq (.join [(.normal, { slots := [(0, .d lS), (1, .d lS), (5, .d lI), (16, .d lB)], objs := [] })] (.region [] [oq 17 (.mov (.t 5)),
 oq 18 (.icmp .eql (.t 17) (.c lI [.int 0])),
 oq 19 (.mov (.t 18)),
 ⟨some 20, .mov (.t 1), some (19, false), []⟩,
 ⟨some 21, .mov (.t 0), some (19, false), []⟩,
 ⟨some 22, .scmp .eql (.t 20) (.t 21), some (19, false), []⟩,
 oq 23 (.pick (.t 19) (.c lB [.bool true]) (.t 22)),
 oq 16 (.mov (.t 23))] false 0))
 (.cond (.t 16) (.seq (.region [] [oq 4 (.mov (.c lI [.int 0]))] false 0)
 .ret)
 (.seq (.region [] [oq 25 (.mov (.t 5)),
 oq 26 (.icmp .eql (.t 25) (.c lI [.int 1])),
 oq 24 (.mov (.t 26))] false 0)
 (.cond (.t 24) (.seq (.region [] [oq 27 (.mov (.t 0)),
 oq 28 (.mov (.t 1)),
 oq 29 (.idxS (.t 28) (.c lI [.int 0])),
 oq 30 (.call 60 [lS, lU] [lI] [(.t 27), (.t 29)]),
 oq 4 (.mov (.t 30))] false 0)
 .ret)
 (.seq (.region [] [oq 32 (.mov (.t 5)),
 oq 33 (.mov (.t 0)),
 oq 34 (.lenS (.t 33)),
 oq 35 (.icmp .geq (.t 32) (.t 34)),
 oq 31 (.mov (.t 35))] false 0)
 (.cond (.t 31) (.seq (.region [] [oq 4 (.mov (.c lI [.int (-1)]))] false 0)
 .ret)
 (.seq (.region [] [oq 37 (.mov (.t 5)),
 oq 38 (.bad),
 oq 39 (.bad),
 oq 40 (.bad),
 ⟨some 41, .bad, some (40, true), []⟩,
 ⟨some 42, .bad, some (40, true), []⟩,
 ⟨some 43, .bad, some (40, true), []⟩,
 oq 44 (.bad),
 oq 36 (.bad)] false 0)
 .bad)))))))))
 (.seq .bad
 (.seq .bad
 (.seq .bad
 (.seq .bad
 (.seq .bad
 (.seq (.block 1 .bad)
 (.seq .bad
 .ret)))))))))) }

def internal_stringslite_Cut_a : AFun := { ps := [lS, lS], rs := [lS, lS, lB], res := [(false, 4, none), (false, 5, none), (false, 6, none)], body := (.seq (.region [] [oq 4 (.mov (.c lS [.str ([] : List UInt8)])),
 oq 5 (.mov (.c lS [.str ([] : List UInt8)])),
 oq 6 (.mov (.c lB [.bool false]))] false 0)
 (.seq (.seq (.region [] [oq 8 (.mov (.t 0)),
 oq 9 (.mov (.t 1)),
 oq 10 (.call 76 [lS, lS] [lI] [(.t 8), (.t 9)]),
 oq 7 (.mov (.t 10))] false 0)
 (.seq (.region [] [oq 11 (.mov (.t 7)),
 oq 12 (.icmp .geq (.t 11) (.c lI [.int 0]))] false 0)
 (.cond (.t 12) (.seq (.region [] [oq 13 (.mov (.t 0)),
 oq 14 (.mov (.t 7)),
 ⟨some 15, .slcS (.t 13) none (some (.t 14)), none, [0, 1]⟩,
 oq 16 (.mov (.t 0)),
 oq 17 (.mov (.t 7)),
 oq 18 (.mov (.t 1)),
 ⟨some 19, .lenS (.t 18), none, [5]⟩,
 ⟨some 20, .ibin .add (.t 17) (.t 19), none, [4, 5, 6]⟩,
 ⟨some 21, .slcS (.t 16) (some (.t 20)) none, none, [3, 4, 5, 6, 7]⟩,
 ⟨some 4, .mov (.t 15), none, [0, 1, 2]⟩,
 ⟨some 5, .mov (.t 21), none, [0, 1, 2, 3, 4, 5, 6, 7, 8, 9]⟩,
 ⟨some 6, .mov (.c lB [.bool true]), none, [0, 1, 2, 3, 4, 5, 6, 7, 8, 9, 10]⟩] true 0)
 .ret)
 .skip)))
 (.seq (.region [] [oq 22 (.mov (.t 0)),
 oq 4 (.mov (.t 22)),
 oq 5 (.mov (.c lS [.str ([] : List UInt8)])),
 oq 6 (.mov (.c lB [.bool false]))] false 0)
 .ret))) }

def strings_Cut_a : AFun := { ps := [lS, lS], rs := [lS, lS, lB], res := [(false, 4, none), (false, 5, none), (false, 6, none)], body := (.seq (.region [] [oq 4 (.mov (.c lS [.str ([] : List UInt8)])),
 oq 5 (.mov (.c lS [.str ([] : List UInt8)])),
 oq 6 (.mov (.c lB [.bool false]))] false 0)
 (.seq (.region [] [oq 7 (.mov (.t 0)),
 oq 8 (.mov (.t 1)),
 oq 9 (.call 59 [lS, lS] [lS, lS, lB] [(.t 7), (.t 8)]),
 oq 10 (.ext 0 (.t 9)),
 oq 11 (.ext 1 (.t 9)),
 oq 12 (.ext 2 (.t 9)),
 oq 4 (.mov (.t 10)),
 oq 5 (.mov (.t 11)),
 oq 6 (.mov (.t 12))] false 0)
 .ret)) }

def clapref3_used_a : AFun := { ps := [lI], rs := [lS, lS], res := [(false, 2, none), (false, 3, none)], body := (.seq (.region [] [oq 2 (.mov (.c lS [.str ([] : List UInt8)])),
 oq 3 (.mov (.c lS [.str ([] : List UInt8)]))] false 0)
 (.seq (.region [] [oq 8 (.call 37 [lS] [(.one (.sl 9))] [(.c lS [.str ([115, 97, 109, 101, 58, 32, 116, 104, 101, 110, 58, 43, 32, 97, 116, 58, 110, 49, 32, 114, 101, 110, 97, 109, 101, 58, 110, 116, 32, 100, 114, 111, 112, 58, 110, 118, 32, 97, 100, 100, 58, 110, 118, 32, 110, 101, 115, 116, 58, 116, 115, 32, 102, 108, 97, 116, 58, 110, 32, 109, 111, 118, 101, 58, 110, 105, 32, 115, 112, 108, 105, 116, 58, 110, 116, 115, 112, 32, 103, 108, 117, 101, 58, 110, 116, 112, 32, 108, 111, 111, 107, 58, 108, 32, 110, 117, 109, 98, 101, 114, 58, 98, 32, 101, 97, 99, 104, 58, 110, 49, 32, 99, 97, 115, 101, 58, 115, 43, 32, 115, 101, 108, 101, 99, 116, 58, 110, 118, 32, 116, 97, 103, 58, 110, 32, 117, 110, 116, 97, 103, 58, 110, 32, 102, 105, 108, 108, 58, 118] : List UInt8)])]),
 oq 4 (.mov (.t 8))] false 0)
 (.seq (.region [] [oq 10 (.mov (.t 4)),
 oq 11 (.mov (.t 0)),
 oq 12 (.iad 9 lS (.t 10) (.t 11)),
 oq 13 (.ld lS 9 (.t 12)),
 oq 14 (.call 38 [lS, lS] [lS, lS, lB] [(.t 13), (.c lS [.str ([58] : List UInt8)])]),
 oq 9 (.mov (.t 14)),
 oq 15 (.ext 0 (.t 9)),
 oq 16 (.ext 1 (.t 9)),
 oq 17 (.ext 2 (.t 9)),
 oq 5 (.mov (.t 15)),
 oq 6 (.mov (.t 16)),
 oq 7 (.mov (.t 17))] false 0)
 (.seq (.region [] [oq 18 (.mov (.t 5)),
 oq 19 (.mov (.t 6)),
 oq 2 (.mov (.t 18)),
 oq 3 (.mov (.t 19))] false 0)
 .ret)))) }
/-- clapperbridge/clapref3.used -/
noncomputable def clapref3_used (E : Env) (p0 : Int) : Option (List Row) :=
 (E.pc n_strings_Fields [[.str ([115, 97, 109, 101, 58, 32, 116, 104, 101, 110, 58, 43, 32, 97, 116, 58, 110, 49, 32, 114, 101, 110, 97, 109, 101, 58, 110, 116, 32, 100, 114, 111, 112, 58, 110, 118, 32, 97, 100, 100, 58, 110, 118, 32, 110, 101, 115, 116, 58, 116, 115, 32, 102, 108, 97, 116, 58, 110, 32, 109, 111, 118, 101, 58, 110, 105, 32, 115, 112, 108, 105, 116, 58, 110, 116, 115, 112, 32, 103, 108, 117, 101, 58, 110, 116, 112, 32, 108, 111, 111, 107, 58, 108, 32, 110, 117, 109, 98, 101, 114, 58, 98, 32, 101, 97, 99, 104, 58, 110, 49, 32, 99, 97, 115, 101, 58, 115, 43, 32, 115, 101, 108, 101, 99, 116, 58, 110, 118, 32, 116, 97, 103, 58, 110, 32, 117, 110, 116, 97, 103, 58, 110, 32, 102, 105, 108, 108, 58, 118] : List UInt8)]]).bind fun y1 =>
 if (0 : Int) ≤ p0 ∧ p0 < (((at_ (rowsAt y1 0) 0).rows).length : Int) then
 (E.pc n_strings_Cut [[.str ((at_ (rowsAt ((at_ (rowsAt y1 0) 0).rows) p0.toNat) 0).toS)], [.str ([58] : List UInt8)]]).bind fun y2 =>
 some [[.str ((at_ (rowsAt y2 0) 0).toS)], [.str ((at_ (rowsAt y2 1) 0).toS)]]
 else none
theorem clapref3_used_eq (E : Env) (p0 : Int) : runP E clapref3_used_a [[.int p0]] = clapref3_used E p0 := by kernel_rfl

def clapref3_same_h0 : Shape := { slots := [(3, .d (.one (.ref 25))), (36, .d (.one (.sl 67))), (37, .d lI), (38, .d lI)], objs := [] }
def clapref3_same_o0 : List (Exit' × Shape) := [(.exit 0, { slots := [], objs := [] }), (.ret, { slots := [(4, .d lB)], objs := [] })]
def clapref3_same_c0 : ACode := (.seq (.region [] [oq 39 (.icmp .lss (.t 38) (.t 37))] false 0)
 (.seq (.cond (.t 39) .skip
 (.exit 0))
 (.seq (.block 1 (.seq (.region [] [oq 40 (.mov (.t 38)),
 oq 41 (.iad 67 lA2 (.t 36) (.t 38)),
 oq 42 (.ld lA2 67 (.t 41)),
 oq 6 (.allocO 0 lA2 [.str [], .int 0, .int 0, .str [], .nils]),
 oq 5 (.mov (.t 40)),
 ⟨none, .st lA2 (.t 6) (.t 42), none, []⟩] false 1)
 (.seq (.region [] [oq 43 (.fad 0 1 67 9 (.t 6)),
 ⟨some 44, .ld lS 9 (.t 43), none, [0]⟩,
 oq 45 (.fad 3 1 25 23 (.t 3)),
 ⟨some 46, .ld (.one (.sl 67)) 23 (.t 45), none, [2]⟩,
 oq 47 (.mov (.t 5)),
 ⟨some 48, .iad 67 lA2 (.t 46) (.t 47), none, [2, 3, 4]⟩,
 ⟨some 49, .fad 0 1 67 9 (.t 48), none, [2, 3, 4, 5]⟩,
 ⟨some 50, .ld lS 9 (.t 49), none, [2, 3, 4, 5, 6]⟩,
 ⟨some 51, .scmp .neq (.t 44) (.t 50), none, [0, 1, 2, 3, 4, 5, 6, 7]⟩,
 ⟨some 52, .mov (.t 51), none, [0, 1, 2, 3, 4, 5, 6, 7, 8]⟩,
 ⟨some 53, .fad 1 4 67 25 (.t 6), some (52, false), [0, 1, 2, 3, 4, 5, 6, 7, 8, 9]⟩,
 ⟨some 54, .ld lA3 25 (.t 53), some (52, false), [0, 1, 2, 3, 4, 5, 6, 7, 8, 9, 10]⟩,
 ⟨some 55, .fad 3 1 25 23 (.t 3), some (52, false), [0, 1, 2, 3, 4, 5, 6, 7, 8, 9]⟩,
 ⟨some 56, .ld (.one (.sl 67)) 23 (.t 55), some (52, false), [0, 1, 2, 3, 4, 5, 6, 7, 8, 9, 12]⟩,
 ⟨some 57, .mov (.t 5), some (52, false), [0, 1, 2, 3, 4, 5, 6, 7, 8, 9]⟩,
 ⟨some 58, .iad 67 lA2 (.t 56) (.t 57), some (52, false), [0, 1, 2, 3, 4, 5, 6, 7, 8, 9, 12, 13, 14]⟩,
 ⟨some 59, .fad 1 4 67 25 (.t 58), some (52, false), [0, 1, 2, 3, 4, 5, 6, 7, 8, 9, 12, 13, 14, 15]⟩,
 ⟨some 60, .ld lA3 25 (.t 59), some (52, false), [0, 1, 2, 3, 4, 5, 6, 7, 8, 9, 12, 13, 14, 15, 16]⟩,
 ⟨some 61, .call 22 [lA3, lA3] [lB] [(.t 54), (.t 60)], some (52, false), [0, 1, 2, 3, 4, 5, 6, 7, 8, 9, 10, 11, 12, 13, 14, 15, 16, 17]⟩,
 ⟨some 62, .not (.t 61), some (52, false), [0, 1, 2, 3, 4, 5, 6, 7, 8, 9, 10, 11, 12, 13, 14, 15, 16, 17, 18]⟩,
 ⟨some 63, .pick (.t 52) (.c lB [.bool true]) (.t 62), none, [0, 1, 2, 3, 4, 5, 6, 7, 8, 9, 10, 11, 12, 13, 14, 15, 16, 17, 18, 19]⟩] true 0)
 (.cond (.t 63) (.seq (.region [] [oq 4 (.mov (.c lB [.bool false]))] false 0)
 .ret)
 .skip))))
 (.region [] [oq 64 (.ibin .add (.t 38) (.c lI [.int 1])),
 oq 38 (.mov (.t 64))] false 0))))
noncomputable def clapref3_same_l0 (E : Env) (v0 : C) (v1 : C) (v2 : Int) (v3 : Int) : Option (Nat × List PV) := E.fix (stepOf E clapref3_same_c0 clapref3_same_h0 clapref3_same_o0) [.r [v0], .r [v1], .r [.int v2], .r [.int v3]]
noncomputable def clapref3_same_b0 (E : Env) (X : C → C → Int → Int → Option (Nat × List PV)) (v0 : C) (v1 : C) (v2 : Int) (v3 : Int) : Option (Nat × List PV) :=
 if (decide (v3 < v2)) = true then
 if (0 : Int) ≤ v3 ∧ v3 < (v1.rows.length : Int) then
 if v0.isDp = true then
 if (0 : Int) ≤ v3 ∧ v3 < (((at_ v0.dpRow 3).rows).length : Int) then
 let K8 : Bool → Option (Nat × List PV) := fun q9 =>
 if q9 = true then
 some (1, [.r [.bool false]])
 else
 X v0 v1 v2 (Go.IntKind.i64.wrap (v3 + 1))
 if (!(((at_ (rowsAt v1.rows v3.toNat) 0).toS) == ((at_ (rowsAt ((at_ v0.dpRow 3).rows) v3.toNat) 0).toS))) = true then
 K8 true
 else
 if v0.isDp = true then
 if (0 : Int) ≤ v3 ∧ v3 < (((at_ v0.dpRow 3).rows).length : Int) then
 (E.pc n_clapref3_same [[at_ (rowsAt v1.rows v3.toNat) 1, at_ (rowsAt v1.rows v3.toNat) 2, at_ (rowsAt v1.rows v3.toNat) 3, at_ (rowsAt v1.rows v3.toNat) 4], [at_ (rowsAt ((at_ v0.dpRow 3).rows) v3.toNat) 1, at_ (rowsAt ((at_ v0.dpRow 3).rows) v3.toNat) 2, at_ (rowsAt ((at_ v0.dpRow 3).rows) v3.toNat) 3, at_ (rowsAt ((at_ v0.dpRow 3).rows) v3.toNat) 4]]).bind fun y10 =>
 K8 (!((at_ (rowsAt y10 0) 0).toB))
 else none
 else none
 else none
 else none
 else none
 else
 some (0, [])
theorem clapref3_same_s0 (E : Env) (X : List PV → Option (Nat × List PV)) (v0 : C) (v1 : C) (v2 : Int) (v3 : Int) : stepOf E clapref3_same_c0 clapref3_same_h0 clapref3_same_o0 X [.r [v0], .r [v1], .r [.int v2], .r [.int v3]] = clapref3_same_b0 E (fun (v0 : C) (v1 : C) (v2 : Int) (v3 : Int) => X [.r [v0], .r [v1], .r [.int v2], .r [.int v3]]) v0 v1 v2 v3 := by kernel_rfl
def clapref3_same_a : AFun := { ps := [lA3, lA3], rs := [lB], res := [(false, 4, none)], body := (.seq (.region [] [oq 2 (.boxP lA3 25 (.t 0)),
 oq 3 (.boxP lA3 25 (.t 1)),
 oq 4 (.mov (.c lB [.bool false]))] false 0)
 (.seq (.seq (.join [(.normal, { slots := [(2, .d (.one (.ref 25))), (3, .d (.one (.ref 25))), (34, .d lB)], objs := [] })] (.region [] [oq 7 (.fad 0 1 25 3 (.t 2)),
 oq 8 (.ld lI 3 (.t 7)),
 oq 9 (.fad 0 1 25 3 (.t 3)),
 oq 10 (.ld lI 3 (.t 9)),
 oq 11 (.icmp .neq (.t 8) (.t 10)),
 oq 12 (.mov (.t 11)),
 ⟨some 13, .fad 1 1 25 3 (.t 2), some (12, false), []⟩,
 ⟨some 14, .ld lI 3 (.t 13), some (12, false), []⟩,
 ⟨some 15, .fad 1 1 25 3 (.t 3), some (12, false), []⟩,
 ⟨some 16, .ld lI 3 (.t 15), some (12, false), []⟩,
 ⟨some 17, .icmp .neq (.t 14) (.t 16), some (12, false), []⟩,
 oq 18 (.pick (.t 12) (.c lB [.bool true]) (.t 17)),
 oq 19 (.mov (.t 18)),
 ⟨some 20, .fad 2 1 25 9 (.t 2), some (19, false), []⟩,
 ⟨some 21, .ld lS 9 (.t 20), some (19, false), []⟩,
 ⟨some 22, .fad 2 1 25 9 (.t 3), some (19, false), []⟩,
 ⟨some 23, .ld lS 9 (.t 22), some (19, false), []⟩,
 ⟨some 24, .scmp .neq (.t 21) (.t 23), some (19, false), []⟩,
 oq 25 (.pick (.t 19) (.c lB [.bool true]) (.t 24)),
 oq 26 (.mov (.t 25)),
 ⟨some 27, .fad 3 1 25 23 (.t 2), some (26, false), []⟩,
 ⟨some 28, .ld (.one (.sl 67)) 23 (.t 27), some (26, false), []⟩,
 ⟨some 29, .lenL (.t 28), some (26, false), []⟩,
 ⟨some 30, .fad 3 1 25 23 (.t 3), some (26, false), []⟩,
 ⟨some 31, .ld (.one (.sl 67)) 23 (.t 30), some (26, false), []⟩,
 ⟨some 32, .lenL (.t 31), some (26, false), []⟩,
 ⟨some 33, .icmp .neq (.t 29) (.t 32), some (26, false), []⟩,
 oq 34 (.pick (.t 26) (.c lB [.bool true]) (.t 33))] false 0))
 (.cond (.t 34) (.seq (.region [] [oq 4 (.mov (.c lB [.bool false]))] false 0)
 .ret)
 .skip))
 (.seq (.seq (.region [] [oq 35 (.fad 3 1 25 23 (.t 2)),
 oq 36 (.ld (.one (.sl 67)) 23 (.t 35)),
 oq 37 (.lenL (.t 36)),
 oq 38 (.mov (.c lI [.int 0]))] false 0)
 (.block 0 (.loop clapref3_same_h0 clapref3_same_o0 clapref3_same_c0)))
 (.seq (.region [] [oq 4 (.mov (.c lB [.bool true]))] false 0)
 .ret)))) }
/-- clapperbridge/clapref3.same -/
noncomputable def clapref3_same (E : Env) (p0 : Row) (p1 : Row) : Option (List Row) :=
 (let K1 : Bool → Option (Nat × List PV) := fun q2 =>
 let K3 : Bool → Option (Nat × List PV) := fun q4 =>
 let K5 : Bool → Option (Nat × List PV) := fun q6 =>
 some (0, [.r [.dp p0], .r [.dp p1], .r [.bool q6]])
 if q4 = true then
 K5 true
 else
 K5 ((((at_ p0 3).rows).length : Int) != (((at_ p1 3).rows).length : Int))
 if q2 = true then
 K3 true
 else
 K3 (!(((at_ p0 2).toS) == ((at_ p1 2).toS)))
 if (((at_ p0 0).toI) != ((at_ p1 0).toI)) = true then
 K1 true
 else
 K1 (((at_ p0 1).toI) != ((at_ p1 1).toI))).bind fun x7 =>
 if (gB 2 x7.2) = true then
 some [[.bool false]]
 else
 if (gC 0 x7.2).isDp = true then
 (clapref3_same_l0 E (gC 1 x7.2) (at_ ((gC 0 x7.2).dpRow) 3) (((at_ ((gC 0 x7.2).dpRow) 3).rows).length : Int) 0).bind fun x11 =>
 match x11.1 with
 | 0 =>
 some [[.bool true]]
 | i12 + 1 =>
 some [[.bool (gB 0 x11.2)]]
 else none
theorem clapref3_same_eq (E : Env) (p0 : Row) (p1 : Row) : runP E clapref3_same_a [p0, p1] = clapref3_same E p0 p1 := by kernel_rfl

def clapref3_Zero_a : AFun := { ps := [], rs := [lA3], res := [(true, 0, none)], body := (.seq (.region [] [oq 0 (.allocO 0 lA3 [.int 0, .int 0, .str [], .nils])] false 1)
 (.seq (.region [] [oq 1 (.bld lA3 [.int 0, .int 0, .str [], .nils] []),
 ⟨none, .st lA3 (.t 0) (.t 1), none, []⟩] false 0)
 .ret)) }
/-- clapperbridge/clapref3.Zero -/
noncomputable def clapref3_Zero (E : Env) : Option (List Row) :=
 some [[.int 0, .int 0, .str [], .nils]]
theorem clapref3_Zero_eq (E : Env) : runP E clapref3_Zero_a [] = clapref3_Zero E := by kernel_rfl

def clapref3_has_a : AFun := { ps := [lS, lU], rs := [lB], res := [(false, 4, none)], body := (.seq (.region [] [oq 4 (.mov (.c lB [.bool false]))] false 0)
 (.seq (.region [] [oq 5 (.mov (.t 0)),
 oq 6 (.mov (.t 1)),
 oq 7 (.call 39 [lS, lU] [lI] [(.t 5), (.t 6)]),
 oq 8 (.icmp .geq (.t 7) (.c lI [.int 0])),
 oq 4 (.mov (.t 8))] false 0)
 .ret)) }
/-- clapperbridge/clapref3.has -/
noncomputable def clapref3_has (E : Env) (p0 : List UInt8) (p1 : Int) : Option (List Row) :=
 (E.pc n_strings_IndexByte [[.str p0], [.int p1]]).bind fun y1 =>
 some [[.bool (decide (((at_ (rowsAt y1 0) 0).toI) ≥ 0))]]
theorem clapref3_has_eq (E : Env) (p0 : List UInt8) (p1 : Int) : runP E clapref3_has_a [[.str p0], [.int p1]] = clapref3_has E p0 p1 := by kernel_rfl

def clapref3_plain_a : AFun := { ps := [lI], rs := [lB], res := [(false, 2, none)], body := (.seq (.region [] [oq 2 (.mov (.c lB [.bool false]))] false 0)
 (.seq (.seq (.region [] [oq 3 (.mov (.t 0))] false 0)
 (.block 0 (.seq (.seq (.region [] [oq 5 (.icmp .eql (.t 3) (.c lI [.int 1])),
 oq 4 (.mov (.t 5))] false 0)
 (.cond (.t 4) .skip
 (.seq (.region [] [oq 6 (.icmp .eql (.t 3) (.c lI [.int 2])),
 oq 4 (.mov (.t 6))] false 0)
 (.cond (.t 4) .skip
 (.seq (.region [] [oq 7 (.icmp .eql (.t 3) (.c lI [.int 4])),
 oq 4 (.mov (.t 7))] false 0)
 (.cond (.t 4) .skip
 (.region [] [oq 8 (.icmp .eql (.t 3) (.c lI [.int 5])),
 oq 4 (.mov (.t 8))] false 0)))))))
 (.cond (.t 4) (.seq (.region [] [oq 2 (.mov (.c lB [.bool true]))] false 0)
 .ret)
 .skip))))
 (.seq (.region [] [oq 2 (.mov (.c lB [.bool false]))] false 0)
 .ret))) }
/-- clapperbridge/clapref3.plain -/
noncomputable def clapref3_plain (E : Env) (p0 : Int) : Option (List Row) :=
 if (p0 == 1) = true then
 if (p0 == 1) = true then
 some [[.bool true]]
 else
 some [[.bool false]]
 else
 if (p0 == 2) = true then
 if (p0 == 2) = true then
 some [[.bool true]]
 else
 some [[.bool false]]
 else
 if (p0 == 4) = true then
 if (p0 == 4) = true then
 some [[.bool true]]
 else
 some [[.bool false]]
 else
 if (p0 == 5) = true then
 some [[.bool true]]
 else
 some [[.bool false]]
theorem clapref3_plain_eq (E : Env) (p0 : Int) : runP E clapref3_plain_a [[.int p0]] = clapref3_plain E p0 := by kernel_rfl

def clapref3_distinct_h0 : Shape := { slots := [(3, .map 0), (10, .d (.one (.sl 9))), (11, .d lI), (12, .d lI)], objs := [.map lS lI] }
def clapref3_distinct_o0 : List (Exit' × Shape) := [(.exit 0, { slots := [], objs := [] }), (.ret, { slots := [(2, .d lI)], objs := [] })]
def clapref3_distinct_c0 : ACode := (.seq (.region [] [oq 13 (.icmp .lss (.t 12) (.t 11))] false 0)
 (.seq (.cond (.t 13) .skip
 (.exit 0))
 (.seq (.block 1 (.seq (.region [] [oq 14 (.iad 9 lS (.t 10) (.t 12)),
 oq 15 (.ld lS 9 (.t 14)),
 oq 5 (.mov (.t 15))] false 0)
 (.seq (.seq (.region [] [oq 16 (.mov (.t 5)),
 oq 17 (.call 18 [lS] [lB] [(.t 16)]),
 oq 18 (.not (.t 17))] false 0)
 (.cond (.t 18) (.seq (.region [] [oq 2 (.mov (.c lI [.int 15]))] false 0)
 .ret)
 .skip))
 (.seq (.region [] [oq 19 (.mov (.t 3)),
 oq 20 (.mov (.t 5)),
 oq 21 (.lk lS lI [.int 0] (.t 19) (.t 20) false),
 oq 22 (.ibin .add (.t 21) (.c lI [.int 1])),
 ⟨none, .mup lS (.t 19) (.t 20) (.t 22), none, []⟩] false 0)
 (.seq (.region [] [oq 23 (.mov (.t 3)),
 oq 24 (.mov (.t 5)),
 oq 25 (.lk lS lI [.int 0] (.t 23) (.t 24) false),
 oq 26 (.icmp .gtr (.t 25) (.c lI [.int 1]))] false 0)
 (.cond (.t 26) (.seq (.region [] [oq 2 (.mov (.c lI [.int 5]))] false 0)
 .ret)
 .skip))))))
 (.region [] [oq 27 (.ibin .add (.t 12) (.c lI [.int 1])),
 oq 12 (.mov (.t 27))] false 0))))
noncomputable def clapref3_distinct_l0 (E : Env) (v0 : C) (v1 : Int) (v2 : Int) (v3 : List (Row × Row)) : Option (Nat × List PV) := E.fix (stepOf E clapref3_distinct_c0 clapref3_distinct_h0 clapref3_distinct_o0) [.r [v0], .r [.int v1], .r [.int v2], .m v3]
noncomputable def clapref3_distinct_b0 (E : Env) (X : C → Int → Int → List (Row × Row) → Option (Nat × List PV)) (v0 : C) (v1 : Int) (v2 : Int) (v3 : List (Row × Row)) : Option (Nat × List PV) :=
 if (decide (v2 < v1)) = true then
 if (0 : Int) ≤ v2 ∧ v2 < (v0.rows.length : Int) then
 (E.pc n_value_Name [[.str ((at_ (rowsAt v0.rows v2.toNat) 0).toS)]]).bind fun y1 =>
 if (!((at_ (rowsAt y1 0) 0).toB)) = true then
 some (1, [.r [.int 15]])
 else
 if (decide (((at_ ((findE lS [.str ((at_ (rowsAt v0.rows v2.toNat) 0).toS)] (setE lS [.str ((at_ (rowsAt v0.rows v2.toNat) 0).toS)] [.int (Go.IntKind.i64.wrap (((at_ ((findE lS [.str ((at_ (rowsAt v0.rows v2.toNat) 0).toS)] v3).getD [.int 0]) 0).toI) + 1))] v3)).getD [.int 0]) 0).toI) > 1)) = true then
 some (1, [.r [.int 5]])
 else
 X v0 v1 (Go.IntKind.i64.wrap (v2 + 1)) (setE lS [.str ((at_ (rowsAt v0.rows v2.toNat) 0).toS)] [.int (Go.IntKind.i64.wrap (((at_ ((findE lS [.str ((at_ (rowsAt v0.rows v2.toNat) 0).toS)] v3).getD [.int 0]) 0).toI) + 1))] v3)
 else none
 else
 some (0, [])
theorem clapref3_distinct_s0 (E : Env) (X : List PV → Option (Nat × List PV)) (v0 : C) (v1 : Int) (v2 : Int) (v3 : List (Row × Row)) : stepOf E clapref3_distinct_c0 clapref3_distinct_h0 clapref3_distinct_o0 X [.r [v0], .r [.int v1], .r [.int v2], .m v3] = clapref3_distinct_b0 E (fun (v0 : C) (v1 : Int) (v2 : Int) (v3 : List (Row × Row)) => X [.r [v0], .r [.int v1], .r [.int v2], .m v3]) v0 v1 v2 v3 := by kernel_rfl
def clapref3_distinct_a : AFun := { ps := [(.one (.sl 9))], rs := [lI], res := [(false, 2, none)], body := (.seq (.region [] [oq 2 (.mov (.c lI [.int 0]))] false 0)
 (.seq (.seq (.region [] [oq 6 (.mov (.t 0)),
 oq 7 (.lenL (.t 6)),
 oq 8 (.icmp .eql (.t 7) (.c lI [.int 0]))] false 0)
 (.cond (.t 8) (.seq (.region [] [oq 2 (.mov (.c lI [.int 3]))] false 0)
 .ret)
 .skip))
 (.seq (.region [] [oq 9 (.mkm 0 lS lI),
 oq 3 (.mov (.t 9))] false 1)
 (.seq (.seq (.region [] [oq 10 (.mov (.t 0)),
 oq 11 (.lenL (.t 10)),
 oq 12 (.mov (.c lI [.int 0]))] false 0)
 (.block 0 (.loop clapref3_distinct_h0 clapref3_distinct_o0 clapref3_distinct_c0)))
 (.seq (.region [] [oq 2 (.mov (.c lI [.int 0]))] false 0)
 .ret))))) }
/-- clapperbridge/clapref3.distinct -/
noncomputable def clapref3_distinct (E : Env) (p0 : C) : Option (List Row) :=
 if ((p0.rows.length : Int) == 0) = true then
 some [[.int 3]]
 else
 (clapref3_distinct_l0 E p0 (p0.rows.length : Int) 0 []).bind fun x2 =>
 match x2.1 with
 | 0 =>
 some [[.int 0]]
 | i3 + 1 =>
 some [[.int (gI 0 x2.2)]]
theorem clapref3_distinct_eq (E : Env) (p0 : C) : runP E clapref3_distinct_a [[p0]] = clapref3_distinct E p0 := by kernel_rfl

def clapref3_Pairs_h1 : Shape := { slots := [(0, .d (.one (.sl 87))), (3, .ptr 0 0), (19, .d (.one (.sl 87))), (20, .d lI), (21, .d lI), (25, .d lA8), (26, .d lI)], objs := [.cells false [.map 1, .map 2], .map lS lB, .map lS lB] }
def clapref3_Pairs_o1 : List (Exit' × Shape) := [(.exit 2, { slots := [(0, .d (.one (.sl 87))), (3, .ptr 0 0), (19, .d (.one (.sl 87))), (20, .d lI), (21, .d lI)], objs := [.cells false [.map 1, .map 2], .map lS lB, .map lS lB] }), (.ret, { slots := [(2, .d lI)], objs := [] })]
def clapref3_Pairs_c1 : ACode := (.seq (.region [] [oq 27 (.icmp .lss (.t 26) (.c lI [.int 2]))] false 0)
 (.seq (.cond (.t 27) .skip
 (.exit 2))
 (.seq (.block 3 (.seq (.region [] [oq 28 (.mov (.t 26)),
 oq 29 (.idxA 2 lA3 (.t 25) (.t 26)),
 oq 7 (.allocO 0 lA3 [.int 0, .int 0, .str [], .nils]),
 oq 6 (.mov (.t 28)),
 ⟨none, .st lA3 (.t 7) (.t 29), none, []⟩] false 1)
 (.seq (.seq (.region [] [oq 30 (.ld lA3 25 (.t 7)),
 oq 31 (.call 19 [lA3] [lI] [(.t 30)]),
 oq 8 (.mov (.t 31))] false 0)
 (.seq (.region [] [oq 32 (.mov (.t 8)),
 oq 33 (.icmp .neq (.t 32) (.c lI [.int 0]))] false 0)
 (.cond (.t 33) (.seq (.region [] [oq 34 (.mov (.t 8)),
 oq 2 (.mov (.t 34))] false 0)
 .ret)
 .skip)))
 (.seq (.seq (.join [(.normal, { slots := [(0, .d (.one (.sl 87))), (3, .ptr 0 0), (6, .d lI), (7, .ptr 1 0), (19, .d (.one (.sl 87))), (20, .d lI), (21, .d lI), (25, .d lA8), (26, .d lI), (49, .d lB)], objs := [.cells false [.map 2, .map 3], .var lA3, .map lS lB, .map lS lB] })] (.region [] [oq 35 (.fad 0 1 25 3 (.t 7)),
 ⟨some 36, .ld lI 3 (.t 35), none, [0]⟩,
 ⟨some 37, .call 25 [lI] [lB] [(.t 36)], none, [0, 1]⟩,
 ⟨some 38, .not (.t 37), none, [0, 1, 2]⟩,
 ⟨some 39, .mov (.t 38), none, [0, 1, 2, 3]⟩,
 ⟨some 40, .fad 0 1 25 3 (.t 7), some (39, false), [0, 1, 2, 3, 4]⟩,
 ⟨some 41, .ld lI 3 (.t 40), some (39, false), [0, 1, 2, 3, 4, 5]⟩,
 ⟨some 42, .mov (.t 0), some (39, false), [0, 1, 2, 3, 4]⟩,
 ⟨some 43, .mov (.t 6), some (39, false), [0, 1, 2, 3, 4]⟩,
 ⟨some 44, .iad 87 lA8 (.t 42) (.c lI [.int 0]), some (39, false), [0, 1, 2, 3, 4, 7]⟩,
 ⟨some 45, .iadA 2 87 25 lA3 (.t 44) (.t 43), some (39, false), [0, 1, 2, 3, 4, 7, 8, 9]⟩,
 ⟨some 46, .fad 0 1 25 3 (.t 45), some (39, false), [0, 1, 2, 3, 4, 7, 8, 9, 10]⟩,
 ⟨some 47, .ld lI 3 (.t 46), some (39, false), [0, 1, 2, 3, 4, 7, 8, 9, 10, 11]⟩,
 ⟨some 48, .icmp .neq (.t 41) (.t 47), some (39, false), [0, 1, 2, 3, 4, 5, 6, 7, 8, 9, 10, 11, 12]⟩,
 ⟨some 49, .pick (.t 39) (.c lB [.bool true]) (.t 48), none, [0, 1, 2, 3, 4, 5, 6, 7, 8, 9, 10, 11, 12, 13]⟩] true 0))
 (.cond (.t 49) (.seq (.region [] [oq 2 (.mov (.c lI [.int 8]))] false 0)
 .ret)
 .skip))
 (.seq (.region [] [oq 50 (.fad 1 1 25 3 (.t 7)),
 ⟨some 51, .ld lI 3 (.t 50), none, [0]⟩,
 ⟨some 52, .call 44 [lI] [lS] [(.t 51)], none, [0, 1]⟩,
 ⟨some 53, .scat (.t 52) (.c lS [.str ([32] : List UInt8)]), none, [0, 1, 2]⟩,
 oq 54 (.fad 2 1 25 9 (.t 7)),
 ⟨some 55, .ld lS 9 (.t 54), none, [4]⟩,
 ⟨some 56, .scat (.t 53) (.t 55), none, [0, 1, 2, 3, 4, 5]⟩,
 ⟨some 9, .mov (.t 56), none, [0, 1, 2, 3, 4, 5, 6]⟩] true 0)
 (.seq (.seq (.region [] [oq 57 (.mov (.t 6)),
 oq 58 (.iadV 2 1 (.t 3) (.t 57)),
 oq 59 (.ldC (.t 58)),
 oq 60 (.mov (.t 9)),
 oq 61 (.lk lS lB [.bool false] (.t 59) (.t 60) false)] false 0)
 (.cond (.t 61) (.seq (.region [] [oq 2 (.mov (.c lI [.int 5]))] false 0)
 .ret)
 .skip))
 (.region [] [oq 62 (.mov (.t 6)),
 oq 63 (.iadV 2 1 (.t 3) (.t 62)),
 oq 64 (.ldC (.t 63)),
 oq 65 (.mov (.t 9)),
 ⟨none, .mup lS (.t 64) (.t 65) (.c lB [.bool true]), none, []⟩] false 0)))))))
 (.region [] [oq 66 (.ibin .add (.t 26) (.c lI [.int 1])),
 oq 26 (.mov (.t 66))] false 0))))
noncomputable def clapref3_Pairs_l1 (E : Env) (v0 : C) (v1 : C) (v2 : Int) (v3 : Int) (v4 : Row) (v5 : Int) (v6 : List (Row × Row)) (v7 : List (Row × Row)) : Option (Nat × List PV) := E.fix (stepOf E clapref3_Pairs_c1 clapref3_Pairs_h1 clapref3_Pairs_o1) [.r [v0], .r [v1], .r [.int v2], .r [.int v3], .r v4, .r [.int v5], .m v6, .m v7]
noncomputable def clapref3_Pairs_b1 (E : Env) (X : C → C → Int → Int → Row → Int → List (Row × Row) → List (Row × Row) → Option (Nat × List PV)) (v0 : C) (v1 : C) (v2 : Int) (v3 : Int) (v4 : Row) (v5 : Int) (v6 : List (Row × Row)) (v7 : List (Row × Row)) : Option (Nat × List PV) :=
 if (decide (v5 < 2)) = true then
 if (0 : Int) ≤ v5 ∧ v5 < (2 : Int) then
 (E.pc n_value_Check [[at_ v4 (v5.toNat * 4), at_ v4 (v5.toNat * 4 + 1), at_ v4 (v5.toNat * 4 + 2), at_ v4 (v5.toNat * 4 + 3)]]).bind fun y1 =>
 if (((at_ (rowsAt y1 0) 0).toI) != 0) = true then
 some (1, [.r [.int ((at_ (rowsAt y1 0) 0).toI)]])
 else
 ((E.pc n_clapref3_plain [[.int ((at_ v4 (v5.toNat * 4)).toI)]]).bind fun y2 =>
 let K3 : Bool → Option (Nat × List PV) := fun q4 =>
 some (0, [.r [v0], .r [.int v5], .r [v1], .r [.int v2], .r [.int v3], .r v4, .r [.int v5], .r [.bool q4], .r [at_ v4 (v5.toNat * 4), at_ v4 (v5.toNat * 4 + 1), at_ v4 (v5.toNat * 4 + 2), at_ v4 (v5.toNat * 4 + 3)], .m v6, .m v7])
 if (!((at_ (rowsAt y2 0) 0).toB)) = true then
 K3 true
 else
 if (0 : Int) ≤ 0 ∧ 0 < (v0.rows.length : Int) then
 if (0 : Int) ≤ v5 ∧ v5 < (2 : Int) ∧ (C.dp (rowsAt v0.rows 0)).isDp = true then
 K3 (((at_ v4 (v5.toNat * 4)).toI) != ((at_ (rowsAt v0.rows 0) (v5.toNat * 4)).toI))
 else none
 else none).bind fun x5 =>
 if (gB 7 x5.2) = true then
 some (1, [.r [.int 8]])
 else
 (E.pc n_strconv_Itoa [[.int ((at_ (gR 8 x5.2) 1).toI)]]).bind fun y6 =>
 if ((at_ (rowsAt y6 0) 0).toS).length + ([32] : List UInt8).length ≤ 1099511627776 then
 if (((at_ (rowsAt y6 0) 0).toS) ++ ([32] : List UInt8)).length + ((at_ (gR 8 x5.2) 2).toS).length ≤ 1099511627776 then
 if (gI 1 x5.2) = 0 then
 if ((at_ ((findE lS [.str ((((at_ (rowsAt y6 0) 0).toS) ++ ([32] : List UInt8)) ++ ((at_ (gR 8 x5.2) 2).toS))] (gM 9 x5.2)).getD [.bool false]) 0).toB) = true then
 some (1, [.r [.int 5]])
 else
 if (gI 1 x5.2) = 0 then
 X (gC 0 x5.2) (gC 2 x5.2) (gI 3 x5.2) (gI 4 x5.2) (gR 5 x5.2) (Go.IntKind.i64.wrap ((gI 6 x5.2) + 1)) (setE lS [.str ((((at_ (rowsAt y6 0) 0).toS) ++ ([32] : List UInt8)) ++ ((at_ (gR 8 x5.2) 2).toS))] [.bool true] (gM 9 x5.2)) (gM 10 x5.2)
 else
 if (gI 1 x5.2) = 1 then
 X (gC 0 x5.2) (gC 2 x5.2) (gI 3 x5.2) (gI 4 x5.2) (gR 5 x5.2) (Go.IntKind.i64.wrap ((gI 6 x5.2) + 1)) (gM 9 x5.2) (setE lS [.str ((((at_ (rowsAt y6 0) 0).toS) ++ ([32] : List UInt8)) ++ ((at_ (gR 8 x5.2) 2).toS))] [.bool true] (gM 10 x5.2))
 else
 none
 else
 if (gI 1 x5.2) = 1 then
 if ((at_ ((findE lS [.str ((((at_ (rowsAt y6 0) 0).toS) ++ ([32] : List UInt8)) ++ ((at_ (gR 8 x5.2) 2).toS))] (gM 10 x5.2)).getD [.bool false]) 0).toB) = true then
 some (1, [.r [.int 5]])
 else
 if (gI 1 x5.2) = 0 then
 X (gC 0 x5.2) (gC 2 x5.2) (gI 3 x5.2) (gI 4 x5.2) (gR 5 x5.2) (Go.IntKind.i64.wrap ((gI 6 x5.2) + 1)) (setE lS [.str ((((at_ (rowsAt y6 0) 0).toS) ++ ([32] : List UInt8)) ++ ((at_ (gR 8 x5.2) 2).toS))] [.bool true] (gM 9 x5.2)) (gM 10 x5.2)
 else
 if (gI 1 x5.2) = 1 then
 X (gC 0 x5.2) (gC 2 x5.2) (gI 3 x5.2) (gI 4 x5.2) (gR 5 x5.2) (Go.IntKind.i64.wrap ((gI 6 x5.2) + 1)) (gM 9 x5.2) (setE lS [.str ((((at_ (rowsAt y6 0) 0).toS) ++ ([32] : List UInt8)) ++ ((at_ (gR 8 x5.2) 2).toS))] [.bool true] (gM 10 x5.2))
 else
 none
 else
 none
 else none
 else none
 else none
 else
 some (0, [.r [v0], .r [v1], .r [.int v2], .r [.int v3], .m v6, .m v7])
theorem clapref3_Pairs_s1 (E : Env) (X : List PV → Option (Nat × List PV)) (v0 : C) (v1 : C) (v2 : Int) (v3 : Int) (v4 : Row) (v5 : Int) (v6 : List (Row × Row)) (v7 : List (Row × Row)) : stepOf E clapref3_Pairs_c1 clapref3_Pairs_h1 clapref3_Pairs_o1 X [.r [v0], .r [v1], .r [.int v2], .r [.int v3], .r v4, .r [.int v5], .m v6, .m v7] = clapref3_Pairs_b1 E (fun (v0 : C) (v1 : C) (v2 : Int) (v3 : Int) (v4 : Row) (v5 : Int) (v6 : List (Row × Row)) (v7 : List (Row × Row)) => X [.r [v0], .r [v1], .r [.int v2], .r [.int v3], .r v4, .r [.int v5], .m v6, .m v7]) v0 v1 v2 v3 v4 v5 v6 v7 := by kernel_rfl
def clapref3_Pairs_h0 : Shape := { slots := [(0, .d (.one (.sl 87))), (3, .ptr 0 0), (19, .d (.one (.sl 87))), (20, .d lI), (21, .d lI)], objs := [.cells false [.map 1, .map 2], .map lS lB, .map lS lB] }
def clapref3_Pairs_o0 : List (Exit' × Shape) := [(.exit 0, { slots := [], objs := [] }), (.ret, { slots := [(2, .d lI)], objs := [] })]
def clapref3_Pairs_c0 : ACode := (.seq (.region [] [oq 22 (.icmp .lss (.t 21) (.t 20))] false 0)
 (.seq (.cond (.t 22) .skip
 (.exit 0))
 (.seq (.block 1 (.seq (.region [] [oq 23 (.iad 87 lA8 (.t 19) (.t 21)),
 oq 24 (.ld lA8 87 (.t 23)),
 oq 5 (.allocO 0 lA8 [.int 0, .int 0, .str [], .nils, .int 0, .int 0, .str [], .nils]),
 ⟨none, .st lA8 (.t 5) (.t 24), none, []⟩] false 1)
 (.seq (.region [] [oq 25 (.ld lA8 87 (.t 5)),
 oq 26 (.mov (.c lI [.int 0]))] false 0)
 (.block 2 (.loop clapref3_Pairs_h1 clapref3_Pairs_o1 clapref3_Pairs_c1)))))
 (.region [] [oq 67 (.ibin .add (.t 21) (.c lI [.int 1])),
 oq 21 (.mov (.t 67))] false 0))))
noncomputable def clapref3_Pairs_l0 (E : Env) (v0 : C) (v1 : C) (v2 : Int) (v3 : Int) (v4 : List (Row × Row)) (v5 : List (Row × Row)) : Option (Nat × List PV) := E.fix (stepOf E clapref3_Pairs_c0 clapref3_Pairs_h0 clapref3_Pairs_o0) [.r [v0], .r [v1], .r [.int v2], .r [.int v3], .m v4, .m v5]
noncomputable def clapref3_Pairs_b0 (E : Env) (X : C → C → Int → Int → List (Row × Row) → List (Row × Row) → Option (Nat × List PV)) (v0 : C) (v1 : C) (v2 : Int) (v3 : Int) (v4 : List (Row × Row)) (v5 : List (Row × Row)) : Option (Nat × List PV) :=
 if (decide (v3 < v2)) = true then
 if (0 : Int) ≤ v3 ∧ v3 < (v1.rows.length : Int) then
 (clapref3_Pairs_l1 E v0 v1 v2 v3 (rowsAt v1.rows v3.toNat) 0 v4 v5).bind fun x7 =>
 match x7.1 with
 | 0 =>
 X (gC 0 x7.2) (gC 1 x7.2) (gI 2 x7.2) (Go.IntKind.i64.wrap ((gI 3 x7.2) + 1)) (gM 4 x7.2) (gM 5 x7.2)
 | i8 + 1 =>
 some (1, [.r [.int (gI 0 x7.2)]])
 else none
 else
 some (0, [])
theorem clapref3_Pairs_s0 (E : Env) (X : List PV → Option (Nat × List PV)) (v0 : C) (v1 : C) (v2 : Int) (v3 : Int) (v4 : List (Row × Row)) (v5 : List (Row × Row)) : stepOf E clapref3_Pairs_c0 clapref3_Pairs_h0 clapref3_Pairs_o0 X [.r [v0], .r [v1], .r [.int v2], .r [.int v3], .m v4, .m v5] = clapref3_Pairs_b0 E (fun (v0 : C) (v1 : C) (v2 : Int) (v3 : Int) (v4 : List (Row × Row)) (v5 : List (Row × Row)) => X [.r [v0], .r [v1], .r [.int v2], .r [.int v3], .m v4, .m v5]) v0 v1 v2 v3 v4 v5 := by kernel_rfl
def clapref3_Pairs_a : AFun := { ps := [(.one (.sl 87))], rs := [lI], res := [(false, 2, none)], body := (.seq (.region [] [oq 2 (.mov (.c lI [.int 0]))] false 0)
 (.seq (.seq (.region [] [oq 10 (.mov (.t 0)),
 oq 11 (.lenL (.t 10)),
 oq 12 (.icmp .eql (.t 11) (.c lI [.int 0]))] false 0)
 (.cond (.t 12) (.seq (.region [] [oq 2 (.mov (.c lI [.int 3]))] false 0)
 .ret)
 .skip))
 (.seq (.seq (.region [] [oq 13 (.mov (.t 0)),
 oq 14 (.lenL (.t 13)),
 oq 15 (.icmp .gtr (.t 14) (.c lI [.int 40]))] false 0)
 (.cond (.t 15) (.seq (.region [] [oq 2 (.mov (.c lI [.int 2]))] false 0)
 .ret)
 .skip))
 (.seq (.region [] [oq 16 (.mkm 0 lS lB),
 oq 17 (.mkm 1 lS lB),
 oq 18 (.bldA [none, none] [(0, 1, (.t 16)), (1, 1, (.t 17))]),
 oq 3 (.allocA 2 [none, none]),
 ⟨none, .stA 2 (.t 3) (.t 18), none, []⟩] false 3)
 (.seq (.seq (.region [] [oq 19 (.mov (.t 0)),
 oq 20 (.lenL (.t 19)),
 oq 21 (.mov (.c lI [.int 0]))] false 0)
 (.block 0 (.loop clapref3_Pairs_h0 clapref3_Pairs_o0 clapref3_Pairs_c0)))
 (.seq (.region [] [oq 2 (.mov (.c lI [.int 0]))] false 0)
 .ret)))))) }
/-- clapperbridge/clapref3.Pairs -/
noncomputable def clapref3_Pairs (E : Env) (p0 : C) : Option (List Row) :=
 if ((p0.rows.length : Int) == 0) = true then
 some [[.int 3]]
 else
 if (decide ((p0.rows.length : Int) > 40)) = true then
 some [[.int 2]]
 else
 (clapref3_Pairs_l0 E p0 p0 (p0.rows.length : Int) 0 [] []).bind fun x9 =>
 match x9.1 with
 | 0 =>
 some [[.int 0]]
 | i10 + 1 =>
 some [[.int (gI 0 x9.2)]]
theorem clapref3_Pairs_eq (E : Env) (p0 : C) : runP E clapref3_Pairs_a [[p0]] = clapref3_Pairs E p0 := by kernel_rfl

def clapref3_lists_a : AFun := { ps := [lA0], rs := [lI], res := [(false, 2, none)], body := (.seq (.region [] [oq 1 (.boxP lA0 29 (.t 0)),
 oq 2 (.mov (.c lI [.int 0]))] false 0)
 (.seq (.seq (.region [] [oq 4 (.fad 0 1 29 3 (.t 1)),
 oq 5 (.ld lI 3 (.t 4))] false 0)
 (.block 0 (.seq (.region [] [oq 7 (.icmp .eql (.t 5) (.c lI [.int 14])),
 oq 6 (.mov (.t 7))] false 0)
 (.cond (.t 6) (.seq (.seq (.region [] [oq 8 (.fad 3 1 29 22 (.t 1)),
 oq 9 (.ld (.one (.sl 9)) 22 (.t 8)),
 oq 10 (.lenL (.t 9)),
 oq 11 (.fad 13 1 29 27 (.t 1)),
 oq 12 (.ld (.one (.sl 29)) 27 (.t 11)),
 oq 13 (.lenL (.t 12)),
 oq 14 (.icmp .neq (.t 10) (.t 13))] false 0)
 (.cond (.t 14) (.seq (.region [] [oq 2 (.mov (.c lI [.int 3]))] false 0)
 .ret)
 .skip))
 (.seq (.region [] [oq 15 (.fad 3 1 29 22 (.t 1)),
 oq 16 (.ld (.one (.sl 9)) 22 (.t 15)),
 oq 17 (.call 40 [(.one (.sl 9))] [lI] [(.t 16)]),
 oq 2 (.mov (.t 17))] false 0)
 .ret))
 (.seq (.region [] [oq 19 (.icmp .eql (.t 5) (.c lI [.int 6])),
 oq 18 (.mov (.t 19))] false 0)
 (.cond (.t 18) (.seq (.region [] [oq 20 (.fad 3 1 29 22 (.t 1)),
 oq 21 (.ld (.one (.sl 9)) 22 (.t 20)),
 oq 22 (.call 40 [(.one (.sl 9))] [lI] [(.t 21)]),
 oq 2 (.mov (.t 22))] false 0)
 .ret)
 (.seq (.region [] [oq 24 (.icmp .eql (.t 5) (.c lI [.int 9])),
 oq 23 (.mov (.t 24))] false 0)
 (.cond (.t 23) (.seq (.seq (.region [] [oq 25 (.fad 3 1 29 22 (.t 1)),
 oq 26 (.ld (.one (.sl 9)) 22 (.t 25)),
 oq 27 (.lenL (.t 26)),
 oq 28 (.icmp .neq (.t 27) (.c lI [.int 2]))] false 0)
 (.cond (.t 28) (.seq (.region [] [oq 2 (.mov (.c lI [.int 3]))] false 0)
 .ret)
 .skip))
 (.seq (.seq (.region [] [oq 29 (.fad 3 1 29 22 (.t 1)),
 oq 30 (.ld (.one (.sl 9)) 22 (.t 29)),
 oq 31 (.iad 9 lS (.t 30) (.c lI [.int 0])),
 oq 32 (.ld lS 9 (.t 31)),
 oq 33 (.call 35 [lS] [lI] [(.t 32)]),
 oq 3 (.mov (.t 33))] false 0)
 (.seq (.region [] [oq 34 (.mov (.t 3)),
 oq 35 (.icmp .neq (.t 34) (.c lI [.int 0]))] false 0)
 (.cond (.t 35) (.seq (.region [] [oq 36 (.mov (.t 3)),
 oq 2 (.mov (.t 36))] false 0)
 .ret)
 .skip)))
 (.seq (.region [] [oq 37 (.fad 3 1 29 22 (.t 1)),
 oq 38 (.ld (.one (.sl 9)) 22 (.t 37)),
 oq 39 (.iad 9 lS (.t 38) (.c lI [.int 1])),
 oq 40 (.ld lS 9 (.t 39)),
 oq 41 (.call 35 [lS] [lI] [(.t 40)]),
 oq 2 (.mov (.t 41))] false 0)
 .ret)))
 (.seq (.region [] [oq 43 (.icmp .eql (.t 5) (.c lI [.int 11])),
 oq 42 (.mov (.t 43))] false 0)
 (.cond (.t 42) (.seq (.region [] [oq 44 (.fad 12 1 29 26 (.t 1)),
 oq 45 (.ld (.one (.sl 87)) 26 (.t 44)),
 oq 46 (.call 41 [(.one (.sl 87))] [lI] [(.t 45)]),
 oq 2 (.mov (.t 46))] false 0)
 .ret)
 (.seq (.region [] [oq 48 (.icmp .eql (.t 5) (.c lI [.int 12])),
 oq 47 (.mov (.t 48))] false 0)
 (.cond (.t 47) (.seq (.region [] [oq 49 (.fad 5 1 29 3 (.t 1)),
 oq 50 (.ld lI 3 (.t 49)),
 oq 51 (.icmp .leq (.c lI [.int 0]) (.t 50)),
 oq 52 (.mov (.t 51)),
 ⟨some 53, .fad 5 1 29 3 (.t 1), some (52, true), []⟩,
 ⟨some 54, .ld lI 3 (.t 53), some (52, true), []⟩,
 ⟨some 55, .fad 6 1 29 3 (.t 1), some (52, true), []⟩,
 ⟨some 56, .ld lI 3 (.t 55), some (52, true), []⟩,
 ⟨some 57, .icmp .leq (.t 54) (.t 56), some (52, true), []⟩,
 oq 58 (.pick (.t 52) (.t 57) (.c lB [.bool false])),
 oq 59 (.mov (.t 58)),
 ⟨some 60, .fad 6 1 29 3 (.t 1), some (59, true), []⟩,
 ⟨some 61, .ld lI 3 (.t 60), some (59, true), []⟩,
 ⟨some 62, .icmp .leq (.t 61) (.c lI [.int 999999999]), some (59, true), []⟩,
 oq 63 (.pick (.t 59) (.t 62) (.c lB [.bool false])),
 oq 64 (.not (.t 63))] false 0)
 (.cond (.t 64) (.seq (.region [] [oq 2 (.mov (.c lI [.int 11]))] false 0)
 .ret)
 .skip))
 .skip))))))))))))
 (.seq (.region [] [oq 2 (.mov (.c lI [.int 0]))] false 0)
 .ret))) }
/-- clapperbridge/clapref3.lists -/
noncomputable def clapref3_lists (E : Env) (p0 : Row) : Option (List Row) :=
 if (((at_ p0 0).toI) == 14) = true then
 if ((((at_ p0 3).rows).length : Int) != (((at_ p0 13).rows).length : Int)) = true then
 some [[.int 3]]
 else
 (E.pc n_clapref3_distinct [[at_ p0 3]]).bind fun y1 =>
 some [[.int ((at_ (rowsAt y1 0) 0).toI)]]
 else
 if (((at_ p0 0).toI) == 6) = true then
 (E.pc n_clapref3_distinct [[at_ p0 3]]).bind fun y2 =>
 some [[.int ((at_ (rowsAt y2 0) 0).toI)]]
 else
 if (((at_ p0 0).toI) == 9) = true then
 if ((((at_ p0 3).rows).length : Int) != 2) = true then
 some [[.int 3]]
 else
 if (0 : Int) ≤ 0 ∧ 0 < (((at_ p0 3).rows).length : Int) then
 (E.pc n_pattern_Check [[.str ((at_ (rowsAt ((at_ p0 3).rows) 0) 0).toS)]]).bind fun y3 =>
 if (((at_ (rowsAt y3 0) 0).toI) != 0) = true then
 some [[.int ((at_ (rowsAt y3 0) 0).toI)]]
 else
 if (0 : Int) ≤ 1 ∧ 1 < (((at_ p0 3).rows).length : Int) then
 (E.pc n_pattern_Check [[.str ((at_ (rowsAt ((at_ p0 3).rows) 1) 0).toS)]]).bind fun y4 =>
 some [[.int ((at_ (rowsAt y4 0) 0).toI)]]
 else none
 else none
 else
 if (((at_ p0 0).toI) == 11) = true then
 (E.pc n_clapref3_Pairs [[at_ p0 12]]).bind fun y5 =>
 some [[.int ((at_ (rowsAt y5 0) 0).toI)]]
 else
 if (((at_ p0 0).toI) == 12) = true then
 let K6 : Bool → Option (List Row) := fun q7 =>
 let K8 : Bool → Option (List Row) := fun q9 =>
 if (!q9) = true then
 some [[.int 11]]
 else
 some [[.int 0]]
 if q7 = true then
 K8 (decide (((at_ p0 6).toI) ≤ 999999999))
 else
 K8 false
 if (decide (0 ≤ ((at_ p0 5).toI))) = true then
 K6 (decide (((at_ p0 5).toI) ≤ ((at_ p0 6).toI)))
 else
 K6 false
 else
 some [[.int 0]]
theorem clapref3_lists_eq (E : Env) (p0 : Row) : runP E clapref3_lists_a [p0] = clapref3_lists E p0 := by kernel_rfl
end Go.Ev
