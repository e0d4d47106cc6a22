/-
  A part of the proof: what the functions of the program compute.
-/
import Derived.Test.YtgiibefjiloafaaGreatDoorZNum
set_option linter.all false
set_option maxRecDepth 100000
namespace Go.Ev
def typing_Of_h0:Shape:={slots:=[(0, .d (.one (.sl 64))),(5, .ptr 0 0),(6, .ptr 1 0),(23, .d (.one (.sl 44))),(24, .d lI),(25, .d lI)],objs:=[oS0, .var lA1]}
def typing_Of_o0:List (Exit'×Shape):=[(.exit 1,{slots:=[(5, .ptr 0 0),(6, .ptr 1 0)],objs:=[oS0, .var lA1]}),(.ret,{slots:=[(6, .ptr 0 0),(7, .d lI)],objs:=[.var lA1]})]
def typing_Of_c0:ACode:=(.seq (.region [] [oq 26 (.icmp .lss (.t 25) (.t 24))] false 0)
 (.seq (.cond (.t 26) .skip
 (.exit 1))
 (.seq (.block 2 (.seq (.region [] [oq 27 (.iad 44 lA6 (.t 23) (.t 25)),
 oq 28 (.ld lA6 44 (.t 27)),
 oq 9 (.allocO 0 lA6 [.int 0, .str [], .str [], .nils, .int 0, .int 0, .int 0, .int 0, .int 0, .int 0, .str [], .nils, .nils, .nils]),
 ⟨none, .st lA6 (.t 9) (.t 28),none,[]⟩] false 1)
 (.seq (.region [] [oq 30 (.mov (.t 0)),
 oq 31 (.ld lA6 44 (.t 9)),
 oq 32 (.ldA 6 (.t 5)),
 oq 33 (.call 21 [(.one (.sl 64)),lA6,lA1] [lA1,lI] [(.t 30),(.t 31),(.t 32)]),
 oq 29 (.mov (.t 33)),
 oq 34 (.ext 0 (.t 29)),
 oq 35 (.ext 1 (.t 29)),
 oq 10 (.allocA 0 [some ((.int .i64), .int 0),some ((.str), .str []),some ((.int .i64), .int 0),some ((.int .i64), .int 0),some ((.str), .str []),some ((.sl 55), .nils)]),
 ⟨none, .stA 6 (.t 10) (.t 34),none,[]⟩,
 oq 11 (.mov (.t 35))] false 1)
 (.seq (.seq (.region [] [oq 36 (.mov (.t 11)),
 oq 37 (.icmp .neq (.t 36) (.c lI [.int 0]))] false 0)
 (.cond (.t 37) (.seq (.region [] [oq 38 (.bld lA1 [.int 0, .str [], .int 0, .int 0, .str [], .nils] []),
 oq 39 (.mov (.t 11)),
 ⟨none, .st lA1 (.t 6) (.t 38),none,[]⟩,
 oq 7 (.mov (.t 39))] false 0)
 .ret)
 .skip))
 (.region [] [oq 40 (.ldA 6 (.t 10)),
 ⟨none, .stA 6 (.t 5) (.t 40),none,[]⟩] false 0)))))
 (.region [] [oq 41 (.ibin .add (.t 25) (.c lI [.int 1])),
 oq 25 (.mov (.t 41))] false 0))))
def typing_Of_a:AFun:={ps:=[(.one (.sl 64)),lA6,lA1],rs:=[lA1,lI],res:=[(true,6,none),(false,7,none)],body:=(.seq (.region [] [oq 4 (.boxP lA6 44 (.t 1)),
 oq 5 (.boxA 0 (.t 2)),
 oq 6 (.allocO 1 lA1 [.int 0, .str [], .int 0, .int 0, .str [], .nils]),
 oq 7 (.mov (.c lI [.int 0]))] false 2)
 (.seq (.seq (.region [] [oq 14 (.fad 0 1 44 3 (.t 4)),
 oq 15 (.ld lI 3 (.t 14))] false 0)
 (.block 0 (.seq (.region [] [oq 17 (.icmp .eql (.t 15) (.c lI [.int 0])),
 oq 16 (.mov (.t 17))] false 0)
 (.cond (.t 16) (.seq (.region [] [oq 18 (.ldA 6 (.t 5)),
 oq 19 (.icall 237 35 (typing_copyType_i20_en) (typing_copyType_i20_ex) [] 0 none [(.t 18)]),
 ⟨none, .st lA1 (.t 6) (.t 19),none,[]⟩,
 oq 7 (.mov (.c lI [.int 0]))] false 0)
 .ret)
 (.seq (.region [] [oq 21 (.icmp .eql (.t 15) (.c lI [.int 1])),
 oq 20 (.mov (.t 21))] false 0)
 (.cond (.t 20) (.seq (.seq (.region [] [oq 22 (.fad 13 1 44 42 (.t 4)),
 oq 23 (.ld (.one (.sl 44)) 42 (.t 22)),
 oq 24 (.lenL (.t 23)),
 oq 25 (.mov (.c lI [.int 0]))] false 0)
 (.block 1 (.loop typing_Of_h0 typing_Of_o0 typing_Of_c0)))
 (.seq (.region [] [oq 42 (.ldA 6 (.t 5)),
 ⟨none, .st lA1 (.t 6) (.t 42),none,[]⟩,
 oq 7 (.mov (.c lI [.int 0]))] false 0)
 .ret))
 (.seq (.region [] [oq 44 (.icmp .eql (.t 15) (.c lI [.int 16])),
 oq 43 (.mov (.t 44))] false 0)
 (.cond (.t 43) (.seq (.region [] [oq 45 (.fad 1 1 44 9 (.t 4)),
 ⟨some 46, .ld lS 9 (.t 45),none,[0]⟩,
 oq 47 (.ldA 6 (.t 5)),
 ⟨some 48, .icall 237 35 (typing_copyType_i20_en) (typing_copyType_i20_ex) [] 0 none [(.t 47)],none,[2]⟩,
 ⟨some 49, .bld lA0 [.str [], .int 0, .str [], .int 0, .int 0, .str [], .nils] [(0,1,(.t 46)),(1,6,(.t 48))],none,[0,1,2,3]⟩,
 ⟨some 50, .bsl 55 lA0 1 [.str [], .int 0, .str [], .int 0, .int 0, .str [], .nils] [(0,(.t 49))],none,[0,1,2,3,4]⟩,
 ⟨some 51, .bld lA1 [.int 0, .str [], .int 0, .int 0, .str [], .nils] [(0,1,(.c lI [.int 7])),(5,1,(.t 50))],none,[0,1,2,3,4,5]⟩,
 ⟨none, .st lA1 (.t 6) (.t 51),none,[0,1,2,3,4,5,6]⟩,
 ⟨some 7, .mov (.c lI [.int 0]),none,[0,1,2,3,4,5,6,7]⟩] true 0)
 .ret)
 .skip))))))))
 (.seq (.region [] [oq 53 (.mov (.t 0)),
 oq 54 (.ldA 6 (.t 5)),
 oq 55 (.icall 238 36 (types_Resolve_i21_en) (types_Resolve_i21_ex) [] 0 none [(.t 53),(.t 54)]),
 oq 52 (.mov (.t 55)),
 oq 56 (.ext 0 (.t 52)),
 oq 57 (.ext 1 (.t 52)),
 oq 12 (.allocA 0 [some ((.int .i64), .int 0),some ((.str), .str []),some ((.int .i64), .int 0),some ((.int .i64), .int 0),some ((.str), .str []),some ((.sl 55), .nils)]),
 ⟨none, .stA 6 (.t 12) (.t 56),none,[]⟩,
 oq 13 (.mov (.t 57))] false 1)
 (.seq (.seq (.region [] [oq 58 (.mov (.t 13)),
 oq 59 (.icmp .neq (.t 58) (.c lI [.int 0]))] false 0)
 (.cond (.t 59) (.seq (.region [] [oq 60 (.bld lA1 [.int 0, .str [], .int 0, .int 0, .str [], .nils] []),
 oq 61 (.mov (.t 13)),
 ⟨none, .st lA1 (.t 6) (.t 60),none,[]⟩,
 oq 7 (.mov (.t 61))] false 0)
 .ret)
 .skip))
 (.seq (.seq (.region [] [oq 62 (.fad 0 1 44 3 (.t 4)),
 oq 63 (.ld lI 3 (.t 62))] false 0)
 (.join [(.normal,{slots:=[(0, .d (.one (.sl 64))),(4, .d (.one (.ref 44))),(6, .ptr 0 0),(12, .ptr 1 0)],objs:=[.var lA1,oS0]})] (.block 3 (.seq (.seq (.region [] [oq 65 (.icmp .eql (.t 63) (.c lI [.int 3])),
 oq 64 (.mov (.t 65))] false 0)
 (.join [(.normal,{slots:=[(0, .d (.one (.sl 64))),(4, .d (.one (.ref 44))),(6, .ptr 0 0),(12, .ptr 1 0),(63, .d lI),(64, .d lB)],objs:=[.var lA1,oS0]})] (.cond (.t 64) .skip
 (.seq (.region [] [oq 66 (.icmp .eql (.t 63) (.c lI [.int 14])),
 oq 64 (.mov (.t 66))] false 0)
 (.cond (.t 64) .skip
 (.seq (.region [] [oq 67 (.icmp .eql (.t 63) (.c lI [.int 17])),
 oq 64 (.mov (.t 67))] false 0)
 (.cond (.t 64) .skip
 (.region [] [oq 68 (.icmp .eql (.t 63) (.c lI [.int 18])),
 oq 64 (.mov (.t 68))] false 0))))))))
 (.cond (.t 64) (.seq (.region [] [oq 69 (.mov (.t 0)),
 oq 70 (.ld lA6 44 (.t 4)),
 oq 71 (.ldA 6 (.t 12)),
 oq 72 (.bad),
 oq 73 (.bad),
 oq 74 (.bad),
 ⟨none, .bad,none,[]⟩,
 oq 7 (.bad)] false 0)
 .ret)
 (.seq (.seq (.region [] [oq 76 (.icmp .eql (.t 63) (.c lI [.int 11])),
 oq 75 (.mov (.t 76))] false 0)
 (.join [(.normal,{slots:=[(0, .d (.one (.sl 64))),(4, .d (.one (.ref 44))),(6, .ptr 0 0),(12, .ptr 1 0),(63, .d lI),(75, .d lB)],objs:=[.var lA1,oS0]})] (.cond (.t 75) .skip
 (.region [] [oq 77 (.icmp .eql (.t 63) (.c lI [.int 12])),
 oq 75 (.mov (.t 77))] false 0))))
 (.cond (.t 75) (.seq (.region [] [oq 78 (.mov (.t 0)),
 oq 79 (.ld lA6 44 (.t 4)),
 oq 80 (.ldA 6 (.t 12)),
 oq 81 (.bad),
 oq 82 (.bad),
 oq 83 (.bad),
 ⟨none, .bad,none,[]⟩,
 oq 7 (.bad)] false 0)
 .ret)
 (.seq (.seq (.region [] [oq 85 (.icmp .eql (.t 63) (.c lI [.int 13])),
 oq 84 (.mov (.t 85))] false 0)
 (.cond (.t 84) .skip
 (.region [] [oq 86 (.icmp .eql (.t 63) (.c lI [.int 15])),
 oq 84 (.mov (.t 86))] false 0)))
 (.cond (.t 84) (.seq (.region [] [oq 87 (.mov (.t 0)),
 oq 88 (.ld lA6 44 (.t 4)),
 oq 89 (.ldA 6 (.t 12)),
 oq 90 (.bad),
 oq 91 (.bad),
 oq 92 (.bad),
 ⟨none, .bad,none,[]⟩,
 oq 7 (.bad)] false 0)
 .ret)
 .skip)))))))))
 (.seq (.seq (.region [] [oq 93 (.fad 0 1 26 3 (.t 12)),
 oq 94 (.ldC (.t 93)),
 oq 95 (.icmp .neq (.t 94) (.c lI [.int 6]))] false 0)
 (.cond (.t 95) (.seq (.region [] [oq 96 (.bld lA1 [.int 0, .str [], .int 0, .int 0, .str [], .nils] []),
 ⟨none, .st lA1 (.t 6) (.t 96),none,[]⟩,
 oq 7 (.mov (.c lI [.int 8]))] false 0)
 .ret)
 .skip))
 (.seq (.region [] [oq 97 (.mov (.t 0)),
 oq 98 (.ld lA6 44 (.t 4)),
 oq 99 (.ldA 6 (.t 12)),
 oq 100 (.icall 242 40 (typing_fields_i25_en) (typing_fields_i25_ex) [] 0 none [(.t 97),(.t 98),(.t 99)]),
 oq 101 (.ext 0 (.t 100)),
 oq 102 (.ext 1 (.t 100)),
 ⟨none, .st lA1 (.t 6) (.t 101),none,[]⟩,
 oq 7 (.mov (.t 102))] false 0)
 .ret)))))))}
def typing_View_a:AFun:={ps:=[(.one (.sl 64)),lA6,lA1],rs:=[lA1,lI],res:=[(true,6,none),(false,7,none)],body:=(.seq (.region [] [oq 4 (.boxP lA6 44 (.t 1)),
 oq 5 (.boxP lA1 26 (.t 2)),
 oq 6 (.allocO 0 lA1 [.int 0, .str [], .int 0, .int 0, .str [], .nils]),
 oq 7 (.mov (.c lI [.int 0]))] false 1)
 (.seq (.seq (.region [] [oq 13 (.mov (.t 0)),
 oq 14 (.call 19 [(.one (.sl 64))] [lI] [(.t 13)]),
 oq 8 (.mov (.t 14))] false 0)
 (.seq (.region [] [oq 15 (.mov (.t 8)),
 oq 16 (.icmp .neq (.t 15) (.c lI [.int 0]))] false 0)
 (.cond (.t 16) (.seq (.region [] [oq 17 (.bld lA1 [.int 0, .str [], .int 0, .int 0, .str [], .nils] []),
 oq 18 (.mov (.t 8)),
 ⟨none, .st lA1 (.t 6) (.t 17),none,[]⟩,
 oq 7 (.mov (.t 18))] false 0)
 .ret)
 .skip)))
 (.seq (.seq (.region [] [oq 19 (.mov (.t 0)),
 oq 20 (.ld lA1 26 (.t 5)),
 oq 21 (.call 13 [(.one (.sl 64)),lA1] [lI] [(.t 19),(.t 20)]),
 oq 9 (.mov (.t 21))] false 0)
 (.seq (.region [] [oq 22 (.mov (.t 9)),
 oq 23 (.icmp .neq (.t 22) (.c lI [.int 0]))] false 0)
 (.cond (.t 23) (.seq (.region [] [oq 24 (.bld lA1 [.int 0, .str [], .int 0, .int 0, .str [], .nils] []),
 oq 25 (.mov (.t 9)),
 ⟨none, .st lA1 (.t 6) (.t 24),none,[]⟩,
 oq 7 (.mov (.t 25))] false 0)
 .ret)
 .skip)))
 (.seq (.seq (.region [] [oq 26 (.ld lA6 44 (.t 4)),
 oq 27 (.call 20 [lA6] [lI] [(.t 26)]),
 oq 10 (.mov (.t 27))] false 0)
 (.seq (.region [] [oq 28 (.mov (.t 10)),
 oq 29 (.icmp .neq (.t 28) (.c lI [.int 0]))] false 0)
 (.cond (.t 29) (.seq (.region [] [oq 30 (.bld lA1 [.int 0, .str [], .int 0, .int 0, .str [], .nils] []),
 oq 31 (.mov (.t 10)),
 ⟨none, .st lA1 (.t 6) (.t 30),none,[]⟩,
 oq 7 (.mov (.t 31))] false 0)
 .ret)
 .skip)))
 (.seq (.region [] [oq 33 (.mov (.t 0)),
 oq 34 (.ld lA6 44 (.t 4)),
 oq 35 (.ld lA1 26 (.t 5)),
 oq 36 (.call 21 [(.one (.sl 64)),lA6,lA1] [lA1,lI] [(.t 33),(.t 34),(.t 35)]),
 oq 32 (.mov (.t 36)),
 oq 37 (.ext 0 (.t 32)),
 oq 38 (.ext 1 (.t 32)),
 oq 11 (.allocO 0 lA1 [.int 0, .str [], .int 0, .int 0, .str [], .nils]),
 ⟨none, .st lA1 (.t 11) (.t 37),none,[]⟩,
 oq 12 (.mov (.t 38))] false 1)
 (.seq (.seq (.region [] [oq 39 (.mov (.t 12)),
 oq 40 (.icmp .neq (.t 39) (.c lI [.int 0]))] false 0)
 (.cond (.t 40) (.seq (.region [] [oq 41 (.bld lA1 [.int 0, .str [], .int 0, .int 0, .str [], .nils] []),
 oq 42 (.mov (.t 12)),
 ⟨none, .st lA1 (.t 6) (.t 41),none,[]⟩,
 oq 7 (.mov (.t 42))] false 0)
 .ret)
 .skip))
 (.seq (.seq (.region [] [oq 43 (.mov (.t 0)),
 oq 44 (.ld lA1 26 (.t 11)),
 oq 45 (.call 13 [(.one (.sl 64)),lA1] [lI] [(.t 43),(.t 44)]),
 oq 46 (.icmp .neq (.t 45) (.c lI [.int 0]))] false 0)
 (.cond (.t 46) (.seq (.region [] [oq 47 (.bld lA1 [.int 0, .str [], .int 0, .int 0, .str [], .nils] []),
 ⟨none, .st lA1 (.t 6) (.t 47),none,[]⟩,
 oq 7 (.mov (.c lI [.int 2]))] false 0)
 .ret)
 .skip))
 (.seq (.region [] [oq 48 (.ld lA1 26 (.t 11)),
 ⟨none, .st lA1 (.t 6) (.t 48),none,[]⟩,
 oq 7 (.mov (.c lI [.int 0]))] false 0)
 .ret))))))))}
def claplaw3_num_a:AFun:={ps:=[lI],rs:=[lA8],res:=[(true,2,none)],body:=(.seq (.region [] [oq 2 (.allocO 0 lA8 [.int 0, .int 0, .str [], .nils])] false 1)
 (.seq (.region [] [oq 3 (.mov (.t 0)),
 oq 4 (.bld lA8 [.int 0, .int 0, .str [], .nils] [(0,1,(.c lI [.int 2])),(1,1,(.t 3))]),
 ⟨none, .st lA8 (.t 2) (.t 4),none,[]⟩] false 0)
 .ret))}
noncomputable def claplaw3_num (E:Env) (p0:Int):Option (List Row):=
 some [[.int 2, .int p0, .str [], .nils]]
theorem claplaw3_num_eq (E:Env) (p0:Int):runP E claplaw3_num_a [[.int p0]]=claplaw3_num E p0:=by kernel_rfl
def claplaw3_drop_a:AFun:={ps:=[],rs:=[lA6],res:=[(true,0,none)],body:=(.seq (.region [] [oq 0 (.allocO 0 lA6 [.int 0, .str [], .str [], .nils, .int 0, .int 0, .int 0, .int 0, .int 0, .int 0, .str [], .nils, .nils, .nils])] false 1)
 (.seq (.region [] [oq 1 (.call 7 [lI] [lA8] [(.c lI [.int 7])]),
 oq 2 (.bld lA6 [.int 0, .str [], .str [], .nils, .int 0, .int 0, .int 0, .int 0, .int 0, .int 0, .str [], .nils, .nils, .nils] [(0,1,(.c lI [.int 4])),(1,1,(.c lS [.str ([98]:List UInt8)])),(8,4,(.t 1))]),
 ⟨none, .st lA6 (.t 0) (.t 2),none,[]⟩] false 0)
 .ret))}
def claplaw3_digit_a:AFun:={ps:=[],rs:=[lA1],res:=[(true,0,none)],body:=(.seq (.region [] [oq 0 (.allocO 0 lA1 [.int 0, .str [], .int 0, .int 0, .str [], .nils])] false 1)
 (.seq (.region [] [oq 1 (.bld lA1 [.int 0, .str [], .int 0, .int 0, .str [], .nils] [(0,1,(.c lI [.int 2])),(3,1,(.c lI [.int 9]))]),
 ⟨none, .st lA1 (.t 0) (.t 1),none,[]⟩] false 0)
 .ret))}
noncomputable def claplaw3_digit (E:Env):Option (List Row):=
 some [[.int 2, .str [], .int 0, .int 9, .str [], .nils]]
theorem claplaw3_digit_eq (E:Env):runP E claplaw3_digit_a []=claplaw3_digit E:=by kernel_rfl
def claplaw3_pair_a:AFun:={ps:=[],rs:=[lA1],res:=[(true,0,none)],body:=(.seq (.region [] [oq 0 (.allocO 0 lA1 [.int 0, .str [], .int 0, .int 0, .str [], .nils])] false 1)
 (.seq (.region [] [oq 1 (.call 6 [] [lA1] []),
 oq 2 (.bld lA0 [.str [], .int 0, .str [], .int 0, .int 0, .str [], .nils] [(0,1,(.c lS [.str ([97]:List UInt8)])),(1,6,(.t 1))]),
 oq 3 (.call 6 [] [lA1] []),
 oq 4 (.bld lA0 [.str [], .int 0, .str [], .int 0, .int 0, .str [], .nils] [(0,1,(.c lS [.str ([98]:List UInt8)])),(1,6,(.t 3))]),
 oq 5 (.bsl 55 lA0 2 [.str [], .int 0, .str [], .int 0, .int 0, .str [], .nils] [(0,(.t 2)),(1,(.t 4))]),
 oq 6 (.bld lA1 [.int 0, .str [], .int 0, .int 0, .str [], .nils] [(0,1,(.c lI [.int 6])),(5,1,(.t 5))]),
 ⟨none, .st lA1 (.t 0) (.t 6),none,[]⟩] false 0)
 .ret))}
def claplaw3_viewed_a:AFun:={ps:=[],rs:=[lB],res:=[(false,0,none)],body:=(.seq (.region [] [oq 0 (.mov (.c lB [.bool false]))] false 0)
 (.seq (.region [] [oq 4 (.call 11 [] [lA6] []),
 oq 5 (.call 12 [] [lA1] []),
 oq 6 (.call 10 [(.one (.sl 64)),lA6,lA1] [lA1,lI] [(.c (.one (.sl 64)) [.nils]),(.t 4),(.t 5)]),
 oq 3 (.mov (.t 6)),
 oq 7 (.ext 0 (.t 3)),
 oq 8 (.ext 1 (.t 3)),
 oq 1 (.allocO 0 lA1 [.int 0, .str [], .int 0, .int 0, .str [], .nils]),
 ⟨none, .st lA1 (.t 1) (.t 7),none,[]⟩,
 oq 2 (.mov (.t 8))] false 1)
 (.seq (.region [] [oq 9 (.mov (.t 2)),
 oq 10 (.icmp .eql (.t 9) (.c lI [.int 0])),
 oq 11 (.mov (.t 10)),
 ⟨some 12, .fad 5 1 26 24 (.t 1),some (11,true),[]⟩,
 ⟨some 13, .ld (.one (.sl 55)) 24 (.t 12),some (11,true),[]⟩,
 ⟨some 14, .lenL (.t 13),some (11,true),[]⟩,
 ⟨some 15, .icmp .eql (.t 14) (.c lI [.int 1]),some (11,true),[]⟩,
 oq 16 (.pick (.t 11) (.t 15) (.c lB [.bool false])),
 oq 17 (.mov (.t 16)),
 ⟨some 18, .fad 0 1 26 3 (.t 1),some (17,true),[]⟩,
 ⟨some 19, .ld lI 3 (.t 18),some (17,true),[]⟩,
 ⟨some 20, .icmp .eql (.t 19) (.c lI [.int 6]),some (17,true),[]⟩,
 oq 21 (.pick (.t 17) (.t 20) (.c lB [.bool false])),
 oq 0 (.mov (.t 21))] false 0)
 .ret)))}
def typing_Has_a:AFun:={ps:=[(.one (.sl 64)),lA1,lA8],rs:=[lB],res:=[(false,6,none)],body:=(.seq (.region [] [oq 4 (.boxP lA1 26 (.t 1)),
 oq 5 (.boxP lA8 29 (.t 2)),
 oq 6 (.mov (.c lB [.bool false]))] false 0)
 (.seq (.seq (.region [] [oq 10 (.ld lA8 29 (.t 5)),
 oq 11 (.call 9 [lA8] [lI] [(.t 10)]),
 oq 12 (.icmp .neq (.t 11) (.c lI [.int 0]))] false 0)
 (.cond (.t 12) (.seq (.region [] [oq 6 (.mov (.c lB [.bool false]))] false 0)
 .ret)
 .skip))
 (.seq (.region [] [oq 14 (.mov (.t 0)),
 oq 15 (.ld lA1 26 (.t 4)),
 oq 16 (.ld lA8 29 (.t 5)),
 oq 17 (.call 8 [(.one (.sl 64)),lA1,lA8] [lB,(.one (.sl 9)),lI] [(.t 14),(.t 15),(.t 16)]),
 oq 13 (.mov (.t 17)),
 oq 18 (.ext 0 (.t 13)),
 oq 19 (.ext 1 (.t 13)),
 oq 20 (.ext 2 (.t 13)),
 oq 7 (.mov (.t 18)),
 oq 8 (.mov (.t 19)),
 oq 9 (.mov (.t 20))] false 0)
 (.seq (.region [] [oq 21 (.mov (.t 7)),
 oq 22 (.mov (.t 21)),
 ⟨some 23, .mov (.t 9),some (22,true),[]⟩,
 ⟨some 24, .icmp .eql (.t 23) (.c lI [.int 0]),some (22,true),[]⟩,
 oq 25 (.pick (.t 22) (.t 24) (.c lB [.bool false])),
 oq 6 (.mov (.t 25))] false 0)
 .ret))))}
noncomputable def typing_Has (E:Env) (p0:C) (p1:Row) (p2:Row):Option (List Row):=
 (E.pc n_value_Check [p2]).bind fun y1=>
 if (((at_ (rowsAt y1 0) 0).toI) !=0)=true then
 some [[.bool false]]
 else
 (E.pc n_types_Has [[p0],p1,p2]).bind fun y2=>
 let K3:Bool→Option (List Row):=fun q4=>
 some [[.bool q4]]
 if ((at_ (rowsAt y2 0) 0).toB)=true then
 K3 (((at_ (rowsAt y2 2) 0).toI)==0)
 else
 K3 false
theorem typing_Has_eq (E:Env) (p0:C) (p1:Row) (p2:Row):runP E typing_Has_a [[p0],p1,p2]=typing_Has E p0 p1 p2:=by kernel_rfl
def claplaw3_TypingHas_a:AFun:={ps:=[(.one (.sl 64)),lA1,lA8],rs:=[lB],res:=[(false,6,none)],body:=(.seq (.region [] [oq 4 (.boxP lA1 26 (.t 1)),
 oq 5 (.boxP lA8 29 (.t 2)),
 oq 6 (.mov (.c lB [.bool false]))] false 0)
 (.seq (.seq (.join [(.normal,{slots:=[(0, .d (.one (.sl 64))),(4, .d (.one (.ref 26))),(5, .d (.one (.ref 29))),(17, .d lB)],objs:=[]})] (.region [] [oq 10 (.call 4 [] [lB] []),
 oq 11 (.not (.t 10)),
 oq 12 (.mov (.t 11)),
 ⟨some 13, .call 6 [] [lA1] [],some (12,false),[]⟩,
 ⟨some 14, .call 7 [lI] [lA8] [(.c lI [.int 3])],some (12,false),[]⟩,
 ⟨some 15, .call 5 [(.one (.sl 64)),lA1,lA8] [lB] [(.c (.one (.sl 64)) [.nils]),(.t 13),(.t 14)],some (12,false),[]⟩,
 ⟨some 16, .not (.t 15),some (12,false),[]⟩,
 oq 17 (.pick (.t 12) (.c lB [.bool true]) (.t 16))] false 0))
 (.cond (.t 17) (.seq (.region [] [oq 6 (.mov (.c lB [.bool false]))] false 0)
 .ret)
 .skip))
 (.seq (.region [] [oq 19 (.mov (.t 0)),
 oq 20 (.ld lA1 26 (.t 4)),
 oq 21 (.ld lA8 29 (.t 5)),
 oq 22 (.call 8 [(.one (.sl 64)),lA1,lA8] [lB,(.one (.sl 9)),lI] [(.t 19),(.t 20),(.t 21)]),
 oq 18 (.mov (.t 22)),
 oq 23 (.ext 0 (.t 18)),
 oq 24 (.ext 1 (.t 18)),
 oq 25 (.ext 2 (.t 18)),
 oq 7 (.mov (.t 23)),
 oq 8 (.mov (.t 24)),
 oq 9 (.mov (.t 25))] false 0)
 (.seq (.region [] [oq 26 (.mov (.t 0)),
 oq 27 (.ld lA1 26 (.t 4)),
 oq 28 (.ld lA8 29 (.t 5)),
 ⟨some 29, .call 5 [(.one (.sl 64)),lA1,lA8] [lB] [(.t 26),(.t 27),(.t 28)],none,[0,1,2]⟩,
 oq 30 (.ld lA8 29 (.t 5)),
 ⟨some 31, .call 9 [lA8] [lI] [(.t 30)],none,[0,1,2,3,4]⟩,
 ⟨some 32, .icmp .eql (.t 31) (.c lI [.int 0]),none,[0,1,2,3,4,5]⟩,
 ⟨some 33, .mov (.t 32),none,[0,1,2,3,4,5,6]⟩,
 ⟨some 34, .mov (.t 7),some (33,true),[0,1,2,3,4,5,6,7]⟩,
 ⟨some 35, .pick (.t 33) (.t 34) (.c lB [.bool false]),none,[0,1,2,3,4,5,6,7,8]⟩,
 ⟨some 36, .mov (.t 35),none,[0,1,2,3,4,5,6,7,8,9]⟩,
 ⟨some 37, .mov (.t 9),some (36,true),[0,1,2,3,4,5,6,7,8,9,10]⟩,
 ⟨some 38, .icmp .eql (.t 37) (.c lI [.int 0]),some (36,true),[0,1,2,3,4,5,6,7,8,9,10,11]⟩,
 ⟨some 39, .pick (.t 36) (.t 38) (.c lB [.bool false]),none,[0,1,2,3,4,5,6,7,8,9,10,11,12]⟩,
 ⟨some 40, .bcmp false (.t 29) (.t 39),none,[0,1,2,3,4,5,6,7,8,9,10,11,12,13]⟩,
 ⟨some 6, .mov (.t 40),none,[0,1,2,3,4,5,6,7,8,9,10,11,12,13,14]⟩] true 0)
 .ret))))}
noncomputable def claplaw3_TypingHas (E:Env) (p0:C) (p1:Row) (p2:Row):Option (List Row):=
 ((E.pc n_claplaw3_viewed []).bind fun y1=>
 let K2:Bool→Option (Nat×List PV):=fun q3=>
 some (0,[.r [p0], .r [.dp p1], .r [.dp p2], .r [.bool q3]])
 if (!((at_ (rowsAt y1 0) 0).toB))=true then
 K2 true
 else
 (E.pc n_claplaw3_digit []).bind fun y4=>
 (E.pc n_claplaw3_num [[.int 3]]).bind fun y5=>
 (E.pc n_typing_Has [[.nils],rowsAt y4 0,rowsAt y5 0]).bind fun y6=>
 K2 (!((at_ (rowsAt y6 0) 0).toB))).bind fun x7=>
 if (gB 3 x7.2)=true then
 some [[.bool false]]
 else
 if (gC 1 x7.2).isDp=true then
 if (gC 2 x7.2).isDp=true then
 (E.pc n_types_Has [[gC 0 x7.2],(gC 1 x7.2).dpRow,(gC 2 x7.2).dpRow]).bind fun y8=>
 if (gC 1 x7.2).isDp=true then
 if (gC 2 x7.2).isDp=true then
 (E.pc n_typing_Has [[gC 0 x7.2],(gC 1 x7.2).dpRow,(gC 2 x7.2).dpRow]).bind fun y9=>
 if (gC 2 x7.2).isDp=true then
 (E.pc n_value_Check [(gC 2 x7.2).dpRow]).bind fun y10=>
 let K11:Bool→Option (List Row):=fun q12=>
 let K13:Bool→Option (List Row):=fun q14=>
 some [[.bool (((at_ (rowsAt y9 0) 0).toB)==q14)]]
 if q12=true then
 K13 (((at_ (rowsAt y8 2) 0).toI)==0)
 else
 K13 false
 if (((at_ (rowsAt y10 0) 0).toI)==0)=true then
 K11 ((at_ (rowsAt y8 0) 0).toB)
 else
 K11 false
 else none
 else none
 else none
 else none
 else none
theorem claplaw3_TypingHas_eq (E:Env) (p0:C) (p1:Row) (p2:Row):runP E claplaw3_TypingHas_a [[p0],p1,p2]=claplaw3_TypingHas E p0 p1 p2:=by kernel_rfl
end Go.Ev
