/-
  Numerals of base 16, for one byte.
-/
import Derived.Test.YtfonaepdedbhhaaGreatDoorEvZ
import Derived.Test.YtfonaepdedbhhaaGreatDoorProg
import Derived.Test.YtfonaepdedbhhaaGreatDoorZQ
set_option linter.all false
set_option maxRecDepth 100000
namespace Go.Ev.Zzn
def kI:Nat:=99
def cP:Nat:=100
def aEz:Nat:=118
abbrev fG:L:= .agg [.int .u8, .int .u8, .int .u8, .int .u8, .int .u8, .int .u8, .int .u8, .int .u8, .int .u8, .int .u8, .int .u8, .int .u8, .int .u8, .int .u8, .int .u8, .int .u8, .int .u8, .int .u8, .int .u8, .int .u8, .int .u8, .int .u8, .int .u8, .int .u8]
abbrev bS0:List vO:=[.var (.agg (List.replicate 65 (.int .u8)))]
def tO:Shape:={slots:=[(0, .d (.one (.sl 5))),(1, .d lW),(2, .d lI),(3, .d lB),(4, .d lB)],objs:=[]}
def uO:Shape:={slots:=[(0, .d (.one (.sl 5))),(1, .d lS)],objs:=[],m:=0}
def rI:Row:=[.int 0, .int 1, .int 28, .int 2, .int 29, .int 14, .int 24, .int 3, .int 30, .int 22, .int 20, .int 15, .int 25, .int 17, .int 4, .int 8, .int 31, .int 27, .int 13, .int 23, .int 21, .int 19, .int 16, .int 7, .int 26, .int 12, .int 18, .int 6, .int 11, .int 5, .int 10, .int 9]
def tD:Row:=[.int 0, .int 0, .int 0, .int 0, .int 0, .int 0, .int 0, .int 0, .int 0, .int 1, .int 1, .int 1, .int 1, .int 1, .int 0, .int 0, .int 0, .int 0, .int 0, .int 0, .int 0, .int 0, .int 0, .int 0, .int 0, .int 0, .int 0, .int 0, .int 0, .int 0, .int 0, .int 0, .int 1, .int 0, .int 0, .int 0, .int 0, .int 0, .int 0, .int 0, .int 0, .int 0, .int 0, .int 0, .int 0, .int 0, .int 0, .int 0, .int 0, .int 0, .int 0, .int 0, .int 0, .int 0, .int 0, .int 0, .int 0, .int 0, .int 0, .int 0, .int 0, .int 0, .int 0, .int 0, .int 0, .int 0, .int 0, .int 0, .int 0, .int 0, .int 0, .int 0, .int 0, .int 0, .int 0, .int 0, .int 0, .int 0, .int 0, .int 0, .int 0, .int 0, .int 0, .int 0, .int 0, .int 0, .int 0, .int 0, .int 0, .int 0, .int 0, .int 0, .int 0, .int 0, .int 0, .int 0, .int 0, .int 0, .int 0, .int 0, .int 0, .int 0, .int 0, .int 0, .int 0, .int 0, .int 0, .int 0, .int 0, .int 0, .int 0, .int 0, .int 0, .int 0, .int 0, .int 0, .int 0, .int 0, .int 0, .int 0, .int 0, .int 0, .int 0, .int 0, .int 0, .int 0, .int 0, .int 0, .int 0, .int 0, .int 0, .int 0, .int 0, .int 0, .int 0, .int 0, .int 0, .int 0, .int 0, .int 0, .int 0, .int 0, .int 0, .int 0, .int 0, .int 0, .int 0, .int 0, .int 0, .int 0, .int 0, .int 0, .int 0, .int 0, .int 0, .int 0, .int 0, .int 0, .int 0, .int 0, .int 0, .int 0, .int 0, .int 0, .int 0, .int 0, .int 0, .int 0, .int 0, .int 0, .int 0, .int 0, .int 0, .int 0, .int 0, .int 0, .int 0, .int 0, .int 0, .int 0, .int 0, .int 0, .int 0, .int 0, .int 0, .int 0, .int 0, .int 0, .int 0, .int 0, .int 0, .int 0, .int 0, .int 0, .int 0, .int 0, .int 0, .int 0, .int 0, .int 0, .int 0, .int 0, .int 0, .int 0, .int 0, .int 0, .int 0, .int 0, .int 0, .int 0, .int 0, .int 0, .int 0, .int 0, .int 0, .int 0, .int 0, .int 0, .int 0, .int 0, .int 0, .int 0, .int 0, .int 0, .int 0, .int 0, .int 0, .int 0, .int 0, .int 0, .int 0, .int 0, .int 0, .int 0, .int 0, .int 0, .int 0, .int 0, .int 0, .int 0, .int 0, .int 0, .int 0, .int 0, .int 0, .int 0, .int 0, .int 0, .int 0, .int 0, .int 0, .int 0, .int 0, .int 0, .int 0, .int 0]
def rD:Row:=[.int 1, .int 10, .int 100, .int 1000, .int 10000, .int 100000, .int 1000000, .int 10000000, .int 100000000, .int 1000000000, .int 10000000000, .int 100000000000, .int 1000000000000, .int 10000000000000, .int 100000000000000, .int 1000000000000000, .int 10000000000000000, .int 100000000000000000, .int 1000000000000000000, .int 10000000000000000000]
def xD:Row:=[.int 0, .int 1, .int 56, .int 2, .int 57, .int 49, .int 28, .int 3, .int 61, .int 58, .int 42, .int 50, .int 38, .int 29, .int 17, .int 4, .int 62, .int 47, .int 59, .int 36, .int 45, .int 43, .int 51, .int 22, .int 53, .int 39, .int 33, .int 30, .int 24, .int 18, .int 12, .int 5, .int 63, .int 55, .int 48, .int 27, .int 60, .int 41, .int 37, .int 16, .int 46, .int 35, .int 44, .int 21, .int 52, .int 32, .int 23, .int 11, .int 54, .int 26, .int 40, .int 15, .int 34, .int 20, .int 31, .int 10, .int 25, .int 14, .int 19, .int 9, .int 13, .int 8, .int 7, .int 6]
end Go.Ev.Zzn
namespace Go.Ev.Zzn
def lD:aD:={ps:=[lI],rs:=[lB],res:=[(false,2,none)],body:=(.seq (.region [] [oq 2 (.mov (.c lB [.bool false]))] false 0)
 (.seq (.region [] [oq 3 (.mov (.t 0)),
 oq 4 (.mov (.t 0)),
 oq 5 (.tB .sub (.t 4) (.c lI [.int 1])),
 oq 6 (.tB .and (.t 3) (.t 5)),
 oq 7 (.dA .eql (.t 6) (.c lI [.int 0])),
 oq 2 (.mov (.t 7))] false 0)
 .ret))}
def wE:aD:={ps:=[lW],rs:=[lI],res:=[(false,2,none)],body:=(.seq (.region [] [oq 2 (.mov (.c lI [.int 0]))] false 0)
 (.seq (.seq (.region [] [oq 3 (.mov (.t 0)),
 oq 4 (.dA .eql (.t 3) (.c lW [.int 0]))] false 0)
 (.cond (.t 4) (.seq (.region [] [oq 2 (.mov (.c lI [.int 64]))] false 0)
 .ret)
 .skip))
 (.seq (.region [] [oq 5 (.mov (.t 0)),
 oq 6 (.mov (.t 0)),
 oq 7 (.aSp (.t 6)),
 oq 8 (.tB .and (.t 5) (.t 7)),
 oq 9 (.tB .mul (.t 8) (.c lW [.int 285870213051353865])),
 oq 10 (.shf .shr (.t 9) (.c lW [.int 58])),
 oq 11 (.qF 64 194 5 lU (.c (.one (.ref 194)) [.dp xD]) (.t 10)),
 oq 12 (.ld lU 5 (.t 11)),
 oq 13 (.i2i .i64 (.t 12)),
 oq 2 (.mov (.t 13))] false 0)
 .ret)))}
def pF:aD:={ps:=[lW],rs:=[lI],res:=[(false,2,none)],body:=(.seq (.region [] [oq 2 (.mov (.c lI [.int 0]))] false 0)
 (.seq (.cond (.c lB [.bool false]) (.seq .bad
 .ret)
 .skip)
 (.seq (.region [] [oq 6 (.mov (.t 0)),
 oq 7 (.call 118 [lW] [lI] [(.t 6)]),
 oq 2 (.mov (.t 7))] false 0)
 .ret)))}
def aAT:Shape:={slots:=[(0, .d (.one (.sl 5))),(1, .d lW),(3, .d lB),(4, .d lB),(10, .d (.one (.sl 5))),(11, .d lS),(12, .ptr 0 0),(13, .d lI),(14, .d lW),(15, .d lW),(16, .d lW)],objs:=bS0}
def aAU:List (mB×Shape):=[(.exit 0,{slots:=[(0, .d (.one (.sl 5))),(1, .d lW),(3, .d lB),(4, .d lB),(10, .d (.one (.sl 5))),(11, .d lS),(12, .ptr 0 0),(13, .d lI)],objs:=bS0})]
def aAV:zB:=(.seq (.seq (.region [] [oq 44 (.mov (.t 1)),
 oq 45 (.mov (.t 15)),
 oq 46 (.dA .geq (.t 44) (.t 45))] false 0)
 (.cond (.t 46) .skip
 (.exit 0)))
 (.block 1 (.seq (.region [] [oq 47 (.mov (.t 13)),
 oq 48 (.tB .sub (.t 47) (.c lI [.int 1])),
 oq 13 (.mov (.t 48))] false 0)
 (.seq (.region [] [oq 49 (.mov (.t 13)),
 oq 50 (.mov (.t 1)),
 oq 51 (.mov (.t 16)),
 oq 52 (.tB .and (.t 50) (.t 51)),
 oq 53 (.aB2 (.c lS [.str ([48,49,50,51,52,53,54,55,56,57,97,98,99,100,101,102,103,104,105,106,107,108,109,110,111,112,113,114,115,116,117,118,119,120,121,122]:List UInt8)]) (.t 52)),
 oq 54 (.qF 65 143 5 lU (.t 12) (.t 49)),
 ⟨none, .st lU (.t 54) (.t 53),none,[]⟩] false 0)
 (.region [] [oq 55 (.mov (.t 1)),
 oq 56 (.mov (.t 14)),
 oq 57 (.shf .shr (.t 55) (.t 56)),
 oq 1 (.mov (.t 57))] false 0)))))
def aAW:Shape:={slots:=[(0, .d (.one (.sl 5))),(1, .d lW),(3, .d lB),(4, .d lB),(10, .d (.one (.sl 5))),(11, .d lS),(12, .ptr 0 0),(13, .d lI),(17, .d lW)],objs:=bS0}
def aAX:List (mB×Shape):=[(.exit 2,{slots:=[(0, .d (.one (.sl 5))),(1, .d lW),(3, .d lB),(4, .d lB),(10, .d (.one (.sl 5))),(11, .d lS),(12, .ptr 0 0),(13, .d lI)],objs:=bS0})]
def aAY:zB:=(.seq (.seq (.region [] [oq 66 (.mov (.t 1)),
 oq 67 (.mov (.t 17)),
 oq 68 (.dA .geq (.t 66) (.t 67))] false 0)
 (.cond (.t 68) .skip
 (.exit 2)))
 (.block 3 (.seq (.region [] [oq 69 (.mov (.t 13)),
 oq 70 (.tB .sub (.t 69) (.c lI [.int 1])),
 oq 13 (.mov (.t 70))] false 0)
 (.seq (.region [] [oq 71 (.mov (.t 1)),
 oq 72 (.mov (.t 17)),
 oq 73 (.idiv .quo (.t 71) (.t 72)),
 oq 18 (.mov (.t 73))] false 0)
 (.seq (.region [] [oq 74 (.mov (.t 13)),
 oq 75 (.mov (.t 1)),
 oq 76 (.mov (.t 18)),
 oq 77 (.mov (.t 17)),
 oq 78 (.tB .mul (.t 76) (.t 77)),
 oq 79 (.tB .sub (.t 75) (.t 78)),
 oq 80 (.aB2 (.c lS [.str ([48,49,50,51,52,53,54,55,56,57,97,98,99,100,101,102,103,104,105,106,107,108,109,110,111,112,113,114,115,116,117,118,119,120,121,122]:List UInt8)]) (.t 79)),
 oq 81 (.qF 65 143 5 lU (.t 12) (.t 74)),
 ⟨none, .st lU (.t 81) (.t 80),none,[]⟩] false 0)
 (.region [] [oq 82 (.mov (.t 18)),
 oq 1 (.mov (.t 82))] false 0))))))
def fQ:rZ:={fn:=78,entry:=tO,res:=[.tmp 10, .tmp 11],exit:=uO,body:=(.seq (.region [] [oq 10 (.mov (.c (.one (.sl 5)) [.fA])),
 oq 11 (.mov (.c lS [.str ([]:List UInt8)]))] false 0)
 (.seq (.seq (.join [(.normal,{slots:=[(0, .d (.one (.sl 5))),(1, .d lW),(2, .d lI),(3, .d lB),(4, .d lB),(10, .d (.one (.sl 5))),(11, .d lS),(28, .d lB)],objs:=[]})] (.region [] [oq 19 (.mov (.t 2)),
 oq 20 (.dA .lss (.t 19) (.c lI [.int 2])),
 oq 21 (.mov (.t 20)),
 ⟨some 22, .mov (.t 2),some (21,false),[]⟩,
 ⟨some 23, .dA .eql (.t 22) (.c lI [.int 10]),some (21,false),[]⟩,
 oq 24 (.pick (.t 21) (.c lB [.bool true]) (.t 23)),
 oq 25 (.mov (.t 24)),
 ⟨some 26, .mov (.t 2),some (25,false),[]⟩,
 ⟨some 27, .dA .gtr (.t 26) (.c lI [.int 36]),some (25,false),[]⟩,
 oq 28 (.pick (.t 25) (.c lB [.bool true]) (.t 27))] false 0))
 (.join [(.normal,{slots:=[(0, .d (.one (.sl 5))),(1, .d lW),(2, .d lI),(3, .d lB),(4, .d lB),(10, .d (.one (.sl 5))),(11, .d lS)],objs:=[]})] (.cond (.t 28) (.region [] [oq 29 (.bad),
 ⟨none, .bad,none,[]⟩] false 0)
 .skip)))
 (.seq (.region [] [oq 12 (.oB 0 (.agg (List.replicate 65 (.int .u8))) (List.replicate 65 (C.int 0)))] false 1)
 (.seq (.region [] [oq 13 (.mov (.c lI [.int 65]))] false 0)
 (.seq (.seq (.region [] [oq 30 (.mov (.t 3))] false 0)
 (.join [(.normal,{slots:=[(0, .d (.one (.sl 5))),(1, .d lW),(2, .d lI),(3, .d lB),(4, .d lB),(10, .d (.one (.sl 5))),(11, .d lS),(12, .ptr 0 0),(13, .d lI)],objs:=bS0})] (.cond (.t 30) (.region [] [oq 31 (.mov (.t 1)),
 oq 32 (.aSp (.t 31)),
 oq 1 (.mov (.t 32))] false 0)
 .skip)))
 (.seq (.seq (.region [] [oq 33 (.mov (.t 2)),
 oq 34 (.call 99 [lI] [lB] [(.t 33)])] false 0)
 (.join [(.normal,{slots:=[(0, .d (.one (.sl 5))),(3, .d lB),(4, .d lB),(10, .d (.one (.sl 5))),(11, .d lS),(12, .ptr 0 0),(13, .d lI)],objs:=bS0})] (.cond (.t 34) (.seq (.region [] [oq 35 (.mov (.t 2)),
 oq 36 (.i2i .u64 (.t 35)),
 oq 37 (.call 100 [lW] [lI] [(.t 36)]),
 oq 38 (.i2i .u64 (.t 37)),
 oq 14 (.mov (.t 38))] false 0)
 (.seq (.region [] [oq 39 (.mov (.t 2)),
 oq 40 (.i2i .u64 (.t 39)),
 oq 15 (.mov (.t 40))] false 0)
 (.seq (.region [] [oq 41 (.mov (.t 2)),
 oq 42 (.i2i .u64 (.t 41)),
 oq 43 (.tB .sub (.t 42) (.c lW [.int 1])),
 oq 16 (.mov (.t 43))] false 0)
 (.seq (.block 0 (.loop aAT aAU aAV))
 (.seq (.region [] [oq 58 (.mov (.t 13)),
 oq 59 (.tB .sub (.t 58) (.c lI [.int 1])),
 oq 13 (.mov (.t 59))] false 0)
 (.region [] [oq 60 (.mov (.t 13)),
 oq 61 (.mov (.t 1)),
 oq 62 (.aB2 (.c lS [.str ([48,49,50,51,52,53,54,55,56,57,97,98,99,100,101,102,103,104,105,106,107,108,109,110,111,112,113,114,115,116,117,118,119,120,121,122]:List UInt8)]) (.t 61)),
 oq 63 (.qF 65 143 5 lU (.t 12) (.t 60)),
 ⟨none, .st lU (.t 63) (.t 62),none,[]⟩] false 0))))))
 (.seq (.region [] [oq 64 (.mov (.t 2)),
 oq 65 (.i2i .u64 (.t 64)),
 oq 17 (.mov (.t 65))] false 0)
 (.seq (.block 2 (.loop aAW aAX aAY))
 (.seq (.region [] [oq 83 (.mov (.t 13)),
 oq 84 (.tB .sub (.t 83) (.c lI [.int 1])),
 oq 13 (.mov (.t 84))] false 0)
 (.region [] [oq 85 (.mov (.t 13)),
 oq 86 (.mov (.t 1)),
 oq 87 (.aB2 (.c lS [.str ([48,49,50,51,52,53,54,55,56,57,97,98,99,100,101,102,103,104,105,106,107,108,109,110,111,112,113,114,115,116,117,118,119,120,121,122]:List UInt8)]) (.t 86)),
 oq 88 (.qF 65 143 5 lU (.t 12) (.t 85)),
 ⟨none, .st lU (.t 88) (.t 87),none,[]⟩] false 0)))))))
 (.seq (.seq (.region [] [oq 89 (.mov (.t 3))] false 0)
 (.cond (.t 89) (.seq (.region [] [oq 90 (.mov (.t 13)),
 oq 91 (.tB .sub (.t 90) (.c lI [.int 1])),
 oq 13 (.mov (.t 91))] false 0)
 (.region [] [oq 92 (.mov (.t 13)),
 oq 93 (.qF 65 143 5 lU (.t 12) (.t 92)),
 ⟨none, .st lU (.t 93) (.c lU [.int 45]),none,[]⟩] false 0))
 .skip))
 (.seq (.seq (.region [] [oq 94 (.mov (.t 4))] false 0)
 (.cond (.t 94) (.seq (.region [(12,143,some (.agg (List.replicate 65 (.int .u8))))] [oq 95 (.mov (.t 0)),
 oq 96 (.mov (.t 13)),
 oq 97 (.aSr 65 143 5 lU (.t 12) (.t 96)),
 oq 98 (.bad),
 oq 10 (.bad)] false 1)
 .ret)
 .skip))
 (.seq (.region [(12,143,some (.agg (List.replicate 65 (.int .u8))))] [oq 99 (.mov (.t 13)),
 oq 100 (.aSr 65 143 5 lU (.t 12) (.t 99)),
 oq 101 (.b2s 5 (.t 100)),
 oq 11 (.mov (.t 101))] false 0)
 .ret)))))))))}
def sU:aD:={ps:=[lI,lI],rs:=[lS],res:=[(false,4,none)],body:=(.seq (.region [] [oq 4 (.mov (.c lS [.str ([]:List UInt8)]))] false 0)
 (.seq (.seq (.region [] [oq 10 (.mov (.t 1)),
 oq 11 (.dA .eql (.t 10) (.c lI [.int 10]))] false 0)
 (.cond (.t 11) (.seq (.seq (.join [(.normal,{slots:=[(0, .d lI),(17, .d lB)],objs:=[]})] (.region [] [oq 12 (.mov (.t 0)),
 oq 13 (.dA .leq (.c lI [.int 0]) (.t 12)),
 oq 14 (.mov (.t 13)),
 ⟨some 15, .mov (.t 0),some (14,true),[]⟩,
 ⟨some 16, .dA .lss (.t 15) (.c lI [.int 100]),some (14,true),[]⟩,
 oq 17 (.pick (.t 14) (.t 16) (.c lB [.bool false]))] false 0))
 (.cond (.t 17) (.seq (.region [] [oq 18 (.mov (.t 0)),
 oq 19 (.bad),
 oq 4 (.bad)] false 0)
 .ret)
 .skip))
 (.seq (.region [] [oq 5 (.oB 0 fG [.int 0, .int 0, .int 0, .int 0, .int 0, .int 0, .int 0, .int 0, .int 0, .int 0, .int 0, .int 0, .int 0, .int 0, .int 0, .int 0, .int 0, .int 0, .int 0, .int 0, .int 0, .int 0, .int 0, .int 0])] false 1)
 (.seq (.region [] [oq 20 (.mov (.t 0)),
 oq 21 (.i2i .u64 (.t 20)),
 oq 6 (.mov (.t 21))] false 0)
 (.seq (.seq (.region [] [oq 22 (.mov (.t 0)),
 oq 23 (.dA .lss (.t 22) (.c lI [.int 0]))] false 0)
 (.join [(.normal,{slots:=[(0, .d lI),(5, .ptr 0 0),(6, .d lW)],objs:=[.var fG]})] (.cond (.t 23) (.region [] [oq 24 (.mov (.t 6)),
 oq 25 (.aSp (.t 24)),
 oq 6 (.mov (.t 25))] false 0)
 .skip)))
 (.seq (.region [] [oq 26 (.mov (.t 6)),
 oq 27 (.bad),
 oq 7 (.bad)] false 0)
 (.seq .bad
 (.seq (.seq .bad
 .bad)
 (.seq .bad
 .ret))))))))
 .skip))
 (.seq (.region [] [oq 45 (.mov (.t 0)),
 oq 46 (.i2i .u64 (.t 45)),
 oq 47 (.mov (.t 1)),
 oq 48 (.mov (.t 0)),
 oq 49 (.dA .lss (.t 48) (.c lI [.int 0])),
 oq 50 (.nB 167 78 (tO) (uO) [] 0 none [(.c (.one (.sl 5)) [.fA]),(.t 46),(.t 47),(.t 49),(.c lB [.bool false])]),
 oq 44 (.mov (.t 50)),
 oq 51 (.ext 0 (.t 44)),
 oq 52 (.ext 1 (.t 44)),
 oq 8 (.mov (.t 51)),
 oq 9 (.mov (.t 52))] false 0)
 (.seq (.region [] [oq 53 (.mov (.t 9)),
 oq 4 (.mov (.t 53))] false 0)
 .ret))))}
def aD2:aD:={ps:=[lI,lI],rs:=[lS],res:=[(false,4,none)],body:=(.seq (.region [] [oq 4 (.mov (.c lS [.str ([]:List UInt8)]))] false 0)
 (.seq (.region [] [oq 5 (.mov (.t 0)),
 oq 6 (.mov (.t 1)),
 oq 7 (.call 54 [lI,lI] [lS] [(.t 5),(.t 6)]),
 oq 4 (.mov (.t 7))] false 0)
 .ret))}
end Go.Ev.Zzn
namespace Go.Ev.Zzn
def tab:List gG:=[.none,
 .none,
 .none,
 .none,
 .none,
 .none,
 .none,
 .none,
 .none,
 .none,
 .none,
 .none,
 .none,
 .none,
 .none,
 .none,
 .none,
 .none,
 .none,
 .none,
 .none,
 .none,
 .none,
 .none,
 .none,
 .none,
 .none,
 .none,
 .none,
 .none,
 .none,
 .none,
 .none,
 .none,
 .none,
 .none,
 .none,
 .none,
 .none,
 .none,
 .none,
 .none,
 .none,
 .none,
 .none,
 .none,
 .none,
 .none,
 .none,
 .code aD2,
 .none,
 .none,
 .none,
 .none,
 .code sU,
 .none,
 .none,
 .none,
 .none,
 .none,
 .none,
 .none,
 .none,
 .none,
 .none,
 .none,
 .none,
 .none,
 .none,
 .none,
 .none,
 .none,
 .none,
 .none,
 .none,
 .none,
 .none,
 .none,
 .none,
 .none,
 .none,
 .none,
 .none,
 .none,
 .none,
 .none,
 .none,
 .none,
 .none,
 .none,
 .none,
 .none,
 .none,
 .none,
 .none,
 .none,
 .none,
 .none,
 .none,
 .code lD,
 .code pF,
 .none,
 .none,
 .none,
 .none,
 .none,
 .none,
 .none,
 .none,
 .none,
 .none,
 .none,
 .none,
 .none,
 .none,
 .none,
 .none,
 .none,
 .code wE,
 .none,
 .none,
 .none,
 .none,
 .none,
 .none,
 .none,
 .none,
 .none,
 .none,
 .none,
 .none,
 .none,
 .none,
 .none,
 .none,
 .none,
 .none,
 .none,
 .none,
 .none,
 .none,
 .none,
 .none,
 .none,
 .none,
 .none,
 .none,
 .none,
 .none,
 .none,
 .none,
 .none,
 .none,
 .none,
 .none,
 .none,
 .none,
 .none,
 .none,
 .none,
 .none,
 .none,
 .none,
 .none,
 .none,
 .none,
 .none,
 .imp fQ]
def gl:List gG:=[.zL 101 (.agg (List.replicate 256 (.int .u8))) tD, .none, .none, .zL 142 (.agg [.int .u64, .int .u64, .int .u64, .int .u64, .int .u64, .int .u64, .int .u64, .int .u64, .int .u64, .int .u64, .int .u64, .int .u64, .int .u64, .int .u64, .int .u64, .int .u64, .int .u64, .int .u64, .int .u64, .int .u64]) rD, .zL 193 (.agg [.int .u8, .int .u8, .int .u8, .int .u8, .int .u8, .int .u8, .int .u8, .int .u8, .int .u8, .int .u8, .int .u8, .int .u8, .int .u8, .int .u8, .int .u8, .int .u8, .int .u8, .int .u8, .int .u8, .int .u8, .int .u8, .int .u8, .int .u8, .int .u8, .int .u8, .int .u8, .int .u8, .int .u8, .int .u8, .int .u8, .int .u8, .int .u8]) rI, .zL 194 (.agg (List.replicate 64 (.int .u8))) xD]
def T (f:Nat):gG:=aPZ tab gl f
end Go.Ev.Zzn
namespace Go.Ev.Zzn
theorem aZw:rB Go.Proofs.Tryz.prog T 99 lD=true:=by kernel_rfl
theorem aVC:rB Go.Proofs.Tryz.prog T 118 wE=true:=by kernel_rfl
theorem aVB:rB Go.Proofs.Tryz.prog T 100 pF=true:=by kernel_rfl
theorem aVD:rO Go.Proofs.Tryz.prog T fQ=true:=by kernel_rfl
theorem a7N:rB Go.Proofs.Tryz.prog T 54 sU=true:=by kernel_rfl
theorem a7O:rB Go.Proofs.Tryz.prog T 49 aD2=true:=by kernel_rfl
end Go.Ev.Zzn
namespace Go.Ev.Zzn
theorem aZv:aUc Go.Proofs.Tryz.prog T:=aR3 ⟨trivial,trivial,trivial,trivial,trivial,trivial,trivial,trivial,trivial,trivial,trivial,trivial,trivial,trivial,trivial,trivial,trivial,trivial,trivial,trivial,trivial,trivial,trivial,trivial,trivial,trivial,trivial,trivial,trivial,trivial,trivial,trivial,trivial,trivial,trivial,trivial,trivial,trivial,trivial,trivial,trivial,trivial,trivial,trivial,trivial,trivial,trivial,trivial,trivial,a7O,trivial,trivial,trivial,trivial,a7N,trivial,trivial,trivial,trivial,trivial,trivial,trivial,trivial,trivial,trivial,trivial,trivial,trivial,trivial,trivial,trivial,trivial,trivial,trivial,trivial,trivial,trivial,trivial,trivial,trivial,trivial,trivial,trivial,trivial,trivial,trivial,trivial,trivial,trivial,trivial,trivial,trivial,trivial,trivial,trivial,trivial,trivial,trivial,trivial,aZw,aVB,trivial,trivial,trivial,trivial,trivial,trivial,trivial,trivial,trivial,trivial,trivial,trivial,trivial,trivial,trivial,trivial,trivial,aVC,trivial,trivial,trivial,trivial,trivial,trivial,trivial,trivial,trivial,trivial,trivial,trivial,trivial,trivial,trivial,trivial,trivial,trivial,trivial,trivial,trivial,trivial,trivial,trivial,trivial,trivial,trivial,trivial,trivial,trivial,trivial,trivial,trivial,trivial,trivial,trivial,trivial,trivial,trivial,trivial,trivial,trivial,trivial,trivial,trivial,trivial,trivial,trivial,aVD,trivial⟩ (by kernel_rfl)
end Go.Ev.Zzn
namespace Go.Ev.Zzn
open Go.Proofs.Bld (aGX)
def isStr (l:List UInt8):Option (List Row)→Bool
 |some [[.str s]]=>s==l
 |_=>false
theorem isStr_eq (l:List UInt8):∀o,isStr l o=true→o=some [[.str l]]:=by
 intro o h
 unfold isStr at h
 split at h
 ·rename_i s
  rw[eq_of_beq h]
 ·simp at h
theorem a7P (f:Nat→Bool) (h:∀k,k<16→(List.range 16).all (fun i=>f (16*k+i))=true) (c:Nat) (hc:c<256):f c=true:=by
 have h2:=List.all_eq_true.1 (h (c/16) (by omega)) (c % 16) (List.mem_range.2 (Nat.mod_lt _ (by decide)))
 have e:16*(c/16)+c % 16=c:=Nat.div_add_mod c 16
 rwa[e]at h2
def a4f (c:Nat):Bool:=isStr (aGX c) ((iE T 12).pc 49 [[.int ((c:Int)+256)],[.int 16]])
def aJU (k:Nat):Bool:=(List.range 16).all fun i=>a4f (16*k+i)
end Go.Ev.Zzn
