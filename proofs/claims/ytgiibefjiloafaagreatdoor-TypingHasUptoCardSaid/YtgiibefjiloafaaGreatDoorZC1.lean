/-
  A part of the proof: what the functions of the program compute.
-/
import Derived.Test.YtgiibefjiloafaaGreatDoorZNum
set_option linter.all false
set_option maxRecDepth 100000
namespace Go.Ev
def pattern_set_add_i13_a:AImp:={fn:=127,entry:=pattern_set_add_i13_en,res:=[],exit:=pattern_set_add_i13_ex,body:=(.region [] [oq 4 (.mov (.t 0)),
 oq 5 (.mov (.t 1)),
 ⟨some 6, .idiv .quo (.t 5) (.c lI [.int 64]),none,[1]⟩,
 ⟨some 7, .nchk (.t 4),none,[0]⟩,
 ⟨some 8, .iadA 4 170 135 lW (.t 7) (.t 6),none,[0,1,2,3]⟩,
 ⟨some 9, .ld lW 135 (.t 8),none,[0,1,2,3,4]⟩,
 oq 10 (.mov (.t 1)),
 ⟨some 11, .idiv .rem (.t 10) (.c lI [.int 64]),none,[6]⟩,
 ⟨some 12, .shf .shl (.c lW [.int 1]) (.t 11),none,[6,7]⟩,
 ⟨some 13, .ibin .or (.t 9) (.t 12),none,[0,1,2,3,4,5,6,7,8]⟩,
 ⟨some 14, .nchk (.t 4),none,[0]⟩,
 ⟨some 15, .iadA 4 170 135 lW (.t 14) (.t 6),none,[0,1,2,3,4,5,6,7,8,9,10]⟩,
 ⟨none, .st lW (.t 15) (.t 13),none,[0,1,2,3,4,5,6,7,8,9,10,11]⟩] true 0)}
noncomputable def pattern_set_add_i13 (E:Env) (p0:Int) (p1:Row):Option (List PV):=
 if (0:Int)≤(Go.IntKind.i64.wrap (p0.tdiv 64))∧(Go.IntKind.i64.wrap (p0.tdiv 64))<(4:Int)then
 part lW lA4 (5+(((Go.IntKind.i64.wrap (p0.tdiv 64)).toNat)*1)) p1 fun y1=>
 if p0.tmod 64<0 then none else if (0:Int)≤(Go.IntKind.i64.wrap (p0.tdiv 64))∧(Go.IntKind.i64.wrap (p0.tdiv 64))<(4:Int)then
 turn lW lA4 (5+(((Go.IntKind.i64.wrap (p0.tdiv 64)).toNat)*1)) p1 [.int (bitsOf .or .u64 ((at_ y1 0).toI) (Go.IntKind.u64.wrap (1*2^(min ((p0.tmod 64).toNat) (Go.IntKind.bits .u64)))))] fun r2=>
 some [.r r2]
 else none
 else none
theorem pattern_set_add_i13_eq (E:Env) (p0:Int) (p1:Row):runI E pattern_set_add_i13_a [.r [.int p0], .r p1]=pattern_set_add_i13 E p0 p1:=by kernel_rfl
def pattern_reader_position_i11_a:AImp:={fn:=192,entry:=pattern_reader_position_i11_en,res:=[.var 4 lA4],exit:=pattern_reader_position_i11_ex,body:=(.seq (.region [] [oq 3 (.boxP lA3 209 (.t 1)),
 oq 4 (.allocO 0 lA4 [.bool false, .int 0, .int 0, .int 0, .int 0, .int 0, .int 0, .int 0, .int 0])] false 1)
 (.seq (.region [] [oq 7 (.mov (.t 0)),
 oq 8 (.nchk (.t 7)),
 oq 9 (.fad 2 11 211 174 (.t 8)),
 oq 10 (.fad 0 1 174 167 (.t 9)),
 oq 11 (.ldC (.t 10)),
 oq 12 (.lenL (.t 11)),
 oq 5 (.mov (.t 12))] false 0)
 (.seq (.seq (.region [] [oq 13 (.mov (.t 5)),
 oq 14 (.icmp .gtr (.t 13) (.c lI [.int 255]))] false 0)
 (.cond (.t 14) (.seq (.region [] [oq 15 (.mov (.t 0)),
 oq 16 (.nchk (.t 15)),
 oq 17 (.fad 13 1 211 4 (.t 16)),
 ⟨none, .stC (.t 17) (.c lB [.bool true]),none,[]⟩] false 0)
 (.seq (.region [] [oq 18 (.bld lA4 [.bool false, .int 0, .int 0, .int 0, .int 0, .int 0, .int 0, .int 0, .int 0] []),
 ⟨none, .st lA4 (.t 4) (.t 18),none,[]⟩] false 0)
 .ret))
 .skip))
 (.seq (.region [] [oq 19 (.mov (.t 0)),
 oq 20 (.mov (.t 0)),
 ⟨some 21, .nchk (.t 20),none,[1]⟩,
 ⟨some 22, .fad 2 11 211 174 (.t 21),none,[1,2]⟩,
 ⟨some 23, .fad 0 1 174 167 (.t 22),none,[1,2,3]⟩,
 ⟨some 24, .ldC (.t 23),none,[1,2,3,4]⟩,
 oq 25 (.ld lA3 209 (.t 3)),
 ⟨some 26, .bsl 209 lA3 1 [.int 0, .int 0, .int 0, .int 0] [(0,(.t 25))],none,[6]⟩,
 ⟨some 27, .appW 0 209 lA3 32 (.t 24) (.t 26),none,[1,2,3,4,5,6,7]⟩,
 ⟨some 28, .nchk (.t 19),none,[0,1,2,3,4,5,6,7,8]⟩,
 ⟨some 29, .fad 2 11 211 174 (.t 28),none,[0,1,2,3,4,5,6,7,8,9]⟩,
 ⟨some 30, .fad 0 1 174 167 (.t 29),none,[0,1,2,3,4,5,6,7,8,9,10]⟩,
 ⟨none, .stC (.t 30) (.t 27),none,[0,1,2,3,4,5,6,7,8,9,10,11]⟩] true 1)
 (.seq (.region [] [oq 31 (.mov (.t 0)),
 oq 32 (.mov (.t 0)),
 oq 33 (.nchk (.t 32)),
 oq 34 (.fad 2 11 211 174 (.t 33)),
 oq 35 (.fad 1 1 174 168 (.t 34)),
 oq 36 (.ldC (.t 35)),
 oq 37 (.bld lA3 [.int 0, .int 0, .int 0, .int 0] []),
 oq 38 (.bsl 170 lA3 1 [.int 0, .int 0, .int 0, .int 0] [(0,(.t 37))]),
 oq 39 (.app 0 170 lA3 32 (.t 36) (.t 38)),
 oq 40 (.nchk (.t 31)),
 oq 41 (.fad 2 11 211 174 (.t 40)),
 oq 42 (.fad 1 1 174 168 (.t 41)),
 ⟨none, .stC (.t 42) (.t 39),none,[]⟩] false 1)
 (.seq (.region [] [oq 6 (.allocO 0 lA4 [.bool false, .int 0, .int 0, .int 0, .int 0, .int 0, .int 0, .int 0, .int 0])] false 1)
 (.seq (.region [] [oq 43 (.fad 1 4 172 170 (.t 6)),
 oq 44 (.mov (.t 5)),
 oq 45 (.icall 229 127 (pattern_set_add_i12_en) (pattern_set_add_i12_ex) [6] 0 none [(.t 43),(.t 44)])] false 0)
 (.seq (.region [] [oq 46 (.fad 5 4 172 170 (.t 6)),
 oq 47 (.mov (.t 5)),
 oq 48 (.icall 230 127 (pattern_set_add_i13_en) (pattern_set_add_i13_ex) [6] 0 none [(.t 46),(.t 47)])] false 0)
 (.seq (.region [] [oq 49 (.ld lA4 172 (.t 6)),
 ⟨none, .st lA4 (.t 4) (.t 49),none,[]⟩] false 0)
 .ret)))))))))}
noncomputable def pattern_reader_position_i11 (E:Env) (p0:Row) (p1:List UInt8) (p2:Int) (p3:Bool) (p4:Int) (p5:Int) (p6:Int) (p7:Int) (p8:Int) (p9:Int) (p10:Int) (p11:Int) (p12:Bool) (p13:C) (p14:C):Option (List PV):=
 if (decide ((p13.rows.length:Int)>255))=true then
 some [.r [.bool false, .int 0, .int 0, .int 0, .int 0, .int 0, .int 0, .int 0, .int 0], .r [.str p1], .r [.int p2], .r [.bool p3], .r [.int p4], .r [.int p5], .r [.int p6], .r [.int p7], .r [.int p8], .r [.int p9], .r [.int p10], .r [.int p11], .r [.bool true], .r [p13], .r [p14]]
 else
 if (p13.rows.length+([p0]:List Row).length)*32≤140737488355328 then
 if (p14.rows.length+([[.int 0, .int 0, .int 0, .int 0]]:List Row).length)*32≤140737488355328 then
 (E.ic pattern_set_add_i12_n [.r [.int (p13.rows.length:Int)], .r [.bool false, .int 0, .int 0, .int 0, .int 0, .int 0, .int 0, .int 0, .int 0]]).bind fun y1=>
 (E.ic pattern_set_add_i13_n [.r [.int (p13.rows.length:Int)], .r (gR 0 y1)]).bind fun y2=>
 some [.r (gR 0 y2), .r [.str p1], .r [.int p2], .r [.bool p3], .r [.int p4], .r [.int p5], .r [.int p6], .r [.int p7], .r [.int p8], .r [.int p9], .r [.int p10], .r [.int p11], .r [.bool p12], .r [appC p13 ([p0]:List Row)], .r [appC p14 ([[.int 0, .int 0, .int 0, .int 0]]:List Row)]]
 else none
 else none
theorem pattern_reader_position_i11_eq (E:Env) (p0:Row) (p1:List UInt8) (p2:Int) (p3:Bool) (p4:Int) (p5:Int) (p6:Int) (p7:Int) (p8:Int) (p9:Int) (p10:Int) (p11:Int) (p12:Bool) (p13:C) (p14:C):runI E pattern_reader_position_i11_a [.r p0, .r [.str p1], .r [.int p2], .r [.bool p3], .r [.int p4], .r [.int p5], .r [.int p6], .r [.int p7], .r [.int p8], .r [.int p9], .r [.int p10], .r [.int p11], .r [.bool p12], .r [p13], .r [p14]]=pattern_reader_position_i11 E p0 p1 p2 p3 p4 p5 p6 p7 p8 p9 p10 p11 p12 p13 p14:=by kernel_rfl
def pattern_reader_atom_i6_a:AImp:={fn:=188,entry:=pattern_reader_atom_i6_en,res:=[.var 2 lA4],exit:=pattern_reader_atom_i6_ex,body:=(.seq (.region [] [oq 2 (.allocO 0 lA4 [.bool false, .int 0, .int 0, .int 0, .int 0, .int 0, .int 0, .int 0, .int 0])] false 1)
 (.seq (.region [] [oq 6 (.mov (.t 0)),
 oq 7 (.icall 221 183 (pattern_reader_peek_i4_en) (pattern_reader_peek_i4_ex) [0,1,2] 0 none [(.t 6)]),
 oq 3 (.mov (.t 7))] false 0)
 (.seq (.region [] [oq 8 (.mov (.t 0)),
 oq 9 (.nchk (.t 8)),
 oq 10 (.fad 1 1 211 3 (.t 9)),
 oq 11 (.ldC (.t 10)),
 oq 12 (.ibin .add (.t 11) (.c lI [.int 1])),
 oq 13 (.nchk (.t 8)),
 oq 14 (.fad 1 1 211 3 (.t 13)),
 ⟨none, .stC (.t 14) (.t 12),none,[]⟩] false 0)
 (.seq (.region [] [oq 4 (.allocO 0 lA3 [.int 0, .int 0, .int 0, .int 0])] false 1)
 (.seq (.join [(.normal,{slots:=[(0, .ptr 0 0),(2, .ptr 3 0),(4, .ptr 4 0)],objs:=[oS1, .sarr 209 lA3, .arr lA3, .var lA4, .var lA3],m:=3}),(.ret,{slots:=[(2, .ptr 3 0)],objs:=[oS1, .sarr 209 lA3, .arr lA3, .var lA4],m:=3})] (.block 0 (.seq (.region [] [oq 18 (.mov (.t 3)),
 oq 19 (.icmp .eql (.t 18) (.c lU [.int 40])),
 oq 17 (.mov (.t 19))] false 0)
 (.cond (.t 17) (.seq (.region [] [oq 20 (.mov (.t 0)),
 oq 21 (.icall 218 161 (pattern_reader_alternatives_i1_en) (pattern_reader_alternatives_i1_ex) [0,1,2] 0 none [(.t 20)]),
 oq 5 (.allocO 0 lA4 [.bool false, .int 0, .int 0, .int 0, .int 0, .int 0, .int 0, .int 0, .int 0]),
 ⟨none, .st lA4 (.t 5) (.t 21),none,[]⟩] false 1)
 (.seq (.seq (.join [(.normal,{slots:=[(0, .ptr 0 0),(2, .ptr 3 0),(5, .ptr 4 0)],objs:=bS3,m:=3})] (.region [] [oq 22 (.mov (.t 0)),
 oq 23 (.mov (.t 0)),
 ⟨some 24, .nchk (.t 23),none,[1]⟩,
 ⟨some 25, .fad 13 1 211 4 (.t 24),none,[1,2]⟩,
 ⟨some 26, .ldC (.t 25),none,[1,2,3]⟩,
 ⟨some 27, .mov (.t 26),none,[1,2,3,4]⟩,
 ⟨some 28, .mov (.t 0),some (27,false),[1,2,3,4,5]⟩,
 ⟨some 29, .icall 221 183 (pattern_reader_peek_i4_en) (pattern_reader_peek_i4_ex) [0,1,2] 0 none [(.t 28)],some (27,false),[1,2,3,4,5,6]⟩,
 ⟨some 30, .icmp .neq (.t 29) (.c lU [.int 41]),some (27,false),[1,2,3,4,5,6,7]⟩,
 ⟨some 31, .pick (.t 27) (.c lB [.bool true]) (.t 30),none,[1,2,3,4,5,6,7,8]⟩,
 ⟨some 32, .mov (.t 31),none,[1,2,3,4,5,6,7,8,9]⟩,
 ⟨some 33, .mov (.t 0),some (32,false),[1,2,3,4,5,6,7,8,9,10]⟩,
 ⟨some 34, .nchk (.t 33),some (32,false),[1,2,3,4,5,6,7,8,9,10,11]⟩,
 ⟨some 35, .fad 1 1 211 3 (.t 34),some (32,false),[1,2,3,4,5,6,7,8,9,10,11,12]⟩,
 ⟨some 36, .ldC (.t 35),some (32,false),[1,2,3,4,5,6,7,8,9,10,11,12,13]⟩,
 ⟨some 37, .mov (.t 0),some (32,false),[1,2,3,4,5,6,7,8,9,10]⟩,
 ⟨some 38, .nchk (.t 37),some (32,false),[1,2,3,4,5,6,7,8,9,10,15]⟩,
 ⟨some 39, .fad 0 1 211 9 (.t 38),some (32,false),[1,2,3,4,5,6,7,8,9,10,15,16]⟩,
 ⟨some 40, .ldC (.t 39),some (32,false),[1,2,3,4,5,6,7,8,9,10,15,16,17]⟩,
 ⟨some 41, .lenS (.t 40),some (32,false),[1,2,3,4,5,6,7,8,9,10,15,16,17,18]⟩,
 ⟨some 42, .icmp .geq (.t 36) (.t 41),some (32,false),[1,2,3,4,5,6,7,8,9,10,11,12,13,14,15,16,17,18,19]⟩,
 ⟨some 43, .pick (.t 32) (.c lB [.bool true]) (.t 42),none,[1,2,3,4,5,6,7,8,9,10,11,12,13,14,15,16,17,18,19,20]⟩,
 ⟨some 44, .nchk (.t 22),none,[0,1,2,3,4,5,6,7,8,9,10,11,12,13,14,15,16,17,18,19,20,21]⟩,
 ⟨some 45, .fad 13 1 211 4 (.t 44),none,[0,1,2,3,4,5,6,7,8,9,10,11,12,13,14,15,16,17,18,19,20,21,22]⟩,
 ⟨none, .stC (.t 45) (.t 43),none,[0,1,2,3,4,5,6,7,8,9,10,11,12,13,14,15,16,17,18,19,20,21,22,23]⟩] true 0))
 (.seq (.region [] [oq 46 (.mov (.t 0)),
 oq 47 (.nchk (.t 46)),
 oq 48 (.fad 13 1 211 4 (.t 47)),
 oq 49 (.ldC (.t 48)),
 oq 50 (.not (.t 49))] false 0)
 (.cond (.t 50) (.region [] [oq 51 (.mov (.t 0)),
 oq 52 (.nchk (.t 51)),
 oq 53 (.fad 1 1 211 3 (.t 52)),
 oq 54 (.ldC (.t 53)),
 oq 55 (.ibin .add (.t 54) (.c lI [.int 1])),
 oq 56 (.nchk (.t 51)),
 oq 57 (.fad 1 1 211 3 (.t 56)),
 ⟨none, .stC (.t 57) (.t 55),none,[]⟩] false 0)
 .skip)))
 (.seq (.region [] [oq 58 (.ld lA4 172 (.t 5)),
 ⟨none, .st lA4 (.t 2) (.t 58),none,[]⟩] false 0)
 .ret)))
 (.seq (.region [] [oq 60 (.mov (.t 3)),
 oq 61 (.icmp .eql (.t 60) (.c lU [.int 46])),
 oq 59 (.mov (.t 61))] false 0)
 (.cond (.t 59) (.region [] [oq 62 (.icall 224 189 (pattern_class_turn_i7_en) (pattern_class_turn_i7_ex) [4] 0 none [(.t 4)])] false 0)
 (.seq (.region [] [oq 64 (.mov (.t 3)),
 oq 65 (.icmp .eql (.t 64) (.c lU [.int 91])),
 oq 63 (.mov (.t 65))] false 0)
 (.cond (.t 63) (.region [] [oq 66 (.mov (.t 0)),
 oq 67 (.icall 225 190 (pattern_reader_bytes_i8_en) (pattern_reader_bytes_i8_ex) [0,1,2] 0 none [(.t 66)]),
 ⟨none, .st lA3 (.t 4) (.t 67),none,[]⟩] false 0)
 (.seq (.region [] [oq 69 (.mov (.t 3)),
 oq 70 (.icmp .eql (.t 69) (.c lU [.int 92])),
 oq 68 (.mov (.t 70))] false 0)
 (.cond (.t 68) (.seq (.seq (.region [] [oq 71 (.mov (.t 0)),
 ⟨some 72, .nchk (.t 71),none,[0]⟩,
 ⟨some 73, .fad 1 1 211 3 (.t 72),none,[0,1]⟩,
 ⟨some 74, .ldC (.t 73),none,[0,1,2]⟩,
 oq 75 (.mov (.t 0)),
 ⟨some 76, .nchk (.t 75),none,[4]⟩,
 ⟨some 77, .fad 0 1 211 9 (.t 76),none,[4,5]⟩,
 ⟨some 78, .ldC (.t 77),none,[4,5,6]⟩,
 ⟨some 79, .lenS (.t 78),none,[4,5,6,7]⟩,
 ⟨some 80, .icmp .geq (.t 74) (.t 79),none,[0,1,2,3,4,5,6,7,8]⟩] true 0)
 (.cond (.t 80) (.seq (.region [] [oq 81 (.mov (.t 0)),
 oq 82 (.nchk (.t 81)),
 oq 83 (.fad 13 1 211 4 (.t 82)),
 ⟨none, .stC (.t 83) (.c lB [.bool true]),none,[]⟩] false 0)
 (.seq (.region [] [oq 84 (.bld lA4 [.bool false, .int 0, .int 0, .int 0, .int 0, .int 0, .int 0, .int 0, .int 0] []),
 ⟨none, .st lA4 (.t 2) (.t 84),none,[]⟩] false 0)
 .ret))
 .skip))
 (.seq (.region [] [oq 85 (.mov (.t 0)),
 ⟨some 86, .nchk (.t 85),none,[0]⟩,
 ⟨some 87, .fad 0 1 211 9 (.t 86),none,[0,1]⟩,
 ⟨some 88, .ldC (.t 87),none,[0,1,2]⟩,
 oq 89 (.mov (.t 0)),
 ⟨some 90, .nchk (.t 89),none,[4]⟩,
 ⟨some 91, .fad 1 1 211 3 (.t 90),none,[4,5]⟩,
 ⟨some 92, .ldC (.t 91),none,[4,5,6]⟩,
 ⟨some 93, .idxS (.t 88) (.t 92),none,[0,1,2,3,4,5,6,7]⟩,
 ⟨some 94, .icall 227 191 (pattern_class_add_i10_en) (pattern_class_add_i10_ex) [4] 0 none [(.t 4),(.t 93)],none,[0,1,2,3,4,5,6,7,8]⟩] true 0)
 (.region [] [oq 95 (.mov (.t 0)),
 oq 96 (.nchk (.t 95)),
 oq 97 (.fad 1 1 211 3 (.t 96)),
 oq 98 (.ldC (.t 97)),
 oq 99 (.ibin .add (.t 98) (.c lI [.int 1])),
 oq 100 (.nchk (.t 95)),
 oq 101 (.fad 1 1 211 3 (.t 100)),
 ⟨none, .stC (.t 101) (.t 99),none,[]⟩] false 0)))
 (.seq (.region [] [oq 103 (.mov (.t 3)),
 oq 104 (.call 120 [lS,lU] [lI] [(.c lS [.str ([124,42,43,63,40,41,91,93]:List UInt8)]),(.t 103)]),
 oq 105 (.icmp .geq (.t 104) (.c lI [.int 0])),
 oq 102 (.mov (.t 105))] false 0)
 (.cond (.t 102) (.seq (.region [] [oq 106 (.mov (.t 0)),
 oq 107 (.nchk (.t 106)),
 oq 108 (.fad 13 1 211 4 (.t 107)),
 ⟨none, .stC (.t 108) (.c lB [.bool true]),none,[]⟩] false 0)
 (.seq (.region [] [oq 109 (.bld lA4 [.bool false, .int 0, .int 0, .int 0, .int 0, .int 0, .int 0, .int 0, .int 0] []),
 ⟨none, .st lA4 (.t 2) (.t 109),none,[]⟩] false 0)
 .ret))
 (.region [] [oq 15 (.mov (.t 3)),
 oq 16 (.icall 227 191 (pattern_class_add_i10_en) (pattern_class_add_i10_ex) [4] 0 none [(.t 4),(.t 15)])] false 0)))))))))))))
 (.seq (.region [] [oq 110 (.mov (.t 0)),
 oq 111 (.ld lA3 209 (.t 4)),
 oq 112 (.icall 228 192 (pattern_reader_position_i11_en) (pattern_reader_position_i11_ex) [0,1,2] 0 none [(.t 110),(.t 111)]),
 ⟨none, .st lA4 (.t 2) (.t 112),none,[]⟩] false 0)
 .ret))))))}
noncomputable def pattern_reader_atom_i6 (E:Env) (p0:List UInt8) (p1:Int) (p2:Bool) (p3:Int) (p4:Int) (p5:Int) (p6:Int) (p7:Int) (p8:Int) (p9:Int) (p10:Int) (p11:Bool) (p12:C) (p13:C):Option (List PV):=
 (E.ic pattern_reader_peek_i4_n [.r [.str p0], .r [.int p1], .r [.bool p2], .r [.int p3], .r [.int p4], .r [.int p5], .r [.int p6], .r [.int p7], .r [.int p8], .r [.int p9], .r [.int p10], .r [.bool p11], .r [p12], .r [p13]]).bind fun y1=>
 (if ((gI 0 y1)==40)=true then
 (E.ic pattern_reader_alternatives_i1_n [.r [.str (gS 1 y1)], .r [.int (Go.IntKind.i64.wrap ((gI 2 y1)+1))], .r [.bool (gB 3 y1)], .r [.int (gI 4 y1)], .r [.int (gI 5 y1)], .r [.int (gI 6 y1)], .r [.int (gI 7 y1)], .r [.int (gI 8 y1)], .r [.int (gI 9 y1)], .r [.int (gI 10 y1)], .r [.int (gI 11 y1)], .r [.bool (gB 12 y1)], .r [gC 13 y1], .r [gC 14 y1]]).bind fun y2=>
 (if (gB 12 y2)=true then
 some (0,[.r [.str (gS 1 y2)], .r [.int (gI 2 y2)], .r [.bool (gB 3 y2)], .r [.int (gI 4 y2)], .r [.int (gI 5 y2)], .r [.int (gI 6 y2)], .r [.int (gI 7 y2)], .r [.int (gI 8 y2)], .r [.int (gI 9 y2)], .r [.int (gI 10 y2)], .r [.int (gI 11 y2)], .r [.bool true], .r [gC 13 y2], .r [gC 14 y2], .r [.bool false, .int 0, .int 0, .int 0, .int 0, .int 0, .int 0, .int 0, .int 0], .r (gR 0 y2)])
 else
 (E.ic pattern_reader_peek_i4_n [.r [.str (gS 1 y2)], .r [.int (gI 2 y2)], .r [.bool (gB 3 y2)], .r [.int (gI 4 y2)], .r [.int (gI 5 y2)], .r [.int (gI 6 y2)], .r [.int (gI 7 y2)], .r [.int (gI 8 y2)], .r [.int (gI 9 y2)], .r [.int (gI 10 y2)], .r [.int (gI 11 y2)], .r [.bool (gB 12 y2)], .r [gC 13 y2], .r [gC 14 y2]]).bind fun y8=>
 let K9:Bool→Option (Nat×List PV):=fun q10=>
 some (0,[.r [.str (gS 1 y8)], .r [.int (gI 2 y8)], .r [.bool (gB 3 y8)], .r [.int (gI 4 y8)], .r [.int (gI 5 y8)], .r [.int (gI 6 y8)], .r [.int (gI 7 y8)], .r [.int (gI 8 y8)], .r [.int (gI 9 y8)], .r [.int (gI 10 y8)], .r [.int (gI 11 y8)], .r [.bool q10], .r [gC 13 y8], .r [gC 14 y8], .r [.bool false, .int 0, .int 0, .int 0, .int 0, .int 0, .int 0, .int 0, .int 0], .r (gR 0 y2)])
 if ((gI 0 y8) !=41)=true then
 K9 true
 else
 K9 (decide ((gI 2 y8)≥((gS 1 y8).length:Int)))).bind fun x11=>
 if (!(gB 11 x11.2))=true then
 some (1,[.r [.str (gS 0 x11.2)], .r [.int (Go.IntKind.i64.wrap ((gI 1 x11.2)+1))], .r [.bool (gB 2 x11.2)], .r [.int (gI 3 x11.2)], .r [.int (gI 4 x11.2)], .r [.int (gI 5 x11.2)], .r [.int (gI 6 x11.2)], .r [.int (gI 7 x11.2)], .r [.int (gI 8 x11.2)], .r [.int (gI 9 x11.2)], .r [.int (gI 10 x11.2)], .r [.bool (gB 11 x11.2)], .r [gC 12 x11.2], .r [gC 13 x11.2], .r (gR 15 x11.2)])
 else
 some (1,[.r [.str (gS 0 x11.2)], .r [.int (gI 1 x11.2)], .r [.bool (gB 2 x11.2)], .r [.int (gI 3 x11.2)], .r [.int (gI 4 x11.2)], .r [.int (gI 5 x11.2)], .r [.int (gI 6 x11.2)], .r [.int (gI 7 x11.2)], .r [.int (gI 8 x11.2)], .r [.int (gI 9 x11.2)], .r [.int (gI 10 x11.2)], .r [.bool (gB 11 x11.2)], .r [gC 12 x11.2], .r [gC 13 x11.2], .r (gR 15 x11.2)])
 else
 if ((gI 0 y1)==46)=true then
 (E.ic pattern_class_turn_i7_n [.r [.int 0, .int 0, .int 0, .int 0]]).bind fun y12=>
 some (0,[.r [.str (gS 1 y1)], .r [.int (Go.IntKind.i64.wrap ((gI 2 y1)+1))], .r [.bool (gB 3 y1)], .r [.int (gI 4 y1)], .r [.int (gI 5 y1)], .r [.int (gI 6 y1)], .r [.int (gI 7 y1)], .r [.int (gI 8 y1)], .r [.int (gI 9 y1)], .r [.int (gI 10 y1)], .r [.int (gI 11 y1)], .r [.bool (gB 12 y1)], .r [gC 13 y1], .r [gC 14 y1], .r [.bool false, .int 0, .int 0, .int 0, .int 0, .int 0, .int 0, .int 0, .int 0], .r (gR 0 y12)])
 else
 if ((gI 0 y1)==91)=true then
 (E.ic pattern_reader_bytes_i8_n [.r [.str (gS 1 y1)], .r [.int (Go.IntKind.i64.wrap ((gI 2 y1)+1))], .r [.bool (gB 3 y1)], .r [.int (gI 4 y1)], .r [.int (gI 5 y1)], .r [.int (gI 6 y1)], .r [.int (gI 7 y1)], .r [.int (gI 8 y1)], .r [.int (gI 9 y1)], .r [.int (gI 10 y1)], .r [.int (gI 11 y1)], .r [.bool (gB 12 y1)], .r [gC 13 y1], .r [gC 14 y1]]).bind fun y13=>
 some (0,[.r [.str (gS 1 y13)], .r [.int (gI 2 y13)], .r [.bool (gB 3 y13)], .r [.int (gI 4 y13)], .r [.int (gI 5 y13)], .r [.int (gI 6 y13)], .r [.int (gI 7 y13)], .r [.int (gI 8 y13)], .r [.int (gI 9 y13)], .r [.int (gI 10 y13)], .r [.int (gI 11 y13)], .r [.bool (gB 12 y13)], .r [gC 13 y13], .r [gC 14 y13], .r [.bool false, .int 0, .int 0, .int 0, .int 0, .int 0, .int 0, .int 0, .int 0], .r (gR 0 y13)])
 else
 if ((gI 0 y1)==92)=true then
 if (decide ((Go.IntKind.i64.wrap ((gI 2 y1)+1))≥((gS 1 y1).length:Int)))=true then
 some (1,[.r [.str (gS 1 y1)], .r [.int (Go.IntKind.i64.wrap ((gI 2 y1)+1))], .r [.bool (gB 3 y1)], .r [.int (gI 4 y1)], .r [.int (gI 5 y1)], .r [.int (gI 6 y1)], .r [.int (gI 7 y1)], .r [.int (gI 8 y1)], .r [.int (gI 9 y1)], .r [.int (gI 10 y1)], .r [.int (gI 11 y1)], .r [.bool true], .r [gC 13 y1], .r [gC 14 y1], .r [.bool false, .int 0, .int 0, .int 0, .int 0, .int 0, .int 0, .int 0, .int 0]])
 else
 if (0:Int)≤(Go.IntKind.i64.wrap ((gI 2 y1)+1))∧(Go.IntKind.i64.wrap ((gI 2 y1)+1))<((gS 1 y1).length:Int)then
 (E.ic pattern_class_add_i10_n [.r [.int (((gS 1 y1).getD ((Go.IntKind.i64.wrap ((gI 2 y1)+1)).toNat) 0).toNat:Int)], .r [.int 0, .int 0, .int 0, .int 0]]).bind fun y14=>
 some (0,[.r [.str (gS 1 y1)], .r [.int (Go.IntKind.i64.wrap ((Go.IntKind.i64.wrap ((gI 2 y1)+1))+1))], .r [.bool (gB 3 y1)], .r [.int (gI 4 y1)], .r [.int (gI 5 y1)], .r [.int (gI 6 y1)], .r [.int (gI 7 y1)], .r [.int (gI 8 y1)], .r [.int (gI 9 y1)], .r [.int (gI 10 y1)], .r [.int (gI 11 y1)], .r [.bool (gB 12 y1)], .r [gC 13 y1], .r [gC 14 y1], .r [.bool false, .int 0, .int 0, .int 0, .int 0, .int 0, .int 0, .int 0, .int 0], .r (gR 0 y14)])
 else none
 else
 (E.pc n_strings_IndexByte [[.str ([124,42,43,63,40,41,91,93]:List UInt8)],[.int (gI 0 y1)]]).bind fun y15=>
 if (decide (((at_ (rowsAt y15 0) 0).toI)≥0))=true then
 some (1,[.r [.str (gS 1 y1)], .r [.int (Go.IntKind.i64.wrap ((gI 2 y1)+1))], .r [.bool (gB 3 y1)], .r [.int (gI 4 y1)], .r [.int (gI 5 y1)], .r [.int (gI 6 y1)], .r [.int (gI 7 y1)], .r [.int (gI 8 y1)], .r [.int (gI 9 y1)], .r [.int (gI 10 y1)], .r [.int (gI 11 y1)], .r [.bool true], .r [gC 13 y1], .r [gC 14 y1], .r [.bool false, .int 0, .int 0, .int 0, .int 0, .int 0, .int 0, .int 0, .int 0]])
 else
 (E.ic pattern_class_add_i10_n [.r [.int (gI 0 y1)], .r [.int 0, .int 0, .int 0, .int 0]]).bind fun y16=>
 some (0,[.r [.str (gS 1 y1)], .r [.int (Go.IntKind.i64.wrap ((gI 2 y1)+1))], .r [.bool (gB 3 y1)], .r [.int (gI 4 y1)], .r [.int (gI 5 y1)], .r [.int (gI 6 y1)], .r [.int (gI 7 y1)], .r [.int (gI 8 y1)], .r [.int (gI 9 y1)], .r [.int (gI 10 y1)], .r [.int (gI 11 y1)], .r [.bool (gB 12 y1)], .r [gC 13 y1], .r [gC 14 y1], .r [.bool false, .int 0, .int 0, .int 0, .int 0, .int 0, .int 0, .int 0, .int 0], .r (gR 0 y16)])).bind fun x17=>
 match x17.1 with
 |0=>
 (E.ic pattern_reader_position_i11_n [.r (gR 15 x17.2), .r [.str (gS 0 x17.2)], .r [.int (gI 1 x17.2)], .r [.bool (gB 2 x17.2)], .r [.int (gI 3 x17.2)], .r [.int (gI 4 x17.2)], .r [.int (gI 5 x17.2)], .r [.int (gI 6 x17.2)], .r [.int (gI 7 x17.2)], .r [.int (gI 8 x17.2)], .r [.int (gI 9 x17.2)], .r [.int (gI 10 x17.2)], .r [.bool (gB 11 x17.2)], .r [gC 12 x17.2], .r [gC 13 x17.2]]).bind fun y19=>
 some [.r (gR 0 y19), .r [.str (gS 1 y19)], .r [.int (gI 2 y19)], .r [.bool (gB 3 y19)], .r [.int (gI 4 y19)], .r [.int (gI 5 y19)], .r [.int (gI 6 y19)], .r [.int (gI 7 y19)], .r [.int (gI 8 y19)], .r [.int (gI 9 y19)], .r [.int (gI 10 y19)], .r [.int (gI 11 y19)], .r [.bool (gB 12 y19)], .r [gC 13 y19], .r [gC 14 y19]]
 |i18+1=>
 some [.r (gR 14 x17.2), .r [.str (gS 0 x17.2)], .r [.int (gI 1 x17.2)], .r [.bool (gB 2 x17.2)], .r [.int (gI 3 x17.2)], .r [.int (gI 4 x17.2)], .r [.int (gI 5 x17.2)], .r [.int (gI 6 x17.2)], .r [.int (gI 7 x17.2)], .r [.int (gI 8 x17.2)], .r [.int (gI 9 x17.2)], .r [.int (gI 10 x17.2)], .r [.bool (gB 11 x17.2)], .r [gC 12 x17.2], .r [gC 13 x17.2]]
theorem pattern_reader_atom_i6_eq (E:Env) (p0:List UInt8) (p1:Int) (p2:Bool) (p3:Int) (p4:Int) (p5:Int) (p6:Int) (p7:Int) (p8:Int) (p9:Int) (p10:Int) (p11:Bool) (p12:C) (p13:C):runI E pattern_reader_atom_i6_a [.r [.str p0], .r [.int p1], .r [.bool p2], .r [.int p3], .r [.int p4], .r [.int p5], .r [.int p6], .r [.int p7], .r [.int p8], .r [.int p9], .r [.int p10], .r [.bool p11], .r [p12], .r [p13]]=pattern_reader_atom_i6 E p0 p1 p2 p3 p4 p5 p6 p7 p8 p9 p10 p11 p12 p13:=by kernel_rfl
def pattern_set_has_a:AFun:={ps:=[(.one (.ref 170)),lI],rs:=[lB],res:=[(false,4,none)],body:=(.seq (.region [] [oq 4 (.mov (.c lB [.bool false]))] false 0)
 (.seq (.region [] [oq 5 (.mov (.t 0)),
 oq 6 (.mov (.t 1)),
 oq 7 (.idiv .quo (.t 6) (.c lI [.int 64])),
 oq 8 (.nchk (.t 5)),
 oq 9 (.iadA 4 170 135 lW (.t 8) (.t 7)),
 oq 10 (.ld lW 135 (.t 9)),
 oq 11 (.mov (.t 1)),
 oq 12 (.idiv .rem (.t 11) (.c lI [.int 64])),
 oq 13 (.shf .shr (.t 10) (.t 12)),
 oq 14 (.ibin .and (.t 13) (.c lW [.int 1])),
 oq 15 (.icmp .eql (.t 14) (.c lW [.int 1])),
 oq 4 (.mov (.t 15))] false 0)
 .ret))}
noncomputable def pattern_set_has (E:Env) (p0:C) (p1:Int):Option (List Row):=
 if p0.isDp=true then
 if (0:Int)≤(Go.IntKind.i64.wrap (p1.tdiv 64))∧(Go.IntKind.i64.wrap (p1.tdiv 64))<(4:Int)∧p0.isDp=true then
 if p1.tmod 64<0 then none else some [[.bool ((bitsOf .and .u64 (((at_ p0.dpRow (((Go.IntKind.i64.wrap (p1.tdiv 64)).toNat)*1)).toI).fdiv (2^(min ((p1.tmod 64).toNat) (Go.IntKind.bits .u64)))) 1)==1)]]
 else none
 else none
theorem pattern_set_has_eq (E:Env) (p0:C) (p1:Int):runP E pattern_set_has_a [[p0],[.int p1]]=pattern_set_has E p0 p1:=by kernel_rfl
def pattern_set_join_i15_h0:Shape:={slots:=[(0, .aptr 0),(3, .d (.one (.ref 170))),(5, .d lI)],objs:=bS4,m:=3}
def pattern_set_join_i15_o0:List (Exit'×Shape):=[(.exit 0,{slots:=[],objs:=bS4,m:=3})]
def pattern_set_join_i15_c0:ACode:=(.seq (.region [] [oq 6 (.icmp .lss (.t 5) (.c lI [.int 4]))] false 0)
 (.seq (.cond (.t 6) .skip
 (.exit 0))
 (.seq (.block 1 (.seq (.region [] [oq 7 (.mov (.t 5)),
 oq 4 (.mov (.t 7))] false 0)
 (.region [] [oq 8 (.mov (.t 0)),
 oq 9 (.mov (.t 4)),
 ⟨some 10, .nchk (.t 8),none,[0]⟩,
 ⟨some 11, .iadA 4 170 135 lW (.t 10) (.t 9),none,[0,1,2]⟩,
 ⟨some 12, .ld lW 135 (.t 11),none,[0,1,2,3]⟩,
 oq 13 (.mov (.t 4)),
 ⟨some 14, .iadA 4 170 135 lW (.t 3) (.t 13),none,[5]⟩,
 ⟨some 15, .ld lW 135 (.t 14),none,[5,6]⟩,
 ⟨some 16, .ibin .or (.t 12) (.t 15),none,[0,1,2,3,4,5,6,7]⟩,
 ⟨some 17, .nchk (.t 8),none,[0]⟩,
 ⟨some 18, .iadA 4 170 135 lW (.t 17) (.t 9),none,[0,1,2,3,4,5,6,7,8,9]⟩,
 ⟨none, .st lW (.t 18) (.t 16),none,[0,1,2,3,4,5,6,7,8,9,10]⟩] true 0)))
 (.region [] [oq 19 (.ibin .add (.t 5) (.c lI [.int 1])),
 oq 5 (.mov (.t 19))] false 0))))
noncomputable def pattern_set_join_i15_l0 (E:Env) (v0:Row) (v1:C) (v2:Int) (v3:C) (v4:List UInt8) (v5:Int) (v6:Bool) (v7:Int) (v8:Int) (v9:Int) (v10:Int) (v11:Int) (v12:Int) (v13:Int) (v14:Int) (v15:Bool) (v16:C):Option (Nat×List PV):=E.fix (stepOf E pattern_set_join_i15_c0 pattern_set_join_i15_h0 pattern_set_join_i15_o0) [.r v0, .r [v1], .r [.int v2], .r [v3], .r [.str v4], .r [.int v5], .r [.bool v6], .r [.int v7], .r [.int v8], .r [.int v9], .r [.int v10], .r [.int v11], .r [.int v12], .r [.int v13], .r [.int v14], .r [.bool v15], .r [v16]]
noncomputable def pattern_set_join_i15_b0 (E:Env) (X:Row→C→Int→C→List UInt8→Int→Bool→Int→Int→Int→Int→Int→Int→Int→Int→Bool→C→Option (Nat×List PV)) (v0:Row) (v1:C) (v2:Int) (v3:C) (v4:List UInt8) (v5:Int) (v6:Bool) (v7:Int) (v8:Int) (v9:Int) (v10:Int) (v11:Int) (v12:Int) (v13:Int) (v14:Int) (v15:Bool) (v16:C):Option (Nat×List PV):=
 if (decide (v2<4))=true then
 if (0:Int)≤v2∧v2<(4:Int)then
 if (((at_ v0 0).toI).toNat)<v3.rows.length then
 part lW lA3 ((((at_ v0 1).toI).toNat)+(v2.toNat*1)) (rowsAt v3.rows (((at_ v0 0).toI).toNat)) fun y1=>
 if (0:Int)≤v2∧v2<(4:Int)∧v1.isDp=true then
 if (0:Int)≤v2∧v2<(4:Int)then
 if (((at_ v0 0).toI).toNat)<v3.rows.length then
 turn lW lA3 ((((at_ v0 1).toI).toNat)+(v2.toNat*1)) (rowsAt v3.rows (((at_ v0 0).toI).toNat)) [.int (bitsOf .or .u64 ((at_ y1 0).toI) ((at_ v1.dpRow (v2.toNat*1)).toI))] fun r2=>
 X [.int ((((at_ v0 0).toI).toNat:Nat):Int), .int ((((at_ v0 1).toI).toNat:Nat):Int)] v1 (Go.IntKind.i64.wrap (v2+1)) (.sl (v3.rows.set (((at_ v0 0).toI).toNat) r2)) v4 v5 v6 v7 v8 v9 v10 v11 v12 v13 v14 v15 v16
 else none
 else none
 else none
 else none
 else none
 else
 some (0,[.r [v3], .r [.str v4], .r [.int v5], .r [.bool v6], .r [.int v7], .r [.int v8], .r [.int v9], .r [.int v10], .r [.int v11], .r [.int v12], .r [.int v13], .r [.int v14], .r [.bool v15], .r [v16]])
theorem pattern_set_join_i15_s0 (E:Env) (X:List PV→Option (Nat×List PV)) (v0:Row) (v1:C) (v2:Int) (v3:C) (v4:List UInt8) (v5:Int) (v6:Bool) (v7:Int) (v8:Int) (v9:Int) (v10:Int) (v11:Int) (v12:Int) (v13:Int) (v14:Int) (v15:Bool) (v16:C):stepOf E pattern_set_join_i15_c0 pattern_set_join_i15_h0 pattern_set_join_i15_o0 X [.r v0, .r [v1], .r [.int v2], .r [v3], .r [.str v4], .r [.int v5], .r [.bool v6], .r [.int v7], .r [.int v8], .r [.int v9], .r [.int v10], .r [.int v11], .r [.int v12], .r [.int v13], .r [.int v14], .r [.bool v15], .r [v16]]=pattern_set_join_i15_b0 E (fun (v0:Row) (v1:C) (v2:Int) (v3:C) (v4:List UInt8) (v5:Int) (v6:Bool) (v7:Int) (v8:Int) (v9:Int) (v10:Int) (v11:Int) (v12:Int) (v13:Int) (v14:Int) (v15:Bool) (v16:C)=>X [.r v0, .r [v1], .r [.int v2], .r [v3], .r [.str v4], .r [.int v5], .r [.bool v6], .r [.int v7], .r [.int v8], .r [.int v9], .r [.int v10], .r [.int v11], .r [.int v12], .r [.int v13], .r [.int v14], .r [.bool v15], .r [v16]]) v0 v1 v2 v3 v4 v5 v6 v7 v8 v9 v10 v11 v12 v13 v14 v15 v16:=by kernel_rfl
def pattern_set_join_i15_a:AImp:={fn:=164,entry:=pattern_set_join_i15_en,res:=[],exit:=pattern_set_join_i15_ex,body:=(.seq (.region [] [oq 3 (.boxP lA3 170 (.t 1))] false 0)
 (.seq (.region [] [oq 5 (.mov (.c lI [.int 0]))] false 0)
 (.block 0 (.loop pattern_set_join_i15_h0 pattern_set_join_i15_o0 pattern_set_join_i15_c0))))}
noncomputable def pattern_set_join_i15 (E:Env) (p0:Row) (p1:Row) (p2:C) (p3:List UInt8) (p4:Int) (p5:Bool) (p6:Int) (p7:Int) (p8:Int) (p9:Int) (p10:Int) (p11:Int) (p12:Int) (p13:Int) (p14:Bool) (p15:C):Option (List PV):=
 (pattern_set_join_i15_l0 E [.int ((((at_ p0 0).toI).toNat:Nat):Int), .int ((((at_ p0 1).toI).toNat:Nat):Int)] (.dp p1) 0 p2 p3 p4 p5 p6 p7 p8 p9 p10 p11 p12 p13 p14 p15).bind fun x3=>
 some [.r [gC 0 x3.2], .r [.str (gS 1 x3.2)], .r [.int (gI 2 x3.2)], .r [.bool (gB 3 x3.2)], .r [.int (gI 4 x3.2)], .r [.int (gI 5 x3.2)], .r [.int (gI 6 x3.2)], .r [.int (gI 7 x3.2)], .r [.int (gI 8 x3.2)], .r [.int (gI 9 x3.2)], .r [.int (gI 10 x3.2)], .r [.int (gI 11 x3.2)], .r [.bool (gB 12 x3.2)], .r [gC 13 x3.2]]
theorem pattern_set_join_i15_eq (E:Env) (p0:Row) (p1:Row) (p2:C) (p3:List UInt8) (p4:Int) (p5:Bool) (p6:Int) (p7:Int) (p8:Int) (p9:Int) (p10:Int) (p11:Int) (p12:Int) (p13:Int) (p14:Bool) (p15:C):runI E pattern_set_join_i15_a [.r p0, .r p1, .r [p2], .r [.str p3], .r [.int p4], .r [.bool p5], .r [.int p6], .r [.int p7], .r [.int p8], .r [.int p9], .r [.int p10], .r [.int p11], .r [.int p12], .r [.int p13], .r [.bool p14], .r [p15]]=pattern_set_join_i15 E p0 p1 p2 p3 p4 p5 p6 p7 p8 p9 p10 p11 p12 p13 p14 p15:=by kernel_rfl
def pattern_reader_link_i14_h0:Shape:={slots:=[(0, .ptr 0 0),(4, .d (.one (.ref 170))),(5, .d (.one (.ref 170))),(12, .d lI),(13, .d lI)],objs:=bS1,m:=3}
def pattern_reader_link_i14_o0:List (Exit'×Shape):=[(.exit 0,{slots:=[],objs:=bS1,m:=3})]
def pattern_reader_link_i14_c0:ACode:=(.seq (.region [] [oq 14 (.icmp .lss (.t 13) (.t 12))] false 0)
 (.seq (.cond (.t 14) .skip
 (.exit 0))
 (.seq (.block 1 (.seq (.region [] [oq 15 (.mov (.t 13)),
 oq 6 (.mov (.t 15))] false 0)
 (.seq (.region [] [oq 16 (.mov (.t 6)),
 oq 17 (.call 163 [(.one (.ref 170)),lI] [lB] [(.t 4),(.t 16)])] false 0)
 (.cond (.t 17) (.region [] [oq 18 (.mov (.t 0)),
 ⟨some 19, .nchk (.t 18),none,[0]⟩,
 ⟨some 20, .fad 2 11 211 174 (.t 19),none,[0,1]⟩,
 ⟨some 21, .fad 1 1 174 168 (.t 20),none,[0,1,2]⟩,
 ⟨some 22, .ldC (.t 21),none,[0,1,2,3]⟩,
 oq 23 (.mov (.t 6)),
 ⟨some 24, .iad 170 lA3 (.t 22) (.t 23),none,[0,1,2,3,4,5]⟩,
 oq 25 (.ld lA3 170 (.t 5)),
 ⟨some 26, .icall 232 164 (pattern_set_join_i15_en) (pattern_set_join_i15_ex) [2,0,1] 0 none [(.t 24),(.t 25)],none,[0,1,2,3,4,5,6,7]⟩] true 0)
 .skip))))
 (.region [] [oq 27 (.ibin .add (.t 13) (.c lI [.int 1])),
 oq 13 (.mov (.t 27))] false 0))))
noncomputable def pattern_reader_link_i14_l0 (E:Env) (v0:C) (v1:C) (v2:Int) (v3:Int) (v4:List UInt8) (v5:Int) (v6:Bool) (v7:Int) (v8:Int) (v9:Int) (v10:Int) (v11:Int) (v12:Int) (v13:Int) (v14:Int) (v15:Bool) (v16:C) (v17:C):Option (Nat×List PV):=E.fix (stepOf E pattern_reader_link_i14_c0 pattern_reader_link_i14_h0 pattern_reader_link_i14_o0) [.r [v0], .r [v1], .r [.int v2], .r [.int v3], .r [.str v4], .r [.int v5], .r [.bool v6], .r [.int v7], .r [.int v8], .r [.int v9], .r [.int v10], .r [.int v11], .r [.int v12], .r [.int v13], .r [.int v14], .r [.bool v15], .r [v16], .r [v17]]
noncomputable def pattern_reader_link_i14_b0 (E:Env) (X:C→C→Int→Int→List UInt8→Int→Bool→Int→Int→Int→Int→Int→Int→Int→Int→Bool→C→C→Option (Nat×List PV)) (v0:C) (v1:C) (v2:Int) (v3:Int) (v4:List UInt8) (v5:Int) (v6:Bool) (v7:Int) (v8:Int) (v9:Int) (v10:Int) (v11:Int) (v12:Int) (v13:Int) (v14:Int) (v15:Bool) (v16:C) (v17:C):Option (Nat×List PV):=
 if (decide (v3<v2))=true then
 (E.pc n_pattern_set_has [[v0],[.int v3]]).bind fun y1=>
 if ((at_ (rowsAt y1 0) 0).toB)=true then
 if (0:Int)≤v3∧v3<(v17.rows.length:Int)then
 if v1.isDp=true then
 (E.ic pattern_set_join_i15_n [.r [.int ((v3.toNat:Nat):Int), .int ((0:Nat):Int)], .r v1.dpRow, .r [v17], .r [.str v4], .r [.int v5], .r [.bool v6], .r [.int v7], .r [.int v8], .r [.int v9], .r [.int v10], .r [.int v11], .r [.int v12], .r [.int v13], .r [.int v14], .r [.bool v15], .r [v16]]).bind fun y2=>
 X v0 v1 v2 (Go.IntKind.i64.wrap (v3+1)) (gS 1 y2) (gI 2 y2) (gB 3 y2) (gI 4 y2) (gI 5 y2) (gI 6 y2) (gI 7 y2) (gI 8 y2) (gI 9 y2) (gI 10 y2) (gI 11 y2) (gB 12 y2) (gC 13 y2) (gC 0 y2)
 else none
 else none
 else
 X v0 v1 v2 (Go.IntKind.i64.wrap (v3+1)) v4 v5 v6 v7 v8 v9 v10 v11 v12 v13 v14 v15 v16 v17
 else
 some (0,[.r [.str v4], .r [.int v5], .r [.bool v6], .r [.int v7], .r [.int v8], .r [.int v9], .r [.int v10], .r [.int v11], .r [.int v12], .r [.int v13], .r [.int v14], .r [.bool v15], .r [v16], .r [v17]])
theorem pattern_reader_link_i14_s0 (E:Env) (X:List PV→Option (Nat×List PV)) (v0:C) (v1:C) (v2:Int) (v3:Int) (v4:List UInt8) (v5:Int) (v6:Bool) (v7:Int) (v8:Int) (v9:Int) (v10:Int) (v11:Int) (v12:Int) (v13:Int) (v14:Int) (v15:Bool) (v16:C) (v17:C):stepOf E pattern_reader_link_i14_c0 pattern_reader_link_i14_h0 pattern_reader_link_i14_o0 X [.r [v0], .r [v1], .r [.int v2], .r [.int v3], .r [.str v4], .r [.int v5], .r [.bool v6], .r [.int v7], .r [.int v8], .r [.int v9], .r [.int v10], .r [.int v11], .r [.int v12], .r [.int v13], .r [.int v14], .r [.bool v15], .r [v16], .r [v17]]=pattern_reader_link_i14_b0 E (fun (v0:C) (v1:C) (v2:Int) (v3:Int) (v4:List UInt8) (v5:Int) (v6:Bool) (v7:Int) (v8:Int) (v9:Int) (v10:Int) (v11:Int) (v12:Int) (v13:Int) (v14:Int) (v15:Bool) (v16:C) (v17:C)=>X [.r [v0], .r [v1], .r [.int v2], .r [.int v3], .r [.str v4], .r [.int v5], .r [.bool v6], .r [.int v7], .r [.int v8], .r [.int v9], .r [.int v10], .r [.int v11], .r [.int v12], .r [.int v13], .r [.int v14], .r [.bool v15], .r [v16], .r [v17]]) v0 v1 v2 v3 v4 v5 v6 v7 v8 v9 v10 v11 v12 v13 v14 v15 v16 v17:=by kernel_rfl
def pattern_reader_link_i14_a:AImp:={fn:=187,entry:=pattern_reader_link_i14_en,res:=[],exit:=pattern_reader_link_i14_ex,body:=(.seq (.region [] [oq 4 (.boxP lA3 170 (.t 1)),
 oq 5 (.boxP lA3 170 (.t 2))] false 0)
 (.seq (.region [] [oq 7 (.mov (.t 0)),
 oq 8 (.nchk (.t 7)),
 oq 9 (.fad 2 11 211 174 (.t 8)),
 oq 10 (.fad 1 1 174 168 (.t 9)),
 oq 11 (.ldC (.t 10)),
 oq 12 (.lenL (.t 11)),
 oq 13 (.mov (.c lI [.int 0]))] false 0)
 (.block 0 (.loop pattern_reader_link_i14_h0 pattern_reader_link_i14_o0 pattern_reader_link_i14_c0))))}
noncomputable def pattern_reader_link_i14 (E:Env) (p0:Row) (p1:Row) (p2:List UInt8) (p3:Int) (p4:Bool) (p5:Int) (p6:Int) (p7:Int) (p8:Int) (p9:Int) (p10:Int) (p11:Int) (p12:Int) (p13:Bool) (p14:C) (p15:C):Option (List PV):=
 (pattern_reader_link_i14_l0 E (.dp p0) (.dp p1) (p15.rows.length:Int) 0 p2 p3 p4 p5 p6 p7 p8 p9 p10 p11 p12 p13 p14 p15).bind fun x3=>
 some [.r [.str (gS 0 x3.2)], .r [.int (gI 1 x3.2)], .r [.bool (gB 2 x3.2)], .r [.int (gI 3 x3.2)], .r [.int (gI 4 x3.2)], .r [.int (gI 5 x3.2)], .r [.int (gI 6 x3.2)], .r [.int (gI 7 x3.2)], .r [.int (gI 8 x3.2)], .r [.int (gI 9 x3.2)], .r [.int (gI 10 x3.2)], .r [.bool (gB 11 x3.2)], .r [gC 12 x3.2], .r [gC 13 x3.2]]
theorem pattern_reader_link_i14_eq (E:Env) (p0:Row) (p1:Row) (p2:List UInt8) (p3:Int) (p4:Bool) (p5:Int) (p6:Int) (p7:Int) (p8:Int) (p9:Int) (p10:Int) (p11:Int) (p12:Int) (p13:Bool) (p14:C) (p15:C):runI E pattern_reader_link_i14_a [.r p0, .r p1, .r [.str p2], .r [.int p3], .r [.bool p4], .r [.int p5], .r [.int p6], .r [.int p7], .r [.int p8], .r [.int p9], .r [.int p10], .r [.int p11], .r [.int p12], .r [.bool p13], .r [p14], .r [p15]]=pattern_reader_link_i14 E p0 p1 p2 p3 p4 p5 p6 p7 p8 p9 p10 p11 p12 p13 p14 p15:=by kernel_rfl
def pattern_reader_item_i5_a:AImp:={fn:=186,entry:=pattern_reader_item_i5_en,res:=[.var 2 lA4],exit:=pattern_reader_item_i5_ex,body:=(.seq (.region [] [oq 2 (.allocO 0 lA4 [.bool false, .int 0, .int 0, .int 0, .int 0, .int 0, .int 0, .int 0, .int 0])] false 1)
 (.seq (.region [] [oq 5 (.mov (.t 0)),
 oq 6 (.icall 223 188 (pattern_reader_atom_i6_en) (pattern_reader_atom_i6_ex) [0,1,2] 0 none [(.t 5)]),
 oq 3 (.allocO 0 lA4 [.bool false, .int 0, .int 0, .int 0, .int 0, .int 0, .int 0, .int 0, .int 0]),
 ⟨none, .st lA4 (.t 3) (.t 6),none,[]⟩] false 1)
 (.seq (.seq (.region [] [oq 7 (.mov (.t 0)),
 oq 8 (.icall 220 182 (pattern_reader_more_i3_en) (pattern_reader_more_i3_ex) [0,1,2] 0 none [(.t 7)]),
 oq 9 (.not (.t 8))] false 0)
 (.cond (.t 9) (.seq (.region [] [oq 10 (.ld lA4 172 (.t 3)),
 ⟨none, .st lA4 (.t 2) (.t 10),none,[]⟩] false 0)
 .ret)
 .skip))
 (.seq (.region [] [oq 11 (.mov (.t 0)),
 oq 12 (.icall 221 183 (pattern_reader_peek_i4_en) (pattern_reader_peek_i4_ex) [0,1,2] 0 none [(.t 11)]),
 oq 4 (.mov (.t 12))] false 0)
 (.seq (.seq (.join [(.normal,{slots:=[(0, .ptr 0 0),(2, .ptr 3 0),(3, .ptr 4 0),(4, .d lU),(22, .d lB)],objs:=bS3,m:=3})] (.region [] [oq 13 (.mov (.t 4)),
 oq 14 (.icmp .neq (.t 13) (.c lU [.int 42])),
 oq 15 (.mov (.t 14)),
 ⟨some 16, .mov (.t 4),some (15,true),[]⟩,
 ⟨some 17, .icmp .neq (.t 16) (.c lU [.int 43]),some (15,true),[]⟩,
 oq 18 (.pick (.t 15) (.t 17) (.c lB [.bool false])),
 oq 19 (.mov (.t 18)),
 ⟨some 20, .mov (.t 4),some (19,true),[]⟩,
 ⟨some 21, .icmp .neq (.t 20) (.c lU [.int 63]),some (19,true),[]⟩,
 oq 22 (.pick (.t 19) (.t 21) (.c lB [.bool false]))] false 0))
 (.cond (.t 22) (.seq (.region [] [oq 23 (.ld lA4 172 (.t 3)),
 ⟨none, .st lA4 (.t 2) (.t 23),none,[]⟩] false 0)
 .ret)
 .skip))
 (.seq (.region [] [oq 24 (.mov (.t 0)),
 oq 25 (.nchk (.t 24)),
 oq 26 (.fad 1 1 211 3 (.t 25)),
 oq 27 (.ldC (.t 26)),
 oq 28 (.ibin .add (.t 27) (.c lI [.int 1])),
 oq 29 (.nchk (.t 24)),
 oq 30 (.fad 1 1 211 3 (.t 29)),
 ⟨none, .stC (.t 30) (.t 28),none,[]⟩] false 0)
 (.seq (.seq (.region [] [oq 31 (.mov (.t 4)),
 oq 32 (.icmp .neq (.t 31) (.c lU [.int 63]))] false 0)
 (.cond (.t 32) (.region [] [oq 33 (.mov (.t 0)),
 oq 34 (.fad 5 4 172 170 (.t 3)),
 oq 35 (.ld lA3 170 (.t 34)),
 oq 36 (.fad 1 4 172 170 (.t 3)),
 oq 37 (.ld lA3 170 (.t 36)),
 oq 38 (.icall 231 187 (pattern_reader_link_i14_en) (pattern_reader_link_i14_ex) [0,1,2] 0 none [(.t 33),(.t 35),(.t 37)])] false 0)
 .skip))
 (.seq (.region [] [oq 39 (.fad 0 1 172 4 (.t 3)),
 oq 40 (.ld lB 4 (.t 39)),
 oq 41 (.mov (.t 40)),
 ⟨some 42, .mov (.t 4),some (41,false),[]⟩,
 ⟨some 43, .icmp .neq (.t 42) (.c lU [.int 43]),some (41,false),[]⟩,
 oq 44 (.pick (.t 41) (.c lB [.bool true]) (.t 43)),
 oq 45 (.fad 0 1 172 4 (.t 3)),
 ⟨none, .st lB (.t 45) (.t 44),none,[]⟩] false 0)
 (.seq (.region [] [oq 46 (.ld lA4 172 (.t 3)),
 ⟨none, .st lA4 (.t 2) (.t 46),none,[]⟩] false 0)
 .ret)))))))))}
noncomputable def pattern_reader_item_i5 (E:Env) (p0:List UInt8) (p1:Int) (p2:Bool) (p3:Int) (p4:Int) (p5:Int) (p6:Int) (p7:Int) (p8:Int) (p9:Int) (p10:Int) (p11:Bool) (p12:C) (p13:C):Option (List PV):=
 (E.ic pattern_reader_atom_i6_n [.r [.str p0], .r [.int p1], .r [.bool p2], .r [.int p3], .r [.int p4], .r [.int p5], .r [.int p6], .r [.int p7], .r [.int p8], .r [.int p9], .r [.int p10], .r [.bool p11], .r [p12], .r [p13]]).bind fun y1=>
 (E.ic pattern_reader_more_i3_n [.r [.str (gS 1 y1)], .r [.int (gI 2 y1)], .r [.bool (gB 3 y1)], .r [.int (gI 4 y1)], .r [.int (gI 5 y1)], .r [.int (gI 6 y1)], .r [.int (gI 7 y1)], .r [.int (gI 8 y1)], .r [.int (gI 9 y1)], .r [.int (gI 10 y1)], .r [.int (gI 11 y1)], .r [.bool (gB 12 y1)], .r [gC 13 y1], .r [gC 14 y1]]).bind fun y2=>
 if (!(gB 0 y2))=true then
 some [.r (gR 0 y1), .r [.str (gS 1 y2)], .r [.int (gI 2 y2)], .r [.bool (gB 3 y2)], .r [.int (gI 4 y2)], .r [.int (gI 5 y2)], .r [.int (gI 6 y2)], .r [.int (gI 7 y2)], .r [.int (gI 8 y2)], .r [.int (gI 9 y2)], .r [.int (gI 10 y2)], .r [.int (gI 11 y2)], .r [.bool (gB 12 y2)], .r [gC 13 y2], .r [gC 14 y2]]
 else
 (E.ic pattern_reader_peek_i4_n [.r [.str (gS 1 y2)], .r [.int (gI 2 y2)], .r [.bool (gB 3 y2)], .r [.int (gI 4 y2)], .r [.int (gI 5 y2)], .r [.int (gI 6 y2)], .r [.int (gI 7 y2)], .r [.int (gI 8 y2)], .r [.int (gI 9 y2)], .r [.int (gI 10 y2)], .r [.int (gI 11 y2)], .r [.bool (gB 12 y2)], .r [gC 13 y2], .r [gC 14 y2]]).bind fun y3=>
 (let K4:Bool→Option (Nat×List PV):=fun q5=>
 let K6:Bool→Option (Nat×List PV):=fun q7=>
 some (0,[.r [.int (gI 0 y3)], .r [.bool q7], .r [.str (gS 1 y3)], .r [.int (gI 2 y3)], .r [.bool (gB 3 y3)], .r [.int (gI 4 y3)], .r [.int (gI 5 y3)], .r [.int (gI 6 y3)], .r [.int (gI 7 y3)], .r [.int (gI 8 y3)], .r [.int (gI 9 y3)], .r [.int (gI 10 y3)], .r [.int (gI 11 y3)], .r [.bool (gB 12 y3)], .r [gC 13 y3], .r [gC 14 y3], .r [.bool false, .int 0, .int 0, .int 0, .int 0, .int 0, .int 0, .int 0, .int 0], .r (gR 0 y1)])
 if q5=true then
 K6 ((gI 0 y3) !=63)
 else
 K6 false
 if ((gI 0 y3) !=42)=true then
 K4 ((gI 0 y3) !=43)
 else
 K4 false).bind fun x8=>
 if (gB 1 x8.2)=true then
 some [.r (gR 17 x8.2), .r [.str (gS 2 x8.2)], .r [.int (gI 3 x8.2)], .r [.bool (gB 4 x8.2)], .r [.int (gI 5 x8.2)], .r [.int (gI 6 x8.2)], .r [.int (gI 7 x8.2)], .r [.int (gI 8 x8.2)], .r [.int (gI 9 x8.2)], .r [.int (gI 10 x8.2)], .r [.int (gI 11 x8.2)], .r [.int (gI 12 x8.2)], .r [.bool (gB 13 x8.2)], .r [gC 14 x8.2], .r [gC 15 x8.2]]
 else
 if ((gI 0 x8.2) !=63)=true then
 (E.ic pattern_reader_link_i14_n [.r [at_ (gR 17 x8.2) 5,at_ (gR 17 x8.2) 6,at_ (gR 17 x8.2) 7,at_ (gR 17 x8.2) 8], .r [at_ (gR 17 x8.2) 1,at_ (gR 17 x8.2) 2,at_ (gR 17 x8.2) 3,at_ (gR 17 x8.2) 4], .r [.str (gS 2 x8.2)], .r [.int (Go.IntKind.i64.wrap ((gI 3 x8.2)+1))], .r [.bool (gB 4 x8.2)], .r [.int (gI 5 x8.2)], .r [.int (gI 6 x8.2)], .r [.int (gI 7 x8.2)], .r [.int (gI 8 x8.2)], .r [.int (gI 9 x8.2)], .r [.int (gI 10 x8.2)], .r [.int (gI 11 x8.2)], .r [.int (gI 12 x8.2)], .r [.bool (gB 13 x8.2)], .r [gC 14 x8.2], .r [gC 15 x8.2]]).bind fun y9=>
 let K10:Bool→Option (List PV):=fun q11=>
 some [.r [.bool q11,at_ (gR 17 x8.2) 1,at_ (gR 17 x8.2) 2,at_ (gR 17 x8.2) 3,at_ (gR 17 x8.2) 4,at_ (gR 17 x8.2) 5,at_ (gR 17 x8.2) 6,at_ (gR 17 x8.2) 7,at_ (gR 17 x8.2) 8], .r [.str (gS 0 y9)], .r [.int (gI 1 y9)], .r [.bool (gB 2 y9)], .r [.int (gI 3 y9)], .r [.int (gI 4 y9)], .r [.int (gI 5 y9)], .r [.int (gI 6 y9)], .r [.int (gI 7 y9)], .r [.int (gI 8 y9)], .r [.int (gI 9 y9)], .r [.int (gI 10 y9)], .r [.bool (gB 11 y9)], .r [gC 12 y9], .r [gC 13 y9]]
 if (gB 17 x8.2)=true then
 K10 true
 else
 K10 ((gI 0 x8.2) !=43)
 else
 let K12:Bool→Option (List PV):=fun q13=>
 some [.r [.bool q13,at_ (gR 17 x8.2) 1,at_ (gR 17 x8.2) 2,at_ (gR 17 x8.2) 3,at_ (gR 17 x8.2) 4,at_ (gR 17 x8.2) 5,at_ (gR 17 x8.2) 6,at_ (gR 17 x8.2) 7,at_ (gR 17 x8.2) 8], .r [.str (gS 2 x8.2)], .r [.int (Go.IntKind.i64.wrap ((gI 3 x8.2)+1))], .r [.bool (gB 4 x8.2)], .r [.int (gI 5 x8.2)], .r [.int (gI 6 x8.2)], .r [.int (gI 7 x8.2)], .r [.int (gI 8 x8.2)], .r [.int (gI 9 x8.2)], .r [.int (gI 10 x8.2)], .r [.int (gI 11 x8.2)], .r [.int (gI 12 x8.2)], .r [.bool (gB 13 x8.2)], .r [gC 14 x8.2], .r [gC 15 x8.2]]
 if (gB 17 x8.2)=true then
 K12 true
 else
 K12 ((gI 0 x8.2) !=43)
theorem pattern_reader_item_i5_eq (E:Env) (p0:List UInt8) (p1:Int) (p2:Bool) (p3:Int) (p4:Int) (p5:Int) (p6:Int) (p7:Int) (p8:Int) (p9:Int) (p10:Int) (p11:Bool) (p12:C) (p13:C):runI E pattern_reader_item_i5_a [.r [.str p0], .r [.int p1], .r [.bool p2], .r [.int p3], .r [.int p4], .r [.int p5], .r [.int p6], .r [.int p7], .r [.int p8], .r [.int p9], .r [.int p10], .r [.bool p11], .r [p12], .r [p13]]=pattern_reader_item_i5 E p0 p1 p2 p3 p4 p5 p6 p7 p8 p9 p10 p11 p12 p13:=by kernel_rfl
def pattern_set_join_i16_h0:Shape:={slots:=[(0, .ptr 0 1),(3, .d (.one (.ref 170))),(5, .d lI)],objs:=[.var lA4],m:=1}
def pattern_set_join_i16_o0:List (Exit'×Shape):=[(.exit 0,{slots:=[],objs:=[.var lA4],m:=1})]
def pattern_set_join_i16_c0:ACode:=(.seq (.region [] [oq 6 (.icmp .lss (.t 5) (.c lI [.int 4]))] false 0)
 (.seq (.cond (.t 6) .skip
 (.exit 0))
 (.seq (.block 1 (.seq (.region [] [oq 7 (.mov (.t 5)),
 oq 4 (.mov (.t 7))] false 0)
 (.region [] [oq 8 (.mov (.t 0)),
 oq 9 (.mov (.t 4)),
 ⟨some 10, .nchk (.t 8),none,[0]⟩,
 ⟨some 11, .iadA 4 170 135 lW (.t 10) (.t 9),none,[0,1,2]⟩,
 ⟨some 12, .ld lW 135 (.t 11),none,[0,1,2,3]⟩,
 oq 13 (.mov (.t 4)),
 ⟨some 14, .iadA 4 170 135 lW (.t 3) (.t 13),none,[5]⟩,
 ⟨some 15, .ld lW 135 (.t 14),none,[5,6]⟩,
 ⟨some 16, .ibin .or (.t 12) (.t 15),none,[0,1,2,3,4,5,6,7]⟩,
 ⟨some 17, .nchk (.t 8),none,[0]⟩,
 ⟨some 18, .iadA 4 170 135 lW (.t 17) (.t 9),none,[0,1,2,3,4,5,6,7,8,9]⟩,
 ⟨none, .st lW (.t 18) (.t 16),none,[0,1,2,3,4,5,6,7,8,9,10]⟩] true 0)))
 (.region [] [oq 19 (.ibin .add (.t 5) (.c lI [.int 1])),
 oq 5 (.mov (.t 19))] false 0))))
noncomputable def pattern_set_join_i16_l0 (E:Env) (v0:C) (v1:Int) (v2:Row):Option (Nat×List PV):=E.fix (stepOf E pattern_set_join_i16_c0 pattern_set_join_i16_h0 pattern_set_join_i16_o0) [.r [v0], .r [.int v1], .r v2]
noncomputable def pattern_set_join_i16_b0 (E:Env) (X:C→Int→Row→Option (Nat×List PV)) (v0:C) (v1:Int) (v2:Row):Option (Nat×List PV):=
 if (decide (v1<4))=true then
 if (0:Int)≤v1∧v1<(4:Int)then
 part lW lA4 (1+(v1.toNat*1)) v2 fun y1=>
 if (0:Int)≤v1∧v1<(4:Int)∧v0.isDp=true then
 if (0:Int)≤v1∧v1<(4:Int)then
 turn lW lA4 (1+(v1.toNat*1)) v2 [.int (bitsOf .or .u64 ((at_ y1 0).toI) ((at_ v0.dpRow (v1.toNat*1)).toI))] fun r2=>
 X v0 (Go.IntKind.i64.wrap (v1+1)) r2
 else none
 else none
 else none
 else
 some (0,[.r v2])
theorem pattern_set_join_i16_s0 (E:Env) (X:List PV→Option (Nat×List PV)) (v0:C) (v1:Int) (v2:Row):stepOf E pattern_set_join_i16_c0 pattern_set_join_i16_h0 pattern_set_join_i16_o0 X [.r [v0], .r [.int v1], .r v2]=pattern_set_join_i16_b0 E (fun (v0:C) (v1:Int) (v2:Row)=>X [.r [v0], .r [.int v1], .r v2]) v0 v1 v2:=by kernel_rfl
def pattern_set_join_i16_a:AImp:={fn:=164,entry:=pattern_set_join_i16_en,res:=[],exit:=pattern_set_join_i16_ex,body:=(.seq (.region [] [oq 3 (.boxP lA3 170 (.t 1))] false 0)
 (.seq (.region [] [oq 5 (.mov (.c lI [.int 0]))] false 0)
 (.block 0 (.loop pattern_set_join_i16_h0 pattern_set_join_i16_o0 pattern_set_join_i16_c0))))}
noncomputable def pattern_set_join_i16 (E:Env) (p0:Row) (p1:Row):Option (List PV):=
 (pattern_set_join_i16_l0 E (.dp p0) 0 p1).bind fun x3=>
 some [.r (gR 0 x3.2)]
theorem pattern_set_join_i16_eq (E:Env) (p0:Row) (p1:Row):runI E pattern_set_join_i16_a [.r p0, .r p1]=pattern_set_join_i16 E p0 p1:=by kernel_rfl
def pattern_set_join_i17_h0:Shape:={slots:=[(0, .ptr 0 5),(3, .d (.one (.ref 170))),(5, .d lI)],objs:=[.var lA4],m:=1}
def pattern_set_join_i17_o0:List (Exit'×Shape):=[(.exit 0,{slots:=[],objs:=[.var lA4],m:=1})]
def pattern_set_join_i17_c0:ACode:=(.seq (.region [] [oq 6 (.icmp .lss (.t 5) (.c lI [.int 4]))] false 0)
 (.seq (.cond (.t 6) .skip
 (.exit 0))
 (.seq (.block 1 (.seq (.region [] [oq 7 (.mov (.t 5)),
 oq 4 (.mov (.t 7))] false 0)
 (.region [] [oq 8 (.mov (.t 0)),
 oq 9 (.mov (.t 4)),
 ⟨some 10, .nchk (.t 8),none,[0]⟩,
 ⟨some 11, .iadA 4 170 135 lW (.t 10) (.t 9),none,[0,1,2]⟩,
 ⟨some 12, .ld lW 135 (.t 11),none,[0,1,2,3]⟩,
 oq 13 (.mov (.t 4)),
 ⟨some 14, .iadA 4 170 135 lW (.t 3) (.t 13),none,[5]⟩,
 ⟨some 15, .ld lW 135 (.t 14),none,[5,6]⟩,
 ⟨some 16, .ibin .or (.t 12) (.t 15),none,[0,1,2,3,4,5,6,7]⟩,
 ⟨some 17, .nchk (.t 8),none,[0]⟩,
 ⟨some 18, .iadA 4 170 135 lW (.t 17) (.t 9),none,[0,1,2,3,4,5,6,7,8,9]⟩,
 ⟨none, .st lW (.t 18) (.t 16),none,[0,1,2,3,4,5,6,7,8,9,10]⟩] true 0)))
 (.region [] [oq 19 (.ibin .add (.t 5) (.c lI [.int 1])),
 oq 5 (.mov (.t 19))] false 0))))
noncomputable def pattern_set_join_i17_l0 (E:Env) (v0:C) (v1:Int) (v2:Row):Option (Nat×List PV):=E.fix (stepOf E pattern_set_join_i17_c0 pattern_set_join_i17_h0 pattern_set_join_i17_o0) [.r [v0], .r [.int v1], .r v2]
noncomputable def pattern_set_join_i17_b0 (E:Env) (X:C→Int→Row→Option (Nat×List PV)) (v0:C) (v1:Int) (v2:Row):Option (Nat×List PV):=
 if (decide (v1<4))=true then
 if (0:Int)≤v1∧v1<(4:Int)then
 part lW lA4 (5+(v1.toNat*1)) v2 fun y1=>
 if (0:Int)≤v1∧v1<(4:Int)∧v0.isDp=true then
 if (0:Int)≤v1∧v1<(4:Int)then
 turn lW lA4 (5+(v1.toNat*1)) v2 [.int (bitsOf .or .u64 ((at_ y1 0).toI) ((at_ v0.dpRow (v1.toNat*1)).toI))] fun r2=>
 X v0 (Go.IntKind.i64.wrap (v1+1)) r2
 else none
 else none
 else none
 else
 some (0,[.r v2])
theorem pattern_set_join_i17_s0 (E:Env) (X:List PV→Option (Nat×List PV)) (v0:C) (v1:Int) (v2:Row):stepOf E pattern_set_join_i17_c0 pattern_set_join_i17_h0 pattern_set_join_i17_o0 X [.r [v0], .r [.int v1], .r v2]=pattern_set_join_i17_b0 E (fun (v0:C) (v1:Int) (v2:Row)=>X [.r [v0], .r [.int v1], .r v2]) v0 v1 v2:=by kernel_rfl
def pattern_set_join_i17_a:AImp:={fn:=164,entry:=pattern_set_join_i17_en,res:=[],exit:=pattern_set_join_i17_ex,body:=(.seq (.region [] [oq 3 (.boxP lA3 170 (.t 1))] false 0)
 (.seq (.region [] [oq 5 (.mov (.c lI [.int 0]))] false 0)
 (.block 0 (.loop pattern_set_join_i17_h0 pattern_set_join_i17_o0 pattern_set_join_i17_c0))))}
noncomputable def pattern_set_join_i17 (E:Env) (p0:Row) (p1:Row):Option (List PV):=
 (pattern_set_join_i17_l0 E (.dp p0) 0 p1).bind fun x3=>
 some [.r (gR 0 x3.2)]
theorem pattern_set_join_i17_eq (E:Env) (p0:Row) (p1:Row):runI E pattern_set_join_i17_a [.r p0, .r p1]=pattern_set_join_i17 E p0 p1:=by kernel_rfl
end Go.Ev
