/-
  A part of the proof: what the functions of the program compute.
-/
import Derived.Test.YtmcbcmgfkbjpcaaGreatDoorZNum
set_option linter.all false
set_option maxRecDepth 100000
namespace Go.Ev
def lens_special_h0:Shape:={slots:=[(52, .d (.one (.sl 9))),(53, .d lI),(54, .d lI)],objs:=[]}
def lens_special_o0:List (Exit'×Shape):=[(.exit 1,{slots:=[],objs:=[]})]
def lens_special_c0:ACode:=(.seq (.region [] [oq 55 (.icmp .lss (.t 54) (.t 53))] false 0)
 (.seq (.cond (.t 55) .skip
 (.exit 1))
 (.seq (.block 2 (.seq (.region [] [oq 56 (.iad 9 lS (.t 52) (.t 54)),
 oq 57 (.ld lS 9 (.t 56)),
 oq 4 (.mov (.t 57))] false 0)
 (.seq (.region [] [oq 58 (.mov (.t 4)),
 oq 59 (.bad),
 oq 5 (.bad)] false 0)
 (.seq .bad
 .bad))))
 .bad)))
noncomputable def lens_special_l0 (E:Env) (v0:C) (v1:Int) (v2:Int):Option (Nat×List PV):=E.fix (stepOf E lens_special_c0 lens_special_h0 lens_special_o0) [.r [v0], .r [.int v1], .r [.int v2]]
noncomputable def lens_special_b0 (E:Env) (X:C→Int→Int→Option (Nat×List PV)) (v0:C) (v1:Int) (v2:Int):Option (Nat×List PV):=
 if (decide (v2<v1))=true then
 if (0:Int)≤v2∧v2<(v0.rows.length:Int)then
 none
 else none
 else
 some (0,[])
def lens_special_a:AFun:={ps:=[lA3],rs:=[lI],res:=[(false,2,none)],body:=(.seq (.region [] [oq 1 (.boxP lA3 60 (.t 0)),
 oq 2 (.mov (.c lI [.int 0]))] false 0)
 (.seq (.seq (.region [] [oq 6 (.fad 0 1 60 3 (.t 1)),
 oq 7 (.ld lI 3 (.t 6))] false 0)
 (.block 0 (.seq (.region [] [oq 9 (.icmp .eql (.t 7) (.c lI [.int 5])),
 oq 8 (.mov (.t 9))] false 0)
 (.cond (.t 8) (.seq (.region [] [oq 10 (.fad 8 4 60 33 (.t 1)),
 oq 11 (.fad 0 1 33 3 (.t 10)),
 oq 12 (.ld lI 3 (.t 11)),
 oq 13 (.icmp .neq (.t 12) (.c lI [.int 0])),
 oq 14 (.mov (.t 13)),
 ⟨some 15, .fad 8 4 60 33 (.t 1),some (14,true),[]⟩,
 ⟨some 16, .fad 0 1 33 3 (.t 15),some (14,true),[]⟩,
 ⟨some 17, .ld lI 3 (.t 16),some (14,true),[]⟩,
 ⟨some 18, .call 88 [lI] [lB] [(.t 17)],some (14,true),[]⟩,
 ⟨some 19, .not (.t 18),some (14,true),[]⟩,
 oq 20 (.pick (.t 14) (.t 19) (.c lB [.bool false]))] false 0)
 (.cond (.t 20) (.seq (.region [] [oq 2 (.mov (.c lI [.int 8]))] false 0)
 .ret)
 .skip))
 (.seq (.region [] [oq 22 (.icmp .eql (.t 7) (.c lI [.int 15])),
 oq 21 (.mov (.t 22))] false 0)
 (.cond (.t 21) (.seq (.region [] [oq 23 (.fad 8 4 60 33 (.t 1)),
 oq 24 (.fad 0 1 33 3 (.t 23)),
 oq 25 (.ld lI 3 (.t 24)),
 oq 26 (.call 88 [lI] [lB] [(.t 25)]),
 oq 27 (.not (.t 26))] false 0)
 (.cond (.t 27) (.seq (.region [] [oq 2 (.mov (.c lI [.int 8]))] false 0)
 .ret)
 .skip))
 (.seq (.region [] [oq 29 (.icmp .eql (.t 7) (.c lI [.int 6])),
 oq 28 (.mov (.t 29))] false 0)
 (.cond (.t 28) (.seq (.region [] [oq 30 (.fad 3 1 60 57 (.t 1)),
 oq 31 (.ld (.one (.sl 9)) 57 (.t 30)),
 oq 32 (.bad),
 oq 2 (.bad)] false 0)
 .ret)
 (.seq (.region [] [oq 34 (.icmp .eql (.t 7) (.c lI [.int 14])),
 oq 33 (.mov (.t 34))] false 0)
 (.cond (.t 33) (.seq (.seq (.region [] [oq 35 (.fad 3 1 60 57 (.t 1)),
 oq 36 (.ld (.one (.sl 9)) 57 (.t 35)),
 oq 37 (.lenL (.t 36)),
 oq 38 (.fad 13 1 60 58 (.t 1)),
 oq 39 (.ld (.one (.sl 60)) 58 (.t 38)),
 oq 40 (.lenL (.t 39)),
 oq 41 (.icmp .neq (.t 37) (.t 40))] false 0)
 (.cond (.t 41) (.seq (.region [] [oq 2 (.mov (.c lI [.int 3]))] false 0)
 .ret)
 .skip))
 (.seq (.region [] [oq 42 (.fad 3 1 60 57 (.t 1)),
 oq 43 (.ld (.one (.sl 9)) 57 (.t 42)),
 oq 44 (.bad),
 oq 2 (.bad)] false 0)
 .ret))
 (.seq (.region [] [oq 46 (.icmp .eql (.t 7) (.c lI [.int 9])),
 oq 45 (.mov (.t 46))] false 0)
 (.cond (.t 45) (.seq (.seq (.region [] [oq 47 (.fad 3 1 60 57 (.t 1)),
 oq 48 (.ld (.one (.sl 9)) 57 (.t 47)),
 oq 49 (.lenL (.t 48)),
 oq 50 (.icmp .neq (.t 49) (.c lI [.int 2]))] false 0)
 (.cond (.t 50) (.seq (.region [] [oq 2 (.mov (.c lI [.int 3]))] false 0)
 .ret)
 .skip))
 (.seq (.region [] [oq 51 (.fad 3 1 60 57 (.t 1)),
 oq 52 (.ld (.one (.sl 9)) 57 (.t 51)),
 oq 53 (.lenL (.t 52)),
 oq 54 (.mov (.c lI [.int 0]))] false 0)
 (.block 1 (.loop lens_special_h0 lens_special_o0 lens_special_c0))))
 (.seq (.region [] [oq 65 (.icmp .eql (.t 7) (.c lI [.int 11])),
 oq 64 (.mov (.t 65))] false 0)
 (.cond (.t 64) (.seq (.region [] [oq 66 (.fad 12 1 60 22 (.t 1)),
 oq 67 (.ld (.one (.sl 40)) 22 (.t 66)),
 oq 68 (.call 91 [(.one (.sl 40))] [lI] [(.t 67)]),
 oq 2 (.mov (.t 68))] false 0)
 .ret)
 (.seq (.region [] [oq 70 (.icmp .eql (.t 7) (.c lI [.int 12])),
 oq 69 (.mov (.t 70))] false 0)
 (.cond (.t 69) (.seq (.region [] [oq 71 (.fad 5 1 60 3 (.t 1)),
 oq 72 (.ld lI 3 (.t 71)),
 oq 73 (.icmp .lss (.t 72) (.c lI [.int 0])),
 oq 74 (.mov (.t 73)),
 ⟨some 75, .fad 6 1 60 3 (.t 1),some (74,false),[]⟩,
 ⟨some 76, .ld lI 3 (.t 75),some (74,false),[]⟩,
 ⟨some 77, .fad 5 1 60 3 (.t 1),some (74,false),[]⟩,
 ⟨some 78, .ld lI 3 (.t 77),some (74,false),[]⟩,
 ⟨some 79, .icmp .lss (.t 76) (.t 78),some (74,false),[]⟩,
 oq 80 (.pick (.t 74) (.c lB [.bool true]) (.t 79)),
 oq 81 (.mov (.t 80)),
 ⟨some 82, .fad 6 1 60 3 (.t 1),some (81,false),[]⟩,
 ⟨some 83, .ld lI 3 (.t 82),some (81,false),[]⟩,
 ⟨some 84, .icmp .gtr (.t 83) (.c lI [.int 999999999]),some (81,false),[]⟩,
 oq 85 (.pick (.t 81) (.c lB [.bool true]) (.t 84))] false 0)
 (.cond (.t 85) (.seq (.region [] [oq 2 (.mov (.c lI [.int 11]))] false 0)
 .ret)
 .skip))
 .skip))))))))))))))))
 (.seq (.region [] [oq 2 (.mov (.c lI [.int 0]))] false 0)
 .ret)))}
noncomputable def lens_special (E:Env) (p0:Row):Option (List Row):=
 if (((at_ p0 0).toI)==5)=true then
 let K1:Bool→Option (List Row):=fun q2=>
 if q2=true then
 some [[.int 8]]
 else
 some [[.int 0]]
 if (((at_ p0 8).toI) !=0)=true then
 (E.pc n_lens_Plain [[.int ((at_ p0 8).toI)]]).bind fun y3=>
 K1 (!((at_ (rowsAt y3 0) 0).toB))
 else
 K1 false
 else
 if (((at_ p0 0).toI)==15)=true then
 (E.pc n_lens_Plain [[.int ((at_ p0 8).toI)]]).bind fun y4=>
 if (!((at_ (rowsAt y4 0) 0).toB))=true then
 some [[.int 8]]
 else
 some [[.int 0]]
 else
 if (((at_ p0 0).toI)==6)=true then
 none
 else
 if (((at_ p0 0).toI)==14)=true then
 if ((((at_ p0 3).rows).length:Int) !=(((at_ p0 13).rows).length:Int))=true then
 some [[.int 3]]
 else
 none
 else
 if (((at_ p0 0).toI)==9)=true then
 if ((((at_ p0 3).rows).length:Int) !=2)=true then
 some [[.int 3]]
 else
 (lens_special_l0 E (at_ p0 3) (((at_ p0 3).rows).length:Int) 0).bind fun x5=>
 some [[.int 0]]
 else
 if (((at_ p0 0).toI)==11)=true then
 (E.pc n_lens_pairs [[at_ p0 12]]).bind fun y6=>
 some [[.int ((at_ (rowsAt y6 0) 0).toI)]]
 else
 if (((at_ p0 0).toI)==12)=true then
 let K7:Bool→Option (List Row):=fun q8=>
 let K9:Bool→Option (List Row):=fun q10=>
 if q10=true then
 some [[.int 11]]
 else
 some [[.int 0]]
 if q8=true then
 K9 true
 else
 K9 (decide (((at_ p0 6).toI)>999999999))
 if (decide (((at_ p0 5).toI)<0))=true then
 K7 true
 else
 K7 (decide (((at_ p0 6).toI)<((at_ p0 5).toI)))
 else
 some [[.int 0]]
theorem lens_special_eq (E:Env) (p0:Row):runP E lens_special_a [p0]=lens_special E p0:=by kernel_rfl
def lens_Node_a:AFun:={ps:=[lA3],rs:=[lI],res:=[(false,2,none)],body:=(.seq (.region [] [oq 1 (.boxP lA3 60 (.t 0)),
 oq 2 (.mov (.c lI [.int 0]))] false 0)
 (.seq (.seq (.join [(.normal,{slots:=[(1, .d (.one (.ref 60))),(12, .d lB)],objs:=[]})] (.region [] [oq 5 (.fad 0 1 60 3 (.t 1)),
 oq 6 (.ld lI 3 (.t 5)),
 oq 7 (.icmp .lss (.t 6) (.c lI [.int 0])),
 oq 8 (.mov (.t 7)),
 ⟨some 9, .fad 0 1 60 3 (.t 1),some (8,false),[]⟩,
 ⟨some 10, .ld lI 3 (.t 9),some (8,false),[]⟩,
 ⟨some 11, .icmp .geq (.t 10) (.c lI [.int 19]),some (8,false),[]⟩,
 oq 12 (.pick (.t 8) (.c lB [.bool true]) (.t 11))] false 0))
 (.cond (.t 12) (.seq (.region [] [oq 2 (.mov (.c lI [.int 1]))] false 0)
 .ret)
 .skip))
 (.seq (.region [] [oq 13 (.fad 0 1 60 3 (.t 1)),
 oq 14 (.ld lI 3 (.t 13)),
 oq 15 (.call 73 [lI] [lA4] [(.t 14)]),
 oq 3 (.allocO 0 lA4 [.bool false, .bool false, .bool false, .bool false, .bool false, .bool false, .bool false, .bool false, .int 0]),
 ⟨none, .st lA4 (.t 3) (.t 15),none,[]⟩] false 1)
 (.seq (.seq (.join [(.normal,{slots:=[(1, .d (.one (.ref 60))),(3, .ptr 0 0),(102, .d lB)],objs:=[.var lA4]})] (.region [] [oq 16 (.fad 1 1 60 9 (.t 1)),
 oq 17 (.ld lS 9 (.t 16)),
 oq 18 (.scmp .neq (.t 17) (.c lS [.str ([]:List UInt8)])),
 oq 19 (.mov (.t 18)),
 ⟨some 20, .fad 0 1 103 4 (.t 3),some (19,true),[]⟩,
 ⟨some 21, .ld lB 4 (.t 20),some (19,true),[]⟩,
 ⟨some 22, .not (.t 21),some (19,true),[]⟩,
 oq 23 (.pick (.t 19) (.t 22) (.c lB [.bool false])),
 oq 24 (.mov (.t 23)),
 ⟨some 25, .fad 2 1 60 9 (.t 1),some (24,false),[]⟩,
 ⟨some 26, .ld lS 9 (.t 25),some (24,false),[]⟩,
 ⟨some 27, .scmp .neq (.t 26) (.c lS [.str ([]:List UInt8)]),some (24,false),[]⟩,
 ⟨some 28, .mov (.t 27),some (24,false),[]⟩,
 ⟨some 29, .fad 1 1 103 4 (.t 3),some (28,true),[]⟩,
 ⟨some 30, .ld lB 4 (.t 29),some (28,true),[]⟩,
 ⟨some 31, .not (.t 30),some (28,true),[]⟩,
 ⟨some 32, .pick (.t 28) (.t 31) (.c lB [.bool false]),some (24,false),[]⟩,
 oq 33 (.pick (.t 24) (.c lB [.bool true]) (.t 32)),
 oq 34 (.mov (.t 33)),
 ⟨some 35, .fad 3 1 60 57 (.t 1),some (34,false),[]⟩,
 ⟨some 36, .ld (.one (.sl 9)) 57 (.t 35),some (34,false),[]⟩,
 ⟨some 37, .lenL (.t 36),some (34,false),[]⟩,
 ⟨some 38, .icmp .gtr (.t 37) (.c lI [.int 0]),some (34,false),[]⟩,
 ⟨some 39, .mov (.t 38),some (34,false),[]⟩,
 ⟨some 40, .fad 2 1 103 4 (.t 3),some (39,true),[]⟩,
 ⟨some 41, .ld lB 4 (.t 40),some (39,true),[]⟩,
 ⟨some 42, .not (.t 41),some (39,true),[]⟩,
 ⟨some 43, .pick (.t 39) (.t 42) (.c lB [.bool false]),some (34,false),[]⟩,
 oq 44 (.pick (.t 34) (.c lB [.bool true]) (.t 43)),
 oq 45 (.mov (.t 44)),
 ⟨some 46, .fad 4 1 60 3 (.t 1),some (45,false),[]⟩,
 ⟨some 47, .ld lI 3 (.t 46),some (45,false),[]⟩,
 ⟨some 48, .icmp .neq (.t 47) (.c lI [.int 0]),some (45,false),[]⟩,
 ⟨some 49, .mov (.t 48),some (45,false),[]⟩,
 ⟨some 50, .fad 3 1 103 4 (.t 3),some (49,true),[]⟩,
 ⟨some 51, .ld lB 4 (.t 50),some (49,true),[]⟩,
 ⟨some 52, .not (.t 51),some (49,true),[]⟩,
 ⟨some 53, .pick (.t 49) (.t 52) (.c lB [.bool false]),some (45,false),[]⟩,
 oq 54 (.pick (.t 45) (.c lB [.bool true]) (.t 53)),
 oq 55 (.mov (.t 54)),
 ⟨some 56, .fad 5 1 60 3 (.t 1),some (55,false),[]⟩,
 ⟨some 57, .ld lI 3 (.t 56),some (55,false),[]⟩,
 ⟨some 58, .icmp .neq (.t 57) (.c lI [.int 0]),some (55,false),[]⟩,
 ⟨some 59, .mov (.t 58),some (55,false),[]⟩,
 ⟨some 60, .fad 6 1 60 3 (.t 1),some (59,false),[]⟩,
 ⟨some 61, .ld lI 3 (.t 60),some (59,false),[]⟩,
 ⟨some 62, .icmp .neq (.t 61) (.c lI [.int 0]),some (59,false),[]⟩,
 ⟨some 63, .pick (.t 59) (.c lB [.bool true]) (.t 62),some (55,false),[]⟩,
 ⟨some 64, .mov (.t 63),some (55,false),[]⟩,
 ⟨some 65, .fad 4 1 103 4 (.t 3),some (64,true),[]⟩,
 ⟨some 66, .ld lB 4 (.t 65),some (64,true),[]⟩,
 ⟨some 67, .not (.t 66),some (64,true),[]⟩,
 ⟨some 68, .pick (.t 64) (.t 67) (.c lB [.bool false]),some (55,false),[]⟩,
 oq 69 (.pick (.t 55) (.c lB [.bool true]) (.t 68)),
 oq 70 (.mov (.t 69)),
 ⟨some 71, .fad 7 1 60 5 (.t 1),some (70,false),[]⟩,
 ⟨some 72, .ld lU 5 (.t 71),some (70,false),[]⟩,
 ⟨some 73, .icmp .neq (.t 72) (.c lU [.int 0]),some (70,false),[]⟩,
 ⟨some 74, .mov (.t 73),some (70,false),[]⟩,
 ⟨some 75, .fad 5 1 103 4 (.t 3),some (74,true),[]⟩,
 ⟨some 76, .ld lB 4 (.t 75),some (74,true),[]⟩,
 ⟨some 77, .not (.t 76),some (74,true),[]⟩,
 ⟨some 78, .pick (.t 74) (.t 77) (.c lB [.bool false]),some (70,false),[]⟩,
 oq 79 (.pick (.t 70) (.c lB [.bool true]) (.t 78)),
 oq 80 (.mov (.t 79)),
 ⟨some 81, .fad 12 1 60 22 (.t 1),some (80,false),[]⟩,
 ⟨some 82, .ld (.one (.sl 40)) 22 (.t 81),some (80,false),[]⟩,
 ⟨some 83, .lenL (.t 82),some (80,false),[]⟩,
 ⟨some 84, .icmp .gtr (.t 83) (.c lI [.int 0]),some (80,false),[]⟩,
 ⟨some 85, .mov (.t 84),some (80,false),[]⟩,
 ⟨some 86, .fad 7 1 103 4 (.t 3),some (85,true),[]⟩,
 ⟨some 87, .ld lB 4 (.t 86),some (85,true),[]⟩,
 ⟨some 88, .not (.t 87),some (85,true),[]⟩,
 ⟨some 89, .pick (.t 85) (.t 88) (.c lB [.bool false]),some (80,false),[]⟩,
 oq 90 (.pick (.t 80) (.c lB [.bool true]) (.t 89)),
 oq 91 (.mov (.t 90)),
 ⟨some 92, .fad 6 1 103 4 (.t 3),some (91,false),[]⟩,
 ⟨some 93, .ld lB 4 (.t 92),some (91,false),[]⟩,
 ⟨some 94, .not (.t 93),some (91,false),[]⟩,
 ⟨some 95, .mov (.t 94),some (91,false),[]⟩,
 ⟨some 96, .fad 8 4 60 33 (.t 1),some (95,true),[]⟩,
 ⟨some 97, .ld lA2 33 (.t 96),some (95,true),[]⟩,
 ⟨some 98, .bld lA2 [.int 0, .int 0, .str [], .nils] [],some (95,true),[]⟩,
 ⟨some 99, .call 16 [lA2,lA2] [lB] [(.t 97),(.t 98)],some (95,true),[]⟩,
 ⟨some 100, .not (.t 99),some (95,true),[]⟩,
 ⟨some 101, .pick (.t 95) (.t 100) (.c lB [.bool false]),some (91,false),[]⟩,
 oq 102 (.pick (.t 91) (.c lB [.bool true]) (.t 101))] false 0))
 (.cond (.t 102) (.seq (.region [] [oq 2 (.mov (.c lI [.int 3]))] false 0)
 .ret)
 .skip))
 (.seq (.seq (.join [(.normal,{slots:=[(1, .d (.one (.ref 60))),(3, .ptr 0 0),(124, .d lB)],objs:=[.var lA4]})] (.region [] [oq 103 (.fad 8 1 103 3 (.t 3)),
 oq 104 (.ld lI 3 (.t 103)),
 oq 105 (.icmp .geq (.t 104) (.c lI [.int 0])),
 oq 106 (.mov (.t 105)),
 ⟨some 107, .fad 13 1 60 58 (.t 1),some (106,true),[]⟩,
 ⟨some 108, .ld (.one (.sl 60)) 58 (.t 107),some (106,true),[]⟩,
 ⟨some 109, .lenL (.t 108),some (106,true),[]⟩,
 ⟨some 110, .fad 8 1 103 3 (.t 3),some (106,true),[]⟩,
 ⟨some 111, .ld lI 3 (.t 110),some (106,true),[]⟩,
 ⟨some 112, .icmp .neq (.t 109) (.t 111),some (106,true),[]⟩,
 oq 113 (.pick (.t 106) (.t 112) (.c lB [.bool false])),
 oq 114 (.mov (.t 113)),
 ⟨some 115, .fad 8 1 103 3 (.t 3),some (114,false),[]⟩,
 ⟨some 116, .ld lI 3 (.t 115),some (114,false),[]⟩,
 ⟨some 117, .icmp .lss (.t 116) (.c lI [.int 0]),some (114,false),[]⟩,
 ⟨some 118, .mov (.t 117),some (114,false),[]⟩,
 ⟨some 119, .fad 13 1 60 58 (.t 1),some (118,true),[]⟩,
 ⟨some 120, .ld (.one (.sl 60)) 58 (.t 119),some (118,true),[]⟩,
 ⟨some 121, .lenL (.t 120),some (118,true),[]⟩,
 ⟨some 122, .icmp .eql (.t 121) (.c lI [.int 0]),some (118,true),[]⟩,
 ⟨some 123, .pick (.t 118) (.t 122) (.c lB [.bool false]),some (114,false),[]⟩,
 oq 124 (.pick (.t 114) (.c lB [.bool true]) (.t 123))] false 0))
 (.cond (.t 124) (.seq (.region [] [oq 2 (.mov (.c lI [.int 3]))] false 0)
 .ret)
 .skip))
 (.seq (.seq (.join [(.normal,{slots:=[(1, .d (.one (.ref 60))),(3, .ptr 0 0),(153, .d lB)],objs:=[.var lA4]})] (.region [] [oq 125 (.fad 0 1 103 4 (.t 3)),
 oq 126 (.ld lB 4 (.t 125)),
 oq 127 (.mov (.t 126)),
 ⟨some 128, .fad 1 1 60 9 (.t 1),some (127,true),[]⟩,
 ⟨some 129, .ld lS 9 (.t 128),some (127,true),[]⟩,
 ⟨some 130, .call 74 [lS] [lB] [(.t 129)],some (127,true),[]⟩,
 ⟨some 131, .not (.t 130),some (127,true),[]⟩,
 oq 132 (.pick (.t 127) (.t 131) (.c lB [.bool false])),
 oq 133 (.mov (.t 132)),
 ⟨some 134, .fad 0 1 60 3 (.t 1),some (133,true),[]⟩,
 ⟨some 135, .ld lI 3 (.t 134),some (133,true),[]⟩,
 ⟨some 136, .icmp .eql (.t 135) (.c lI [.int 13]),some (133,true),[]⟩,
 ⟨some 137, .mov (.t 136),some (133,true),[]⟩,
 ⟨some 138, .fad 1 1 60 9 (.t 1),some (137,true),[]⟩,
 ⟨some 139, .ld lS 9 (.t 138),some (137,true),[]⟩,
 ⟨some 140, .scmp .eql (.t 139) (.c lS [.str ([]:List UInt8)]),some (137,true),[]⟩,
 ⟨some 141, .pick (.t 137) (.t 140) (.c lB [.bool false]),some (133,true),[]⟩,
 ⟨some 142, .not (.t 141),some (133,true),[]⟩,
 oq 143 (.pick (.t 133) (.t 142) (.c lB [.bool false])),
 oq 144 (.mov (.t 143)),
 ⟨some 145, .fad 1 1 103 4 (.t 3),some (144,false),[]⟩,
 ⟨some 146, .ld lB 4 (.t 145),some (144,false),[]⟩,
 ⟨some 147, .mov (.t 146),some (144,false),[]⟩,
 ⟨some 148, .fad 2 1 60 9 (.t 1),some (147,true),[]⟩,
 ⟨some 149, .ld lS 9 (.t 148),some (147,true),[]⟩,
 ⟨some 150, .call 74 [lS] [lB] [(.t 149)],some (147,true),[]⟩,
 ⟨some 151, .not (.t 150),some (147,true),[]⟩,
 ⟨some 152, .pick (.t 147) (.t 151) (.c lB [.bool false]),some (144,false),[]⟩,
 oq 153 (.pick (.t 144) (.c lB [.bool true]) (.t 152))] false 0))
 (.cond (.t 153) (.seq (.region [] [oq 2 (.mov (.c lI [.int 15]))] false 0)
 .ret)
 .skip))
 (.seq (.seq (.region [] [oq 154 (.fad 6 1 103 4 (.t 3)),
 oq 155 (.ld lB 4 (.t 154))] false 0)
 (.cond (.t 155) (.seq (.region [] [oq 156 (.fad 8 4 60 33 (.t 1)),
 oq 157 (.ld lA2 33 (.t 156)),
 oq 158 (.call 35 [lA2] [lI] [(.t 157)]),
 oq 4 (.mov (.t 158))] false 0)
 (.seq (.region [] [oq 159 (.mov (.t 4)),
 oq 160 (.icmp .neq (.t 159) (.c lI [.int 0]))] false 0)
 (.cond (.t 160) (.seq (.region [] [oq 161 (.mov (.t 4)),
 oq 2 (.mov (.t 161))] false 0)
 .ret)
 .skip)))
 .skip))
 (.seq (.region [] [oq 162 (.ld lA3 60 (.t 1)),
 oq 163 (.call 75 [lA3] [lI] [(.t 162)]),
 oq 2 (.mov (.t 163))] false 0)
 .ret))))))))}
noncomputable def lens_Node (E:Env) (p0:Row):Option (List Row):=
 (let K1:Bool→Option (Nat×List PV):=fun q2=>
 some (0,[.r [.dp p0], .r [.bool q2]])
 if (decide (((at_ p0 0).toI)<0))=true then
 K1 true
 else
 K1 (decide (((at_ p0 0).toI)≥19))).bind fun x3=>
 if (gB 1 x3.2)=true then
 some [[.int 1]]
 else
 if (gC 0 x3.2).isDp=true then
 (E.pc n_lens_table [[.int ((at_ ((gC 0 x3.2).dpRow) 0).toI)]]).bind fun y4=>
 (if (gC 0 x3.2).isDp=true then
 let K5:Bool→Option (Nat×List PV):=fun q6=>
 let K7:Bool→Option (Nat×List PV):=fun q8=>
 let K9:Bool→Option (Nat×List PV):=fun q10=>
 let K11:Bool→Option (Nat×List PV):=fun q12=>
 let K13:Bool→Option (Nat×List PV):=fun q14=>
 let K15:Bool→Option (Nat×List PV):=fun q16=>
 let K17:Bool→Option (Nat×List PV):=fun q18=>
 let K19:Bool→Option (Nat×List PV):=fun q20=>
 some (0,[.r [gC 0 x3.2], .r [.bool q20], .r (rowsAt y4 0)])
 if q18=true then
 K19 true
 else
 let K21:Bool→Option (Nat×List PV):=fun q22=>
 K19 q22
 if (!((at_ (rowsAt y4 0) 6).toB))=true then
 if (gC 0 x3.2).isDp=true then
 (E.pc n_value_Same [[at_ ((gC 0 x3.2).dpRow) 8,at_ ((gC 0 x3.2).dpRow) 9,at_ ((gC 0 x3.2).dpRow) 10,at_ ((gC 0 x3.2).dpRow) 11],[.int 0, .int 0, .str [], .nils]]).bind fun y23=>
 K21 (!((at_ (rowsAt y23 0) 0).toB))
 else none
 else
 K21 false
 if q16=true then
 K17 true
 else
 if (gC 0 x3.2).isDp=true then
 let K24:Bool→Option (Nat×List PV):=fun q25=>
 K17 q25
 if (decide ((((at_ ((gC 0 x3.2).dpRow) 12).rows).length:Int)>0))=true then
 K24 (!((at_ (rowsAt y4 0) 7).toB))
 else
 K24 false
 else none
 if q14=true then
 K15 true
 else
 if (gC 0 x3.2).isDp=true then
 let K26:Bool→Option (Nat×List PV):=fun q27=>
 K15 q27
 if (((at_ ((gC 0 x3.2).dpRow) 7).toI) !=0)=true then
 K26 (!((at_ (rowsAt y4 0) 5).toB))
 else
 K26 false
 else none
 if q12=true then
 K13 true
 else
 if (gC 0 x3.2).isDp=true then
 let K28:Bool→Option (Nat×List PV):=fun q29=>
 let K30:Bool→Option (Nat×List PV):=fun q31=>
 K13 q31
 if q29=true then
 K30 (!((at_ (rowsAt y4 0) 4).toB))
 else
 K30 false
 if (((at_ ((gC 0 x3.2).dpRow) 5).toI) !=0)=true then
 K28 true
 else
 if (gC 0 x3.2).isDp=true then
 K28 (((at_ ((gC 0 x3.2).dpRow) 6).toI) !=0)
 else none
 else none
 if q10=true then
 K11 true
 else
 if (gC 0 x3.2).isDp=true then
 let K32:Bool→Option (Nat×List PV):=fun q33=>
 K11 q33
 if (((at_ ((gC 0 x3.2).dpRow) 4).toI) !=0)=true then
 K32 (!((at_ (rowsAt y4 0) 3).toB))
 else
 K32 false
 else none
 if q8=true then
 K9 true
 else
 if (gC 0 x3.2).isDp=true then
 let K34:Bool→Option (Nat×List PV):=fun q35=>
 K9 q35
 if (decide ((((at_ ((gC 0 x3.2).dpRow) 3).rows).length:Int)>0))=true then
 K34 (!((at_ (rowsAt y4 0) 2).toB))
 else
 K34 false
 else none
 if q6=true then
 K7 true
 else
 if (gC 0 x3.2).isDp=true then
 let K36:Bool→Option (Nat×List PV):=fun q37=>
 K7 q37
 if (!(((at_ ((gC 0 x3.2).dpRow) 2).toS)==([]:List UInt8)))=true then
 K36 (!((at_ (rowsAt y4 0) 1).toB))
 else
 K36 false
 else none
 if (!(((at_ ((gC 0 x3.2).dpRow) 1).toS)==([]:List UInt8)))=true then
 K5 (!((at_ (rowsAt y4 0) 0).toB))
 else
 K5 false
 else none).bind fun x38=>
 if (gB 1 x38.2)=true then
 some [[.int 3]]
 else
 (let K39:Bool→Option (Nat×List PV):=fun q40=>
 let K41:Bool→Option (Nat×List PV):=fun q42=>
 some (0,[.r [gC 0 x38.2], .r [.bool q42], .r (gR 2 x38.2)])
 if q40=true then
 K41 true
 else
 let K43:Bool→Option (Nat×List PV):=fun q44=>
 K41 q44
 if (decide (((at_ (gR 2 x38.2) 8).toI)<0))=true then
 if (gC 0 x38.2).isDp=true then
 K43 ((((at_ ((gC 0 x38.2).dpRow) 13).rows).length:Int)==0)
 else none
 else
 K43 false
 if (decide (((at_ (gR 2 x38.2) 8).toI)≥0))=true then
 if (gC 0 x38.2).isDp=true then
 K39 ((((at_ ((gC 0 x38.2).dpRow) 13).rows).length:Int) !=((at_ (gR 2 x38.2) 8).toI))
 else none
 else
 K39 false).bind fun x45=>
 if (gB 1 x45.2)=true then
 some [[.int 3]]
 else
 (let K46:Bool→Option (Nat×List PV):=fun q47=>
 let K48:Bool→Option (Nat×List PV):=fun q49=>
 let K50:Bool→Option (Nat×List PV):=fun q51=>
 some (0,[.r [gC 0 x45.2], .r [.bool q51], .r (gR 2 x45.2)])
 if q49=true then
 K50 true
 else
 let K52:Bool→Option (Nat×List PV):=fun q53=>
 K50 q53
 if ((at_ (gR 2 x45.2) 1).toB)=true then
 if (gC 0 x45.2).isDp=true then
 (E.pc n_value_Name [[.str ((at_ ((gC 0 x45.2).dpRow) 2).toS)]]).bind fun y54=>
 K52 (!((at_ (rowsAt y54 0) 0).toB))
 else none
 else
 K52 false
 if q47=true then
 if (gC 0 x45.2).isDp=true then
 let K55:Bool→Option (Nat×List PV):=fun q56=>
 K48 (!q56)
 if (((at_ ((gC 0 x45.2).dpRow) 0).toI)==13)=true then
 if (gC 0 x45.2).isDp=true then
 K55 (((at_ ((gC 0 x45.2).dpRow) 1).toS)==([]:List UInt8))
 else none
 else
 K55 false
 else none
 else
 K48 false
 if (gB 2 x45.2)=true then
 if (gC 0 x45.2).isDp=true then
 (E.pc n_value_Name [[.str ((at_ ((gC 0 x45.2).dpRow) 1).toS)]]).bind fun y57=>
 K46 (!((at_ (rowsAt y57 0) 0).toB))
 else none
 else
 K46 false).bind fun x58=>
 if (gB 1 x58.2)=true then
 some [[.int 15]]
 else
 if ((at_ (gR 2 x58.2) 6).toB)=true then
 if (gC 0 x58.2).isDp=true then
 (E.pc n_value_Check [[at_ ((gC 0 x58.2).dpRow) 8,at_ ((gC 0 x58.2).dpRow) 9,at_ ((gC 0 x58.2).dpRow) 10,at_ ((gC 0 x58.2).dpRow) 11]]).bind fun y59=>
 if (((at_ (rowsAt y59 0) 0).toI) !=0)=true then
 some [[.int ((at_ (rowsAt y59 0) 0).toI)]]
 else
 if (gC 0 x58.2).isDp=true then
 (E.pc n_lens_special [(gC 0 x58.2).dpRow]).bind fun y60=>
 some [[.int ((at_ (rowsAt y60 0) 0).toI)]]
 else none
 else none
 else
 if (gC 0 x58.2).isDp=true then
 (E.pc n_lens_special [(gC 0 x58.2).dpRow]).bind fun y61=>
 some [[.int ((at_ (rowsAt y61 0) 0).toI)]]
 else none
 else none
theorem lens_Node_eq (E:Env) (p0:Row):runP E lens_Node_a [p0]=lens_Node E p0:=by kernel_rfl
def lens_walk_h0:Shape:={slots:=[(13, .d (.one (.sl 60))),(14, .d lI),(15, .d lI)],objs:=[]}
def lens_walk_o0:List (Exit'×Shape):=[(.exit 0,{slots:=[],objs:=[]}),(.ret,{slots:=[(2, .d lI)],objs:=[]})]
def lens_walk_c0:ACode:=(.seq (.region [] [oq 16 (.icmp .lss (.t 15) (.t 14))] false 0)
 (.seq (.cond (.t 16) .skip
 (.exit 0))
 (.seq (.block 1 (.seq (.region [] [oq 17 (.iad 60 lA3 (.t 13) (.t 15)),
 oq 18 (.ld lA3 60 (.t 17)),
 oq 5 (.allocO 0 lA3 [.int 0, .str [], .str [], .nils, .int 0, .int 0, .int 0, .int 0, .int 0, .int 0, .str [], .nils, .nils, .nils]),
 ⟨none, .st lA3 (.t 5) (.t 18),none,[]⟩] false 1)
 (.seq (.region [] [oq 19 (.ld lA3 60 (.t 5)),
 oq 20 (.call 48 [lA3] [lI] [(.t 19)]),
 oq 6 (.mov (.t 20))] false 0)
 (.seq (.region [] [oq 21 (.mov (.t 6)),
 oq 22 (.icmp .neq (.t 21) (.c lI [.int 0]))] false 0)
 (.cond (.t 22) (.seq (.region [] [oq 23 (.mov (.t 6)),
 oq 2 (.mov (.t 23))] false 0)
 .ret)
 .skip)))))
 (.region [] [oq 24 (.ibin .add (.t 15) (.c lI [.int 1])),
 oq 15 (.mov (.t 24))] false 0))))
noncomputable def lens_walk_l0 (E:Env) (v0:C) (v1:Int) (v2:Int):Option (Nat×List PV):=E.fix (stepOf E lens_walk_c0 lens_walk_h0 lens_walk_o0) [.r [v0], .r [.int v1], .r [.int v2]]
noncomputable def lens_walk_b0 (E:Env) (X:C→Int→Int→Option (Nat×List PV)) (v0:C) (v1:Int) (v2:Int):Option (Nat×List PV):=
 if (decide (v2<v1))=true then
 if (0:Int)≤v2∧v2<(v0.rows.length:Int)then
 (E.pc n_lens_walk [rowsAt v0.rows v2.toNat]).bind fun y2=>
 if (((at_ (rowsAt y2 0) 0).toI) !=0)=true then
 some (1,[.r [.int ((at_ (rowsAt y2 0) 0).toI)]])
 else
 X v0 v1 (Go.IntKind.i64.wrap (v2+1))
 else none
 else
 some (0,[])
theorem lens_walk_s0 (E:Env) (X:List PV→Option (Nat×List PV)) (v0:C) (v1:Int) (v2:Int):stepOf E lens_walk_c0 lens_walk_h0 lens_walk_o0 X [.r [v0], .r [.int v1], .r [.int v2]]=lens_walk_b0 E (fun (v0:C) (v1:Int) (v2:Int)=>X [.r [v0], .r [.int v1], .r [.int v2]]) v0 v1 v2:=by kernel_rfl
def lens_walk_a:AFun:={ps:=[lA3],rs:=[lI],res:=[(false,2,none)],body:=(.seq (.region [] [oq 1 (.boxP lA3 60 (.t 0)),
 oq 2 (.mov (.c lI [.int 0]))] false 0)
 (.seq (.seq (.region [] [oq 7 (.ld lA3 60 (.t 1)),
 oq 8 (.call 57 [lA3] [lI] [(.t 7)]),
 oq 3 (.mov (.t 8))] false 0)
 (.seq (.region [] [oq 9 (.mov (.t 3)),
 oq 10 (.icmp .neq (.t 9) (.c lI [.int 0]))] false 0)
 (.cond (.t 10) (.seq (.region [] [oq 11 (.mov (.t 3)),
 oq 2 (.mov (.t 11))] false 0)
 .ret)
 .skip)))
 (.seq (.seq (.region [] [oq 12 (.fad 13 1 60 58 (.t 1)),
 oq 13 (.ld (.one (.sl 60)) 58 (.t 12)),
 oq 14 (.lenL (.t 13)),
 oq 15 (.mov (.c lI [.int 0]))] false 0)
 (.block 0 (.loop lens_walk_h0 lens_walk_o0 lens_walk_c0)))
 (.seq (.region [] [oq 2 (.mov (.c lI [.int 0]))] false 0)
 .ret))))}
noncomputable def lens_walk (E:Env) (p0:Row):Option (List Row):=
 (E.pc n_lens_Node [p0]).bind fun y1=>
 if (((at_ (rowsAt y1 0) 0).toI) !=0)=true then
 some [[.int ((at_ (rowsAt y1 0) 0).toI)]]
 else
 (lens_walk_l0 E (at_ p0 13) (((at_ p0 13).rows).length:Int) 0).bind fun x3=>
 match x3.1 with
 |0=>
 some [[.int 0]]
 |i4+1=>
 some [[.int (gI 0 x3.2)]]
theorem lens_walk_eq (E:Env) (p0:Row):runP E lens_walk_a [p0]=lens_walk E p0:=by kernel_rfl
def lens_Check_a:AFun:={ps:=[lA3],rs:=[lI],res:=[(false,2,none)],body:=(.seq (.region [] [oq 1 (.boxP lA3 60 (.t 0)),
 oq 2 (.mov (.c lI [.int 0]))] false 0)
 (.seq (.seq (.region [] [oq 3 (.ld lA3 60 (.t 1)),
 oq 4 (.call 46 [lA3] [lI] [(.t 3)]),
 oq 5 (.icmp .gtr (.t 4) (.c lI [.int 120])),
 oq 6 (.mov (.t 5)),
 ⟨some 7, .ld lA3 60 (.t 1),some (6,false),[]⟩,
 ⟨some 8, .call 47 [lA3] [lI] [(.t 7)],some (6,false),[]⟩,
 ⟨some 9, .icmp .gtr (.t 8) (.c lI [.int 40]),some (6,false),[]⟩,
 oq 10 (.pick (.t 6) (.c lB [.bool true]) (.t 9))] false 0)
 (.cond (.t 10) (.seq (.region [] [oq 2 (.mov (.c lI [.int 2]))] false 0)
 .ret)
 .skip))
 (.seq (.region [] [oq 11 (.ld lA3 60 (.t 1)),
 oq 12 (.call 48 [lA3] [lI] [(.t 11)]),
 oq 2 (.mov (.t 12))] false 0)
 .ret)))}
noncomputable def lens_Check (E:Env) (p0:Row):Option (List Row):=
 (E.pc n_lens_Size [p0]).bind fun y1=>
 let K2:Bool→Option (List Row):=fun q3=>
 if q3=true then
 some [[.int 2]]
 else
 (E.pc n_lens_walk [p0]).bind fun y4=>
 some [[.int ((at_ (rowsAt y4 0) 0).toI)]]
 if (decide (((at_ (rowsAt y1 0) 0).toI)>120))=true then
 K2 true
 else
 (E.pc n_lens_Deep [p0]).bind fun y5=>
 K2 (decide (((at_ (rowsAt y5 0) 0).toI)>40))
theorem lens_Check_eq (E:Env) (p0:Row):runP E lens_Check_a [p0]=lens_Check E p0:=by kernel_rfl
def dict_Check_a:AFun:={ps:=[(.one (.sl 40))],rs:=[lI],res:=[(false,2,none)],body:=(.seq (.region [] [oq 2 (.mov (.c lI [.int 0]))] false 0)
 (.seq (.region [] [oq 3 (.mov (.t 0)),
 oq 4 (.bld lA3 [.int 0, .str [], .str [], .nils, .int 0, .int 0, .int 0, .int 0, .int 0, .int 0, .str [], .nils, .nils, .nils] [(0,1,(.c lI [.int 11])),(12,1,(.t 3))]),
 oq 5 (.call 30 [lA3] [lI] [(.t 4)]),
 oq 2 (.mov (.t 5))] false 0)
 .ret))}
noncomputable def dict_Check (E:Env) (p0:C):Option (List Row):=
 (E.pc n_lens_Check [[.int 11, .str [], .str [], .nils, .int 0, .int 0, .int 0, .int 0, .int 0, .int 0, .str [], .nils,p0, .nils]]).bind fun y1=>
 some [[.int ((at_ (rowsAt y1 0) 0).toI)]]
theorem dict_Check_eq (E:Env) (p0:C):runP E dict_Check_a [[p0]]=dict_Check E p0:=by kernel_rfl
def dict_sorted_1_a:AFun:={ps:=[lA0,lA0],rs:=[lI],res:=[(false,4,none)],body:=(.seq (.region [] [oq 2 (.boxP lA0 40 (.t 0)),
 oq 3 (.boxP lA0 40 (.t 1)),
 oq 4 (.mov (.c lI [.int 0]))] false 0)
 (.seq (.region [] [oq 5 (.iadA 2 40 33 lA2 (.t 2) (.c lI [.int 0])),
 oq 6 (.ld lA2 33 (.t 5)),
 oq 7 (.iadA 2 40 33 lA2 (.t 3) (.c lI [.int 0])),
 oq 8 (.ld lA2 33 (.t 7)),
 oq 9 (.call 29 [lA2,lA2] [lI] [(.t 6),(.t 8)]),
 oq 4 (.mov (.t 9))] false 0)
 .ret))}
noncomputable def dict_sorted_1 (E:Env) (p0:Row) (p1:Row):Option (List Row):=
 (E.pc n_value_Cmp [[at_ p0 0,at_ p0 1,at_ p0 2,at_ p0 3],[at_ p1 0,at_ p1 1,at_ p1 2,at_ p1 3]]).bind fun y1=>
 some [[.int ((at_ (rowsAt y1 0) 0).toI)]]
theorem dict_sorted_1_eq (E:Env) (p0:Row) (p1:Row):runP E dict_sorted_1_a [p0,p1]=dict_sorted_1 E p0 p1:=by kernel_rfl
def value_Copy_i2_h0:Shape:={slots:=[(1, .ptr 0 0),(2, .ptr 1 0),(10, .d lI),(11, .d lI)],objs:=bS0}
def value_Copy_i2_o0:List (Exit'×Shape):=[(.exit 0,{slots:=[(1, .ptr 0 0),(2, .ptr 1 0)],objs:=bS0})]
def value_Copy_i2_c0:ACode:=(.seq (.region [] [oq 12 (.icmp .lss (.t 11) (.t 10))] false 0)
 (.seq (.cond (.t 12) .skip
 (.exit 0))
 (.seq (.block 1 (.seq (.region [] [oq 13 (.mov (.t 11)),
 oq 3 (.mov (.t 13))] false 0)
 (.region [] [oq 14 (.fad 3 1 33 31 (.t 1)),
 ⟨some 15, .ldC (.t 14),none,[0]⟩,
 oq 16 (.mov (.t 3)),
 oq 17 (.fad 3 1 33 31 (.t 1)),
 ⟨some 18, .ldC (.t 17),none,[3]⟩,
 oq 19 (.mov (.t 3)),
 ⟨some 20, .iad 74 lA1 (.t 18) (.t 19),none,[3,4,5]⟩,
 ⟨some 21, .fad 1 4 74 33 (.t 20),none,[3,4,5,6]⟩,
 ⟨some 22, .ld lA2 33 (.t 21),none,[3,4,5,6,7]⟩,
 ⟨some 23, .icall 150 27 (value_Copy_i0_en) (value_Copy_i0_ex) [] 0 none [(.t 22)],none,[3,4,5,6,7,8]⟩,
 ⟨some 24, .iad 74 lA1 (.t 15) (.t 16),none,[0,1,2,3,4,5,6,7,8,9]⟩,
 ⟨some 25, .fad 1 4 74 33 (.t 24),none,[0,1,2,3,4,5,6,7,8,9,10]⟩,
 ⟨none, .st lA2 (.t 25) (.t 23),none,[0,1,2,3,4,5,6,7,8,9,10,11]⟩] true 0)))
 (.region [] [oq 26 (.ibin .add (.t 11) (.c lI [.int 1])),
 oq 11 (.mov (.t 26))] false 0))))
noncomputable def value_Copy_i2_l0 (E:Env) (v0:Int) (v1:Int) (v2:Int) (v3:Int) (v4:List UInt8) (v5:Row) (v6:C):Option (Nat×List PV):=E.fix (stepOf E value_Copy_i2_c0 value_Copy_i2_h0 value_Copy_i2_o0) [.r [.int v0], .r [.int v1], .r [.int v2], .r [.int v3], .r [.str v4], .r v5, .r [v6]]
noncomputable def value_Copy_i2_b0 (E:Env) (X:Int→Int→Int→Int→List UInt8→Row→C→Option (Nat×List PV)) (v0:Int) (v1:Int) (v2:Int) (v3:Int) (v4:List UInt8) (v5:Row) (v6:C):Option (Nat×List PV):=
 if (decide (v1<v0))=true then
 if (0:Int)≤v1∧v1<(v6.rows.length:Int)then
 if v1.toNat<v6.rows.length then
 (E.ic value_Copy_i0_n [.r [at_ (rowsAt v6.rows v1.toNat) 1,at_ (rowsAt v6.rows v1.toNat) 2,at_ (rowsAt v6.rows v1.toNat) 3,at_ (rowsAt v6.rows v1.toNat) 4]]).bind fun y2=>
 if (0:Int)≤v1∧v1<(v6.rows.length:Int)then
 if v1.toNat<v6.rows.length then
 X v0 (Go.IntKind.i64.wrap (v1+1)) v2 v3 v4 v5 (.sl (v6.rows.set v1.toNat (put (rowsAt v6.rows v1.toNat) 1 4 (gR 0 y2) 0 5)))
 else none
 else none
 else none
 else none
 else
 some (0,[.r [.int v2], .r [.int v3], .r [.str v4], .r v5, .r [v6]])
theorem value_Copy_i2_s0 (E:Env) (X:List PV→Option (Nat×List PV)) (v0:Int) (v1:Int) (v2:Int) (v3:Int) (v4:List UInt8) (v5:Row) (v6:C):stepOf E value_Copy_i2_c0 value_Copy_i2_h0 value_Copy_i2_o0 X [.r [.int v0], .r [.int v1], .r [.int v2], .r [.int v3], .r [.str v4], .r v5, .r [v6]]=value_Copy_i2_b0 E (fun (v0:Int) (v1:Int) (v2:Int) (v3:Int) (v4:List UInt8) (v5:Row) (v6:C)=>X [.r [.int v0], .r [.int v1], .r [.int v2], .r [.int v3], .r [.str v4], .r v5, .r [v6]]) v0 v1 v2 v3 v4 v5 v6:=by kernel_rfl
def value_Copy_i2_a:AImp:={fn:=27,entry:=value_Copy_i2_en,res:=[.var 2 lA2],exit:=value_Copy_i2_ex,body:=(.seq (.region [] [oq 1 (.boxA 0 (.t 0)),
 oq 2 (.allocO 1 lA2 [.int 0, .int 0, .str [], .nils])] false 2)
 (.seq (.region [] [oq 4 (.fad 3 1 33 31 (.t 1)),
 oq 5 (.ldC (.t 4)),
 oq 6 (.icall 151 39 (slices_Clone_api_Field_i1_en) (slices_Clone_api_Field_i1_ex) [] 0 none [(.t 5)]),
 oq 7 (.fad 3 1 33 31 (.t 1)),
 ⟨none, .stC (.t 7) (.t 6),none,[]⟩] false 1)
 (.seq (.seq (.region [] [oq 8 (.fad 3 1 33 31 (.t 1)),
 oq 9 (.ldC (.t 8)),
 oq 10 (.lenL (.t 9)),
 oq 11 (.mov (.c lI [.int 0]))] false 0)
 (.block 0 (.loop value_Copy_i2_h0 value_Copy_i2_o0 value_Copy_i2_c0)))
 (.seq (.ghost (.frz 1 3 74 lA1) (.region [] [oq 27 (.ldA 4 (.t 1)),
 ⟨none, .st lA2 (.t 2) (.t 27),none,[]⟩] false 0))
 .ret))))}
noncomputable def value_Copy_i2 (E:Env) (p0:Int) (p1:Int) (p2:List UInt8) (p3:C):Option (List PV):=
 (E.ic slices_Clone_api_Field_i1_n [.r [p3]]).bind fun y1=>
 (value_Copy_i2_l0 E (((gC 0 y1).rows).length:Int) 0 p0 p1 p2 [.int 0, .int 0, .str [], .nils] (gC 0 y1)).bind fun x3=>
 some [.r [.int (gI 0 x3.2), .int (gI 1 x3.2), .str (gS 2 x3.2),gC 4 x3.2]]
theorem value_Copy_i2_eq (E:Env) (p0:Int) (p1:Int) (p2:List UInt8) (p3:C):runI E value_Copy_i2_a [.r [.int p0], .r [.int p1], .r [.str p2], .r [p3]]=value_Copy_i2 E p0 p1 p2 p3:=by kernel_rfl
def math_bits_Len64_a:AFun:={ps:=[lW],rs:=[lI],res:=[(false,2,none)],body:=(.seq (.region [] [oq 2 (.mov (.c lI [.int 0]))] false 0)
 (.seq (.seq (.region [] [oq 3 (.mov (.t 0)),
 oq 4 (.icmp .geq (.t 3) (.c lW [.int 4294967296]))] false 0)
 (.join [(.normal,{slots:=[(0, .d lW),(2, .d lI)],objs:=[]})] (.cond (.t 4) (.seq (.region [] [oq 5 (.mov (.t 0)),
 oq 6 (.shf .shr (.t 5) (.c lW [.int 32])),
 oq 0 (.mov (.t 6))] false 0)
 (.region [] [oq 2 (.mov (.c lI [.int 32]))] false 0))
 .skip)))
 (.seq (.seq (.region [] [oq 7 (.mov (.t 0)),
 oq 8 (.icmp .geq (.t 7) (.c lW [.int 65536]))] false 0)
 (.join [(.normal,{slots:=[(0, .d lW),(2, .d lI)],objs:=[]})] (.cond (.t 8) (.seq (.region [] [oq 9 (.mov (.t 0)),
 oq 10 (.shf .shr (.t 9) (.c lW [.int 16])),
 oq 0 (.mov (.t 10))] false 0)
 (.region [] [oq 11 (.mov (.t 2)),
 oq 12 (.ibin .add (.t 11) (.c lI [.int 16])),
 oq 2 (.mov (.t 12))] false 0))
 .skip)))
 (.seq (.seq (.region [] [oq 13 (.mov (.t 0)),
 oq 14 (.icmp .geq (.t 13) (.c lW [.int 256]))] false 0)
 (.cond (.t 14) (.seq (.region [] [oq 15 (.mov (.t 0)),
 oq 16 (.shf .shr (.t 15) (.c lW [.int 8])),
 oq 0 (.mov (.t 16))] false 0)
 (.region [] [oq 17 (.mov (.t 2)),
 oq 18 (.ibin .add (.t 17) (.c lI [.int 8])),
 oq 2 (.mov (.t 18))] false 0))
 .skip))
 (.seq (.region [] [oq 19 (.mov (.t 2)),
 oq 20 (.mov (.t 0)),
 oq 21 (.i2i .u8 (.t 20)),
 oq 22 (.idxS (.c lS [.str ([0,1,2,2,3,3,3,3,4,4,4,4,4,4,4,4,5,5,5,5,5,5,5,5,5,5,5,5,5,5,5,5,6,6,6,6,6,6,6,6,6,6,6,6,6,6,6,6,6,6,6,6,6,6,6,6,6,6,6,6,6,6,6,6,7,7,7,7,7,7,7,7,7,7,7,7,7,7,7,7,7,7,7,7,7,7,7,7,7,7,7,7,7,7,7,7,7,7,7,7,7,7,7,7,7,7,7,7,7,7,7,7,7,7,7,7,7,7,7,7,7,7,7,7,7,7,7,7,8,8,8,8,8,8,8,8,8,8,8,8,8,8,8,8,8,8,8,8,8,8,8,8,8,8,8,8,8,8,8,8,8,8,8,8,8,8,8,8,8,8,8,8,8,8,8,8,8,8,8,8,8,8,8,8,8,8,8,8,8,8,8,8,8,8,8,8,8,8,8,8,8,8,8,8,8,8,8,8,8,8,8,8,8,8,8,8,8,8,8,8,8,8,8,8,8,8,8,8,8,8,8,8,8,8,8,8,8,8,8,8,8,8,8,8,8,8,8,8,8,8,8,8,8,8,8,8]:List UInt8)]) (.t 21)),
 oq 23 (.i2i .i64 (.t 22)),
 oq 24 (.ibin .add (.t 19) (.t 23)),
 oq 2 (.mov (.t 24))] false 0)
 .ret)))))}
noncomputable def math_bits_Len64 (E:Env) (p0:Int):Option (List Row):=
 (if (decide (p0≥4294967296))=true then
 some (0,[.r [.int (p0.fdiv (2^(min 32 (Go.IntKind.bits .u64))))], .r [.int 32]])
 else
 some (0,[.r [.int p0], .r [.int 0]])).bind fun x1=>
 (if (decide ((gI 0 x1.2)≥65536))=true then
 some (0,[.r [.int ((gI 0 x1.2).fdiv (2^(min 16 (Go.IntKind.bits .u64))))], .r [.int (Go.IntKind.i64.wrap ((gI 1 x1.2)+16))]])
 else
 some (0,[.r [.int (gI 0 x1.2)], .r [.int (gI 1 x1.2)]])).bind fun x2=>
 if (decide ((gI 0 x2.2)≥256))=true then
 if (0:Int)≤(Go.IntKind.u8.wrap ((gI 0 x2.2).fdiv (2^(min 8 (Go.IntKind.bits .u64)))))∧(Go.IntKind.u8.wrap ((gI 0 x2.2).fdiv (2^(min 8 (Go.IntKind.bits .u64)))))<(([0,1,2,2,3,3,3,3,4,4,4,4,4,4,4,4,5,5,5,5,5,5,5,5,5,5,5,5,5,5,5,5,6,6,6,6,6,6,6,6,6,6,6,6,6,6,6,6,6,6,6,6,6,6,6,6,6,6,6,6,6,6,6,6,7,7,7,7,7,7,7,7,7,7,7,7,7,7,7,7,7,7,7,7,7,7,7,7,7,7,7,7,7,7,7,7,7,7,7,7,7,7,7,7,7,7,7,7,7,7,7,7,7,7,7,7,7,7,7,7,7,7,7,7,7,7,7,7,8,8,8,8,8,8,8,8,8,8,8,8,8,8,8,8,8,8,8,8,8,8,8,8,8,8,8,8,8,8,8,8,8,8,8,8,8,8,8,8,8,8,8,8,8,8,8,8,8,8,8,8,8,8,8,8,8,8,8,8,8,8,8,8,8,8,8,8,8,8,8,8,8,8,8,8,8,8,8,8,8,8,8,8,8,8,8,8,8,8,8,8,8,8,8,8,8,8,8,8,8,8,8,8,8,8,8,8,8,8,8,8,8,8,8,8,8,8,8,8,8,8,8,8,8,8,8,8]:List UInt8).length:Int)then
 some [[.int (Go.IntKind.i64.wrap ((Go.IntKind.i64.wrap ((gI 1 x2.2)+8))+(Go.IntKind.i64.wrap ((([0,1,2,2,3,3,3,3,4,4,4,4,4,4,4,4,5,5,5,5,5,5,5,5,5,5,5,5,5,5,5,5,6,6,6,6,6,6,6,6,6,6,6,6,6,6,6,6,6,6,6,6,6,6,6,6,6,6,6,6,6,6,6,6,7,7,7,7,7,7,7,7,7,7,7,7,7,7,7,7,7,7,7,7,7,7,7,7,7,7,7,7,7,7,7,7,7,7,7,7,7,7,7,7,7,7,7,7,7,7,7,7,7,7,7,7,7,7,7,7,7,7,7,7,7,7,7,7,8,8,8,8,8,8,8,8,8,8,8,8,8,8,8,8,8,8,8,8,8,8,8,8,8,8,8,8,8,8,8,8,8,8,8,8,8,8,8,8,8,8,8,8,8,8,8,8,8,8,8,8,8,8,8,8,8,8,8,8,8,8,8,8,8,8,8,8,8,8,8,8,8,8,8,8,8,8,8,8,8,8,8,8,8,8,8,8,8,8,8,8,8,8,8,8,8,8,8,8,8,8,8,8,8,8,8,8,8,8,8,8,8,8,8,8,8,8,8,8,8,8,8,8,8,8,8,8]:List UInt8).getD ((Go.IntKind.u8.wrap ((gI 0 x2.2).fdiv (2^(min 8 (Go.IntKind.bits .u64))))).toNat) 0).toNat:Int))))]]
 else none
 else
 if (0:Int)≤(Go.IntKind.u8.wrap (gI 0 x2.2))∧(Go.IntKind.u8.wrap (gI 0 x2.2))<(([0,1,2,2,3,3,3,3,4,4,4,4,4,4,4,4,5,5,5,5,5,5,5,5,5,5,5,5,5,5,5,5,6,6,6,6,6,6,6,6,6,6,6,6,6,6,6,6,6,6,6,6,6,6,6,6,6,6,6,6,6,6,6,6,7,7,7,7,7,7,7,7,7,7,7,7,7,7,7,7,7,7,7,7,7,7,7,7,7,7,7,7,7,7,7,7,7,7,7,7,7,7,7,7,7,7,7,7,7,7,7,7,7,7,7,7,7,7,7,7,7,7,7,7,7,7,7,7,8,8,8,8,8,8,8,8,8,8,8,8,8,8,8,8,8,8,8,8,8,8,8,8,8,8,8,8,8,8,8,8,8,8,8,8,8,8,8,8,8,8,8,8,8,8,8,8,8,8,8,8,8,8,8,8,8,8,8,8,8,8,8,8,8,8,8,8,8,8,8,8,8,8,8,8,8,8,8,8,8,8,8,8,8,8,8,8,8,8,8,8,8,8,8,8,8,8,8,8,8,8,8,8,8,8,8,8,8,8,8,8,8,8,8,8,8,8,8,8,8,8,8,8,8,8,8,8]:List UInt8).length:Int)then
 some [[.int (Go.IntKind.i64.wrap ((gI 1 x2.2)+(Go.IntKind.i64.wrap ((([0,1,2,2,3,3,3,3,4,4,4,4,4,4,4,4,5,5,5,5,5,5,5,5,5,5,5,5,5,5,5,5,6,6,6,6,6,6,6,6,6,6,6,6,6,6,6,6,6,6,6,6,6,6,6,6,6,6,6,6,6,6,6,6,7,7,7,7,7,7,7,7,7,7,7,7,7,7,7,7,7,7,7,7,7,7,7,7,7,7,7,7,7,7,7,7,7,7,7,7,7,7,7,7,7,7,7,7,7,7,7,7,7,7,7,7,7,7,7,7,7,7,7,7,7,7,7,7,8,8,8,8,8,8,8,8,8,8,8,8,8,8,8,8,8,8,8,8,8,8,8,8,8,8,8,8,8,8,8,8,8,8,8,8,8,8,8,8,8,8,8,8,8,8,8,8,8,8,8,8,8,8,8,8,8,8,8,8,8,8,8,8,8,8,8,8,8,8,8,8,8,8,8,8,8,8,8,8,8,8,8,8,8,8,8,8,8,8,8,8,8,8,8,8,8,8,8,8,8,8,8,8,8,8,8,8,8,8,8,8,8,8,8,8,8,8,8,8,8,8,8,8,8,8,8,8]:List UInt8).getD ((Go.IntKind.u8.wrap (gI 0 x2.2)).toNat) 0).toNat:Int))))]]
 else none
def math_bits_Len_a:AFun:={ps:=[lW],rs:=[lI],res:=[(false,2,none)],body:=(.seq (.region [] [oq 2 (.mov (.c lI [.int 0]))] false 0)
 (.seq (.cond (.c lB [.bool false]) (.seq .bad
 .ret)
 .skip)
 (.seq (.region [] [oq 6 (.mov (.t 0)),
 oq 7 (.call 67 [lW] [lI] [(.t 6)]),
 oq 2 (.mov (.t 7))] false 0)
 .ret)))}
noncomputable def math_bits_Len (E:Env) (p0:Int):Option (List Row):=
 (E.pc n_math_bits_Len64 [[.int p0]]).bind fun y1=>
 some [[.int ((at_ (rowsAt y1 0) 0).toI)]]
def slices_insertionSortCmpFunc_2_api_Value_i5_h1:Shape:={slots:=[(0, .hol 0),(1, .d lI),(2, .d lI),(3, .d (.one (.fn 64))),(8, .d lI),(9, .d lI)],objs:=[.hol lA0 (.agg [])],m:=1}
def slices_insertionSortCmpFunc_2_api_Value_i5_o1:List (Exit'×Shape):=[(.exit 2,{slots:=[(0, .hol 0),(1, .d lI),(2, .d lI),(3, .d (.one (.fn 64))),(8, .d lI)],objs:=[.hol lA0 (.agg [])],m:=1})]
def slices_insertionSortCmpFunc_2_api_Value_i5_c1:ACode:=(.seq (.seq (.join [(.normal,{slots:=[(0, .hol 0),(1, .d lI),(2, .d lI),(3, .d (.one (.fn 64))),(8, .d lI),(9, .d lI),(34, .d lB)],objs:=[.hol lA0 (.agg [])],m:=1})] (.region [] [oq 18 (.mov (.t 9)),
 oq 19 (.mov (.t 1)),
 ⟨some 20, .icmp .gtr (.t 18) (.t 19),none,[0,1]⟩,
 ⟨some 21, .mov (.t 20),none,[0,1,2]⟩,
 ⟨some 22, .mov (.t 3),some (21,true),[0,1,2,3]⟩,
 ⟨some 23, .mov (.t 0),some (21,true),[0,1,2,3]⟩,
 ⟨some 24, .mov (.t 9),some (21,true),[0,1,2,3]⟩,
 ⟨some 25, .iad 40 lA0 (.t 23) (.t 24),some (21,true),[0,1,2,3,5,6]⟩,
 ⟨some 26, .ldH false lA0 (.t 25),some (21,true),[0,1,2,3,5,6,7]⟩,
 ⟨some 27, .mov (.t 0),some (21,true),[0,1,2,3]⟩,
 ⟨some 28, .mov (.t 9),some (21,true),[0,1,2,3]⟩,
 ⟨some 29, .ibin .sub (.t 28) (.c lI [.int 1]),some (21,true),[0,1,2,3,10]⟩,
 ⟨some 30, .iad 40 lA0 (.t 27) (.t 29),some (21,true),[0,1,2,3,9,10,11]⟩,
 ⟨some 31, .ldH false lA0 (.t 30),some (21,true),[0,1,2,3,9,10,11,12]⟩,
 ⟨some 32, .callv 64 [lA0,lA0] [lI] (.t 22) [(.t 26),(.t 31)],some (21,true),[0,1,2,3,4,5,6,7,8,9,10,11,12,13]⟩,
 ⟨some 33, .icmp .lss (.t 32) (.c lI [.int 0]),some (21,true),[0,1,2,3,4,5,6,7,8,9,10,11,12,13,14]⟩,
 ⟨some 34, .pick (.t 21) (.t 33) (.c lB [.bool false]),none,[0,1,2,3,4,5,6,7,8,9,10,11,12,13,14,15]⟩] true 0))
 (.cond (.t 34) .skip
 (.exit 2)))
 (.seq (.block 3 (.region [] [oq 37 (.mov (.t 0)),
 oq 38 (.mov (.t 9)),
 oq 39 (.mov (.t 0)),
 oq 40 (.mov (.t 9)),
 ⟨some 41, .ibin .sub (.t 40) (.c lI [.int 1]),none,[3]⟩,
 oq 42 (.mov (.t 0)),
 oq 43 (.mov (.t 9)),
 ⟨some 44, .ibin .sub (.t 43) (.c lI [.int 1]),none,[6]⟩,
 ⟨some 45, .iad 40 lA0 (.t 42) (.t 44),none,[5,6,7]⟩,
 ⟨some 46, .ldH false lA0 (.t 45),none,[5,6,7,8]⟩,
 oq 47 (.mov (.t 0)),
 oq 48 (.mov (.t 9)),
 ⟨some 49, .iad 40 lA0 (.t 47) (.t 48),none,[10,11]⟩,
 ⟨some 50, .ldH false lA0 (.t 49),none,[10,11,12]⟩,
 ⟨some 51, .iad 40 lA0 (.t 37) (.t 38),none,[0,1,5,6,7,8,9,10,11,12,13]⟩,
 ⟨none, .stF lA0 (.t 51) (.t 46),none,[0,1,5,6,7,8,9,10,11,12,13,14]⟩,
 ⟨some 52, .iad 40 lA0 (.t 39) (.t 41),none,[0,1,2,3,4,5,6,7,8,9,10,11,12,13,14,15]⟩,
 ⟨none, .stF lA0 (.t 52) (.t 50),none,[0,1,2,3,4,5,6,7,8,9,10,11,12,13,14,15,16]⟩] true 0))
 (.region [] [oq 35 (.mov (.t 9)),
 oq 36 (.ibin .sub (.t 35) (.c lI [.int 1])),
 oq 9 (.mov (.t 36))] false 0)))
noncomputable def slices_insertionSortCmpFunc_2_api_Value_i5_l1 (E:Env) (v0:Int) (v1:Int) (v2:C) (v3:Int) (v4:Int) (v5:Row):Option (Nat×List PV):=E.fix (stepOf E slices_insertionSortCmpFunc_2_api_Value_i5_c1 slices_insertionSortCmpFunc_2_api_Value_i5_h1 slices_insertionSortCmpFunc_2_api_Value_i5_o1) [.r [.int v0], .r [.int v1], .r [v2], .r [.int v3], .r [.int v4], .r v5]
noncomputable def slices_insertionSortCmpFunc_2_api_Value_i5_b1 (E:Env) (X:Int→Int→C→Int→Int→Row→Option (Nat×List PV)) (v0:Int) (v1:Int) (v2:C) (v3:Int) (v4:Int) (v5:Row):Option (Nat×List PV):=
 (let K1:Bool→Option (Nat×List PV):=fun q2=>
 some (0,[.r [.int v0], .r [.int v1], .r [v2], .r [.int v3], .r [.int v4], .r [.bool q2], .r [at_ v5 0, .int ((((at_ v5 1).toI).toNat:Nat):Int)]])
 if (decide (v4>v0))=true then
 if (0:Int)≤v4∧v4<(((at_ v5 0).rows).length:Int)then
 if v4.toNat<((at_ v5 0).rows).length∧v4.toNat≠(((at_ v5 1).toI).toNat)then
 if (0:Int)≤(Go.IntKind.i64.wrap (v4 - 1))∧(Go.IntKind.i64.wrap (v4 - 1))<(((at_ v5 0).rows).length:Int)then
 if ((Go.IntKind.i64.wrap (v4 - 1)).toNat)<((at_ v5 0).rows).length∧((Go.IntKind.i64.wrap (v4 - 1)).toNat)≠(((at_ v5 1).toI).toNat)then
 (callC E v2 [rowsAt ((at_ v5 0).rows) v4.toNat,rowsAt ((at_ v5 0).rows) ((Go.IntKind.i64.wrap (v4 - 1)).toNat)]).bind fun y3=>
 K1 (decide (((at_ (rowsAt y3 0) 0).toI)<0))
 else none
 else none
 else none
 else none
 else
 K1 false).bind fun x4=>
 if (gB 5 x4.2)=true then
 if (0:Int)≤(Go.IntKind.i64.wrap ((gI 4 x4.2) - 1))∧(Go.IntKind.i64.wrap ((gI 4 x4.2) - 1))<(((gC 6 x4.2).rows).length:Int)then
 if ((Go.IntKind.i64.wrap ((gI 4 x4.2) - 1)).toNat)<((gC 6 x4.2).rows).length∧((Go.IntKind.i64.wrap ((gI 4 x4.2) - 1)).toNat)≠(((at_ (gR 6 x4.2) 1).toI).toNat)then
 if (0:Int)≤(gI 4 x4.2)∧(gI 4 x4.2)<(((gC 6 x4.2).rows).length:Int)then
 if ((gI 4 x4.2).toNat)<((gC 6 x4.2).rows).length∧((gI 4 x4.2).toNat)≠(((at_ (gR 6 x4.2) 1).toI).toNat)then
 if (0:Int)≤(gI 4 x4.2)∧(gI 4 x4.2)<(((gC 6 x4.2).rows).length:Int)then
 if ((gC 6 x4.2).rows).length≤(((at_ (gR 6 x4.2) 1).toI).toNat)∧((gI 4 x4.2).toNat)<((gC 6 x4.2).rows).length then
 if (0:Int)≤(Go.IntKind.i64.wrap ((gI 4 x4.2) - 1))∧(Go.IntKind.i64.wrap ((gI 4 x4.2) - 1))<((((gC 6 x4.2).rows).set ((gI 4 x4.2).toNat) (rowsAt ((gC 6 x4.2).rows) ((Go.IntKind.i64.wrap ((gI 4 x4.2) - 1)).toNat))).length:Int)then
 if (((gC 6 x4.2).rows).set ((gI 4 x4.2).toNat) (rowsAt ((gC 6 x4.2).rows) ((Go.IntKind.i64.wrap ((gI 4 x4.2) - 1)).toNat))).length≤(((at_ (gR 6 x4.2) 1).toI).toNat)∧((Go.IntKind.i64.wrap ((gI 4 x4.2) - 1)).toNat)<(((gC 6 x4.2).rows).set ((gI 4 x4.2).toNat) (rowsAt ((gC 6 x4.2).rows) ((Go.IntKind.i64.wrap ((gI 4 x4.2) - 1)).toNat))).length then
 X (gI 0 x4.2) (gI 1 x4.2) (gC 2 x4.2) (gI 3 x4.2) (Go.IntKind.i64.wrap ((gI 4 x4.2) - 1)) [.sl ((((gC 6 x4.2).rows).set ((gI 4 x4.2).toNat) (rowsAt ((gC 6 x4.2).rows) ((Go.IntKind.i64.wrap ((gI 4 x4.2) - 1)).toNat))).set ((Go.IntKind.i64.wrap ((gI 4 x4.2) - 1)).toNat) (rowsAt ((gC 6 x4.2).rows) ((gI 4 x4.2).toNat))), .int ((((at_ (gR 6 x4.2) 1).toI).toNat:Nat):Int)]
 else none
 else none
 else none
 else none
 else none
 else none
 else none
 else none
 else
 some (0,[.r [.int (gI 0 x4.2)], .r [.int (gI 1 x4.2)], .r [gC 2 x4.2], .r [.int (gI 3 x4.2)], .r [gC 6 x4.2, .int ((((at_ (gR 6 x4.2) 1).toI).toNat:Nat):Int)]])
theorem slices_insertionSortCmpFunc_2_api_Value_i5_s1 (E:Env) (X:List PV→Option (Nat×List PV)) (v0:Int) (v1:Int) (v2:C) (v3:Int) (v4:Int) (v5:Row):stepOf E slices_insertionSortCmpFunc_2_api_Value_i5_c1 slices_insertionSortCmpFunc_2_api_Value_i5_h1 slices_insertionSortCmpFunc_2_api_Value_i5_o1 X [.r [.int v0], .r [.int v1], .r [v2], .r [.int v3], .r [.int v4], .r v5]=slices_insertionSortCmpFunc_2_api_Value_i5_b1 E (fun (v0:Int) (v1:Int) (v2:C) (v3:Int) (v4:Int) (v5:Row)=>X [.r [.int v0], .r [.int v1], .r [v2], .r [.int v3], .r [.int v4], .r v5]) v0 v1 v2 v3 v4 v5:=by kernel_rfl
def slices_insertionSortCmpFunc_2_api_Value_i5_h0:Shape:={slots:=[(0, .hol 0),(1, .d lI),(2, .d lI),(3, .d (.one (.fn 64))),(8, .d lI)],objs:=[.hol lA0 (.agg [])],m:=1}
def slices_insertionSortCmpFunc_2_api_Value_i5_o0:List (Exit'×Shape):=[(.exit 0,{slots:=[],objs:=[.hol lA0 (.agg [])],m:=1})]
def slices_insertionSortCmpFunc_2_api_Value_i5_c0:ACode:=(.seq (.seq (.region [] [oq 12 (.mov (.t 8)),
 oq 13 (.mov (.t 2)),
 oq 14 (.icmp .lss (.t 12) (.t 13))] false 0)
 (.cond (.t 14) .skip
 (.exit 0)))
 (.seq (.block 1 (.seq (.region [] [oq 17 (.mov (.t 8)),
 oq 9 (.mov (.t 17))] false 0)
 (.block 2 (.loop slices_insertionSortCmpFunc_2_api_Value_i5_h1 slices_insertionSortCmpFunc_2_api_Value_i5_o1 slices_insertionSortCmpFunc_2_api_Value_i5_c1))))
 (.region [] [oq 15 (.mov (.t 8)),
 oq 16 (.ibin .add (.t 15) (.c lI [.int 1])),
 oq 8 (.mov (.t 16))] false 0)))
noncomputable def slices_insertionSortCmpFunc_2_api_Value_i5_l0 (E:Env) (v0:Int) (v1:Int) (v2:C) (v3:Int) (v4:Row):Option (Nat×List PV):=E.fix (stepOf E slices_insertionSortCmpFunc_2_api_Value_i5_c0 slices_insertionSortCmpFunc_2_api_Value_i5_h0 slices_insertionSortCmpFunc_2_api_Value_i5_o0) [.r [.int v0], .r [.int v1], .r [v2], .r [.int v3], .r v4]
noncomputable def slices_insertionSortCmpFunc_2_api_Value_i5_b0 (E:Env) (X:Int→Int→C→Int→Row→Option (Nat×List PV)) (v0:Int) (v1:Int) (v2:C) (v3:Int) (v4:Row):Option (Nat×List PV):=
 if (decide (v3<v1))=true then
 (slices_insertionSortCmpFunc_2_api_Value_i5_l1 E v0 v1 v2 v3 v3 [at_ v4 0, .int ((((at_ v4 1).toI).toNat:Nat):Int)]).bind fun x5=>
 X (gI 0 x5.2) (gI 1 x5.2) (gC 2 x5.2) (Go.IntKind.i64.wrap ((gI 3 x5.2)+1)) [gC 4 x5.2, .int ((((at_ (gR 4 x5.2) 1).toI).toNat:Nat):Int)]
 else
 some (0,[.r [at_ v4 0, .int ((((at_ v4 1).toI).toNat:Nat):Int)]])
theorem slices_insertionSortCmpFunc_2_api_Value_i5_s0 (E:Env) (X:List PV→Option (Nat×List PV)) (v0:Int) (v1:Int) (v2:C) (v3:Int) (v4:Row):stepOf E slices_insertionSortCmpFunc_2_api_Value_i5_c0 slices_insertionSortCmpFunc_2_api_Value_i5_h0 slices_insertionSortCmpFunc_2_api_Value_i5_o0 X [.r [.int v0], .r [.int v1], .r [v2], .r [.int v3], .r v4]=slices_insertionSortCmpFunc_2_api_Value_i5_b0 E (fun (v0:Int) (v1:Int) (v2:C) (v3:Int) (v4:Row)=>X [.r [.int v0], .r [.int v1], .r [v2], .r [.int v3], .r v4]) v0 v1 v2 v3 v4:=by kernel_rfl
def slices_insertionSortCmpFunc_2_api_Value_i5_a:AImp:={fn:=58,entry:=slices_insertionSortCmpFunc_2_api_Value_i5_en,res:=[],exit:=slices_insertionSortCmpFunc_2_api_Value_i5_ex,body:=(.seq (.region [] [oq 10 (.mov (.t 1)),
 oq 11 (.ibin .add (.t 10) (.c lI [.int 1])),
 oq 8 (.mov (.t 11))] false 0)
 (.block 0 (.loop slices_insertionSortCmpFunc_2_api_Value_i5_h0 slices_insertionSortCmpFunc_2_api_Value_i5_o0 slices_insertionSortCmpFunc_2_api_Value_i5_c0)))}
noncomputable def slices_insertionSortCmpFunc_2_api_Value_i5 (E:Env) (p0:Int) (p1:Int) (p2:C) (p3:Row):Option (List PV):=
 (slices_insertionSortCmpFunc_2_api_Value_i5_l0 E p0 p1 p2 (Go.IntKind.i64.wrap (p0+1)) [at_ p3 0, .int ((((at_ p3 1).toI).toNat:Nat):Int)]).bind fun x6=>
 some [.r [gC 0 x6.2, .int ((((at_ (gR 0 x6.2) 1).toI).toNat:Nat):Int)]]
theorem slices_insertionSortCmpFunc_2_api_Value_i5_eq (E:Env) (p0:Int) (p1:Int) (p2:C) (p3:Row):runI E slices_insertionSortCmpFunc_2_api_Value_i5_a [.r [.int p0], .r [.int p1], .r [p2], .r p3]=slices_insertionSortCmpFunc_2_api_Value_i5 E p0 p1 p2 p3:=by kernel_rfl
end Go.Ev
