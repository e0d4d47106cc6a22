/-
  A part of the proof: what the functions of the program compute.
-/
import Derived.Test.YtpkogifgifhckaaGreatDoorZNum
set_option linter.all false
set_option maxRecDepth 100000
namespace Go.Ev
def claplaw3_DictPairs_h0:Shape:={slots:=[(2, .d (.one (.ref 22))),(13, .d (.one (.sl 28))),(15, .d (.one (.sl 28))),(17, .sw 0),(113, .d (.one (.sl 28))),(114, .d lI),(115, .d lI)],objs:=[.sarr 28 lA2]}
def claplaw3_DictPairs_o0:List (Exit'×Shape):=[(.exit 0,{slots:=[(2, .d (.one (.ref 22))),(13, .d (.one (.sl 28))),(15, .d (.one (.sl 28))),(17, .sw 0)],objs:=[.sarr 28 lA2]})]
def claplaw3_DictPairs_c0:ACode:=(.seq (.region [] [oq 116 (.icmp .lss (.t 115) (.t 114))] false 0)
 (.seq (.cond (.t 116) .skip
 (.exit 0))
 (.seq (.block 1 (.seq (.region [] [oq 117 (.iad 28 lA2 (.t 113) (.t 115)),
 oq 118 (.ld lA2 28 (.t 117)),
 oq 19 (.allocO 0 lA2 [.int 0, .int 0, .str [], .nils, .int 0, .int 0, .str [], .nils]),
 ⟨none, .st lA2 (.t 19) (.t 118),none,[]⟩] false 1)
 (.region [] [oq 119 (.mov (.t 17)),
 oq 120 (.iadA 2 28 25 lA1 (.t 19) (.c lI [.int 1])),
 oq 121 (.ld lA1 25 (.t 120)),
 oq 122 (.iadA 2 28 25 lA1 (.t 19) (.c lI [.int 0])),
 oq 123 (.ld lA1 25 (.t 122)),
 oq 124 (.bld lA2 [.int 0, .int 0, .str [], .nils, .int 0, .int 0, .str [], .nils] [(0,4,(.t 121)),(4,4,(.t 123))]),
 oq 125 (.bsl 28 lA2 1 [.int 0, .int 0, .str [], .nils, .int 0, .int 0, .str [], .nils] [(0,(.t 124))]),
 oq 126 (.appW 0 28 lA2 112 (.t 119) (.t 125)),
 oq 17 (.mov (.t 126))] false 1)))
 (.region [] [oq 127 (.ibin .add (.t 115) (.c lI [.int 1])),
 oq 115 (.mov (.t 127))] false 0))))
noncomputable def claplaw3_DictPairs_l0 (E:Env) (v0:C) (v1:C) (v2:C) (v3:C) (v4:Int) (v5:Int) (v6:C):Option (Nat×List PV):=E.fix (stepOf E claplaw3_DictPairs_c0 claplaw3_DictPairs_h0 claplaw3_DictPairs_o0) [.r [v0], .r [v1], .r [v2], .r [v3], .r [.int v4], .r [.int v5], .r [v6]]
noncomputable def claplaw3_DictPairs_b0 (E:Env) (X:C→C→C→C→Int→Int→C→Option (Nat×List PV)) (v0:C) (v1:C) (v2:C) (v3:C) (v4:Int) (v5:Int) (v6:C):Option (Nat×List PV):=
 if (decide (v5<v4))=true then
 if (0:Int)≤v5∧v5<(v3.rows.length:Int)then
 if (v6.rows.length+([[at_ (rowsAt v3.rows v5.toNat) 4,at_ (rowsAt v3.rows v5.toNat) 5,at_ (rowsAt v3.rows v5.toNat) 6,at_ (rowsAt v3.rows v5.toNat) 7,at_ (rowsAt v3.rows v5.toNat) 0,at_ (rowsAt v3.rows v5.toNat) 1,at_ (rowsAt v3.rows v5.toNat) 2,at_ (rowsAt v3.rows v5.toNat) 3]]:List Row).length)*112≤140737488355328 then
 X v0 v1 v2 v3 v4 (Go.IntKind.i64.wrap (v5+1)) (appC v6 ([[at_ (rowsAt v3.rows v5.toNat) 4,at_ (rowsAt v3.rows v5.toNat) 5,at_ (rowsAt v3.rows v5.toNat) 6,at_ (rowsAt v3.rows v5.toNat) 7,at_ (rowsAt v3.rows v5.toNat) 0,at_ (rowsAt v3.rows v5.toNat) 1,at_ (rowsAt v3.rows v5.toNat) 2,at_ (rowsAt v3.rows v5.toNat) 3]]:List Row))
 else none
 else none
 else
 some (0,[.r [v0], .r [v1], .r [v2], .r [v6]])
theorem claplaw3_DictPairs_s0 (E:Env) (X:List PV→Option (Nat×List PV)) (v0:C) (v1:C) (v2:C) (v3:C) (v4:Int) (v5:Int) (v6:C):stepOf E claplaw3_DictPairs_c0 claplaw3_DictPairs_h0 claplaw3_DictPairs_o0 X [.r [v0], .r [v1], .r [v2], .r [v3], .r [.int v4], .r [.int v5], .r [v6]]=claplaw3_DictPairs_b0 E (fun (v0:C) (v1:C) (v2:C) (v3:C) (v4:Int) (v5:Int) (v6:C)=>X [.r [v0], .r [v1], .r [v2], .r [v3], .r [.int v4], .r [.int v5], .r [v6]]) v0 v1 v2 v3 v4 v5 v6:=by kernel_rfl
def claplaw3_DictPairs_a:AFun:={ps:=[(.one (.sl 28)),lA1],rs:=[lB],res:=[(false,4,none)],body:=(.seq (.region [] [oq 2 (.boxP (.one (.sl 28)) 22 (.t 0)),
 oq 3 (.boxP lA1 25 (.t 1)),
 oq 4 (.mov (.c lB [.bool false]))] false 0)
 (.seq (.seq (.region [] [oq 20 (.call 4 [] [lB] []),
 oq 21 (.not (.t 20))] false 0)
 (.cond (.t 21) (.seq (.region [] [oq 4 (.mov (.c lB [.bool false]))] false 0)
 .ret)
 .skip))
 (.seq (.region [] [oq 22 (.mkf 5 31 [.ref 22, .ref 25] [(.t 2),(.t 3)]),
 oq 5 (.mov (.t 22))] false 0)
 (.seq (.region [] [oq 23 (.mov (.t 5)),
 oq 24 (.callv 31 [lI] [lI] (.t 23) [(.c lI [.int 0])]),
 oq 25 (.mov (.t 5)),
 oq 26 (.callv 31 [lI] [lI] (.t 25) [(.c lI [.int 1])]),
 oq 6 (.mov (.t 24)),
 oq 7 (.mov (.t 26))] false 0)
 (.seq (.region [] [oq 28 (.ld (.one (.sl 28)) 22 (.t 2)),
 oq 29 (.ld lA1 25 (.t 3)),
 oq 30 (.call 9 [(.one (.sl 28)),lA1] [lA1,lB] [(.t 28),(.t 29)]),
 oq 27 (.mov (.t 30)),
 oq 31 (.ext 0 (.t 27)),
 oq 32 (.ext 1 (.t 27)),
 oq 8 (.allocO 0 lA1 [.int 0, .int 0, .str [], .nils]),
 ⟨none, .st lA1 (.t 8) (.t 31),none,[]⟩,
 oq 9 (.mov (.t 32))] false 1)
 (.seq (.region [] [oq 34 (.ld (.one (.sl 28)) 22 (.t 2)),
 oq 35 (.ld lA1 25 (.t 3)),
 oq 36 (.call 10 [(.one (.sl 28)),lA1] [lA1,lB] [(.t 34),(.t 35)]),
 oq 33 (.mov (.t 36)),
 oq 37 (.ext 0 (.t 33)),
 oq 38 (.ext 1 (.t 33)),
 oq 10 (.allocO 0 lA1 [.int 0, .int 0, .str [], .nils]),
 ⟨none, .st lA1 (.t 10) (.t 37),none,[]⟩,
 oq 11 (.mov (.t 38))] false 1)
 (.seq (.seq (.join [(.normal,{slots:=[(2, .d (.one (.ref 22))),(76, .d lB)],objs:=[]})] (.region [] [oq 39 (.mov (.t 9)),
 oq 40 (.mov (.t 6)),
 ⟨some 41, .icmp .geq (.t 40) (.c lI [.int 0]),none,[1]⟩,
 ⟨some 42, .bcmp true (.t 39) (.t 41),none,[0,1,2]⟩,
 ⟨some 43, .mov (.t 42),none,[0,1,2,3]⟩,
 ⟨some 44, .mov (.t 11),some (43,false),[0,1,2,3,4]⟩,
 ⟨some 45, .mov (.t 7),some (43,false),[0,1,2,3,4]⟩,
 ⟨some 46, .icmp .geq (.t 45) (.c lI [.int 0]),some (43,false),[0,1,2,3,4,6]⟩,
 ⟨some 47, .bcmp true (.t 44) (.t 46),some (43,false),[0,1,2,3,4,5,6,7]⟩,
 ⟨some 48, .pick (.t 43) (.c lB [.bool true]) (.t 47),none,[0,1,2,3,4,5,6,7,8]⟩,
 ⟨some 49, .mov (.t 48),none,[0,1,2,3,4,5,6,7,8,9]⟩,
 ⟨some 50, .mov (.t 9),some (49,false),[0,1,2,3,4,5,6,7,8,9,10]⟩,
 ⟨some 51, .mov (.t 50),some (49,false),[0,1,2,3,4,5,6,7,8,9,10,11]⟩,
 ⟨some 52, .ld lA1 25 (.t 8),some (51,true),[0,1,2,3,4,5,6,7,8,9,10,11,12]⟩,
 ⟨some 53, .ld (.one (.sl 28)) 22 (.t 2),some (51,true),[0,1,2,3,4,5,6,7,8,9,10,11,12]⟩,
 ⟨some 54, .mov (.t 6),some (51,true),[0,1,2,3,4,5,6,7,8,9,10,11,12]⟩,
 ⟨some 55, .imin true [(.t 54),(.c lI [.int 0])],some (51,true),[0,1,2,3,4,5,6,7,8,9,10,11,12,15]⟩,
 ⟨some 56, .iad 28 lA2 (.t 53) (.t 55),some (51,true),[0,1,2,3,4,5,6,7,8,9,10,11,12,14,15,16]⟩,
 ⟨some 57, .iadA 2 28 25 lA1 (.t 56) (.c lI [.int 1]),some (51,true),[0,1,2,3,4,5,6,7,8,9,10,11,12,14,15,16,17]⟩,
 ⟨some 58, .ld lA1 25 (.t 57),some (51,true),[0,1,2,3,4,5,6,7,8,9,10,11,12,14,15,16,17,18]⟩,
 ⟨some 59, .call 8 [lA1,lA1] [lB] [(.t 52),(.t 58)],some (51,true),[0,1,2,3,4,5,6,7,8,9,10,11,12,13,14,15,16,17,18,19]⟩,
 ⟨some 60, .not (.t 59),some (51,true),[0,1,2,3,4,5,6,7,8,9,10,11,12,13,14,15,16,17,18,19,20]⟩,
 ⟨some 61, .pick (.t 51) (.t 60) (.c lB [.bool false]),some (49,false),[0,1,2,3,4,5,6,7,8,9,10,11,12,13,14,15,16,17,18,19,20,21]⟩,
 ⟨some 62, .pick (.t 49) (.c lB [.bool true]) (.t 61),none,[0,1,2,3,4,5,6,7,8,9,10,11,12,13,14,15,16,17,18,19,20,21,22]⟩,
 ⟨some 63, .mov (.t 62),none,[0,1,2,3,4,5,6,7,8,9,10,11,12,13,14,15,16,17,18,19,20,21,22,23]⟩,
 ⟨some 64, .mov (.t 11),some (63,false),[0,1,2,3,4,5,6,7,8,9,10,11,12,13,14,15,16,17,18,19,20,21,22,23,24]⟩,
 ⟨some 65, .mov (.t 64),some (63,false),[0,1,2,3,4,5,6,7,8,9,10,11,12,13,14,15,16,17,18,19,20,21,22,23,24,25]⟩,
 ⟨some 66, .ld lA1 25 (.t 10),some (65,true),[0,1,2,3,4,5,6,7,8,9,10,11,12,13,14,15,16,17,18,19,20,21,22,23,24,25,26]⟩,
 ⟨some 67, .ld (.one (.sl 28)) 22 (.t 2),some (65,true),[0,1,2,3,4,5,6,7,8,9,10,11,12,13,14,15,16,17,18,19,20,21,22,23,24,25,26]⟩,
 ⟨some 68, .mov (.t 7),some (65,true),[0,1,2,3,4,5,6,7,8,9,10,11,12,13,14,15,16,17,18,19,20,21,22,23,24,25,26]⟩,
 ⟨some 69, .imin true [(.t 68),(.c lI [.int 0])],some (65,true),[0,1,2,3,4,5,6,7,8,9,10,11,12,13,14,15,16,17,18,19,20,21,22,23,24,25,26,29]⟩,
 ⟨some 70, .iad 28 lA2 (.t 67) (.t 69),some (65,true),[0,1,2,3,4,5,6,7,8,9,10,11,12,13,14,15,16,17,18,19,20,21,22,23,24,25,26,28,29,30]⟩,
 ⟨some 71, .iadA 2 28 25 lA1 (.t 70) (.c lI [.int 0]),some (65,true),[0,1,2,3,4,5,6,7,8,9,10,11,12,13,14,15,16,17,18,19,20,21,22,23,24,25,26,28,29,30,31]⟩,
 ⟨some 72, .ld lA1 25 (.t 71),some (65,true),[0,1,2,3,4,5,6,7,8,9,10,11,12,13,14,15,16,17,18,19,20,21,22,23,24,25,26,28,29,30,31,32]⟩,
 ⟨some 73, .call 8 [lA1,lA1] [lB] [(.t 66),(.t 72)],some (65,true),[0,1,2,3,4,5,6,7,8,9,10,11,12,13,14,15,16,17,18,19,20,21,22,23,24,25,26,27,28,29,30,31,32,33]⟩,
 ⟨some 74, .not (.t 73),some (65,true),[0,1,2,3,4,5,6,7,8,9,10,11,12,13,14,15,16,17,18,19,20,21,22,23,24,25,26,27,28,29,30,31,32,33,34]⟩,
 ⟨some 75, .pick (.t 65) (.t 74) (.c lB [.bool false]),some (63,false),[0,1,2,3,4,5,6,7,8,9,10,11,12,13,14,15,16,17,18,19,20,21,22,23,24,25,26,27,28,29,30,31,32,33,34,35]⟩,
 ⟨some 76, .pick (.t 63) (.c lB [.bool true]) (.t 75),none,[0,1,2,3,4,5,6,7,8,9,10,11,12,13,14,15,16,17,18,19,20,21,22,23,24,25,26,27,28,29,30,31,32,33,34,35,36]⟩] true 0))
 (.cond (.t 76) (.seq (.region [] [oq 4 (.mov (.c lB [.bool false]))] false 0)
 .ret)
 .skip))
 (.seq (.region [] [oq 77 (.ld (.one (.sl 28)) 22 (.t 2)),
 oq 78 (.call 11 [(.one (.sl 28))] [lI] [(.t 77)]),
 oq 12 (.mov (.t 78))] false 0)
 (.seq (.region [] [oq 80 (.ld (.one (.sl 28)) 22 (.t 2)),
 oq 81 (.call 12 [(.one (.sl 28))] [(.one (.sl 28)),lI] [(.t 80)]),
 oq 79 (.mov (.t 81)),
 oq 82 (.ext 0 (.t 79)),
 oq 83 (.ext 1 (.t 79)),
 oq 13 (.mov (.t 82)),
 oq 14 (.mov (.t 83))] false 0)
 (.seq (.region [] [oq 85 (.ld (.one (.sl 28)) 22 (.t 2)),
 oq 86 (.call 13 [(.one (.sl 28))] [(.one (.sl 28)),lI] [(.t 85)]),
 oq 84 (.mov (.t 86)),
 oq 87 (.ext 0 (.t 84)),
 oq 88 (.ext 1 (.t 84)),
 oq 15 (.mov (.t 87)),
 oq 16 (.mov (.t 88))] false 0)
 (.seq (.seq (.join [(.normal,{slots:=[(2, .d (.one (.ref 22))),(12, .d lI),(13, .d (.one (.sl 28))),(15, .d (.one (.sl 28))),(102, .d lB)],objs:=[]})] (.region [] [oq 89 (.ld (.one (.sl 28)) 22 (.t 2)),
 oq 90 (.call 14 [(.one (.sl 28))] [lI] [(.t 89)]),
 oq 91 (.mov (.t 12)),
 oq 92 (.icmp .neq (.t 90) (.t 91)),
 oq 93 (.mov (.t 92)),
 ⟨some 94, .mov (.t 14),some (93,false),[]⟩,
 ⟨some 95, .mov (.t 12),some (93,false),[]⟩,
 ⟨some 96, .icmp .neq (.t 94) (.t 95),some (93,false),[]⟩,
 oq 97 (.pick (.t 93) (.c lB [.bool true]) (.t 96)),
 oq 98 (.mov (.t 97)),
 ⟨some 99, .mov (.t 16),some (98,false),[]⟩,
 ⟨some 100, .mov (.t 12),some (98,false),[]⟩,
 ⟨some 101, .icmp .neq (.t 99) (.t 100),some (98,false),[]⟩,
 oq 102 (.pick (.t 98) (.c lB [.bool true]) (.t 101))] false 0))
 (.cond (.t 102) (.seq (.region [] [oq 4 (.mov (.c lB [.bool false]))] false 0)
 .ret)
 .skip))
 (.seq (.seq (.region [] [oq 103 (.mov (.t 12)),
 oq 104 (.icmp .neq (.t 103) (.c lI [.int 0]))] false 0)
 (.cond (.t 104) (.seq (.join [(.normal,{slots:=[(4, .d lB)],objs:=[]})] (.region [] [oq 105 (.mov (.t 13)),
 oq 106 (.lenL (.t 105)),
 oq 107 (.icmp .eql (.t 106) (.c lI [.int 0])),
 oq 108 (.mov (.t 107)),
 ⟨some 109, .mov (.t 15),some (108,true),[]⟩,
 ⟨some 110, .lenL (.t 109),some (108,true),[]⟩,
 ⟨some 111, .icmp .eql (.t 110) (.c lI [.int 0]),some (108,true),[]⟩,
 oq 112 (.pick (.t 108) (.t 111) (.c lB [.bool false])),
 oq 4 (.mov (.t 112))] false 0))
 .ret)
 .skip))
 (.seq (.region [] [oq 17 (.nilS 0 28 lA2)] false 1)
 (.seq (.seq (.region [] [oq 113 (.ld (.one (.sl 28)) 22 (.t 2)),
 oq 114 (.lenL (.t 113)),
 oq 115 (.mov (.c lI [.int 0]))] false 0)
 (.block 0 (.loop claplaw3_DictPairs_h0 claplaw3_DictPairs_o0 claplaw3_DictPairs_c0)))
 (.seq (.region [] [oq 128 (.mov (.t 13)),
 oq 129 (.ld (.one (.sl 28)) 22 (.t 2)),
 oq 130 (.call 16 [(.one (.sl 28))] [(.one (.sl 28))] [(.t 129)]),
 oq 131 (.call 15 [(.one (.sl 28)),(.one (.sl 28))] [lB] [(.t 128),(.t 130)]),
 oq 132 (.mov (.t 131)),
 ⟨some 133, .mov (.t 15),some (132,true),[]⟩,
 ⟨some 134, .mov (.t 17),some (132,true),[]⟩,
 ⟨some 135, .call 16 [(.one (.sl 28))] [(.one (.sl 28))] [(.t 134)],some (132,true),[]⟩,
 ⟨some 136, .call 15 [(.one (.sl 28)),(.one (.sl 28))] [lB] [(.t 133),(.t 135)],some (132,true),[]⟩,
 oq 137 (.pick (.t 132) (.t 136) (.c lB [.bool false])),
 oq 4 (.mov (.t 137))] false 0)
 .ret)))))))))))))))}
noncomputable def claplaw3_DictPairs (E:Env) (p0:C) (p1:Row):Option (List Row):=
 (E.pc n_claplaw3_looked []).bind fun y1=>
 if (!((at_ (rowsAt y1 0) 0).toB))=true then
 some [[.bool false]]
 else
 (E.pc n_claplaw3_DictPairs_1 ([[.int 0]]++[[.dp [p0]],[.dp p1]])).bind fun y2=>
 (E.pc n_claplaw3_DictPairs_1 ([[.int 1]]++[[.dp [p0]],[.dp p1]])).bind fun y3=>
 (E.pc n_dict_To [[p0],p1]).bind fun y4=>
 (E.pc n_dict_From [[p0],p1]).bind fun y5=>
 (let K6:Bool→Option (Nat×List PV):=fun q7=>
 let K8:Bool→Option (Nat×List PV):=fun q9=>
 let K10:Bool→Option (Nat×List PV):=fun q11=>
 some (0,[.r [.dp [p0]], .r [.bool q11]])
 if q9=true then
 K10 true
 else
 let K12:Bool→Option (Nat×List PV):=fun q13=>
 K10 q13
 if ((at_ (rowsAt y5 1) 0).toB)=true then
 if (0:Int)≤(if 0>((at_ (rowsAt y3 0) 0).toI)then 0 else (at_ (rowsAt y3 0) 0).toI)∧(if 0>((at_ (rowsAt y3 0) 0).toI)then 0 else (at_ (rowsAt y3 0) 0).toI)<(p0.rows.length:Int)then
 (E.pc n_value_Same [rowsAt y5 0,[at_ (rowsAt p0.rows ((if 0>((at_ (rowsAt y3 0) 0).toI)then 0 else (at_ (rowsAt y3 0) 0).toI).toNat)) 0,at_ (rowsAt p0.rows ((if 0>((at_ (rowsAt y3 0) 0).toI)then 0 else (at_ (rowsAt y3 0) 0).toI).toNat)) 1,at_ (rowsAt p0.rows ((if 0>((at_ (rowsAt y3 0) 0).toI)then 0 else (at_ (rowsAt y3 0) 0).toI).toNat)) 2,at_ (rowsAt p0.rows ((if 0>((at_ (rowsAt y3 0) 0).toI)then 0 else (at_ (rowsAt y3 0) 0).toI).toNat)) 3]]).bind fun y14=>
 K12 (!((at_ (rowsAt y14 0) 0).toB))
 else none
 else
 K12 false
 if q7=true then
 K8 true
 else
 let K15:Bool→Option (Nat×List PV):=fun q16=>
 K8 q16
 if ((at_ (rowsAt y4 1) 0).toB)=true then
 if (0:Int)≤(if 0>((at_ (rowsAt y2 0) 0).toI)then 0 else (at_ (rowsAt y2 0) 0).toI)∧(if 0>((at_ (rowsAt y2 0) 0).toI)then 0 else (at_ (rowsAt y2 0) 0).toI)<(p0.rows.length:Int)then
 (E.pc n_value_Same [rowsAt y4 0,[at_ (rowsAt p0.rows ((if 0>((at_ (rowsAt y2 0) 0).toI)then 0 else (at_ (rowsAt y2 0) 0).toI).toNat)) 4,at_ (rowsAt p0.rows ((if 0>((at_ (rowsAt y2 0) 0).toI)then 0 else (at_ (rowsAt y2 0) 0).toI).toNat)) 5,at_ (rowsAt p0.rows ((if 0>((at_ (rowsAt y2 0) 0).toI)then 0 else (at_ (rowsAt y2 0) 0).toI).toNat)) 6,at_ (rowsAt p0.rows ((if 0>((at_ (rowsAt y2 0) 0).toI)then 0 else (at_ (rowsAt y2 0) 0).toI).toNat)) 7]]).bind fun y17=>
 K15 (!((at_ (rowsAt y17 0) 0).toB))
 else none
 else
 K15 false
 if (!(((at_ (rowsAt y4 1) 0).toB)==(decide (((at_ (rowsAt y2 0) 0).toI)≥0))))=true then
 K6 true
 else
 K6 (!(((at_ (rowsAt y5 1) 0).toB)==(decide (((at_ (rowsAt y3 0) 0).toI)≥0))))).bind fun x18=>
 if (gB 1 x18.2)=true then
 some [[.bool false]]
 else
 if (gC 0 x18.2).isDp=true then
 (E.pc n_clapref3_Pairs [[at_ ((gC 0 x18.2).dpRow) 0]]).bind fun y19=>
 if (gC 0 x18.2).isDp=true then
 (E.pc n_dict_Sort [[at_ ((gC 0 x18.2).dpRow) 0]]).bind fun y20=>
 if (gC 0 x18.2).isDp=true then
 (E.pc n_dict_Invert [[at_ ((gC 0 x18.2).dpRow) 0]]).bind fun y21=>
 (if (gC 0 x18.2).isDp=true then
 (E.pc n_dict_Check [[at_ ((gC 0 x18.2).dpRow) 0]]).bind fun y22=>
 let K23:Bool→Option (Nat×List PV):=fun q24=>
 let K25:Bool→Option (Nat×List PV):=fun q26=>
 some (0,[.r [gC 0 x18.2], .r [.int ((at_ (rowsAt y19 0) 0).toI)], .r [at_ (rowsAt y20 0) 0], .r [at_ (rowsAt y21 0) 0], .r [.bool q26]])
 if q24=true then
 K25 true
 else
 K25 (((at_ (rowsAt y21 1) 0).toI) !=((at_ (rowsAt y19 0) 0).toI))
 if (((at_ (rowsAt y22 0) 0).toI) !=((at_ (rowsAt y19 0) 0).toI))=true then
 K23 true
 else
 K23 (((at_ (rowsAt y20 1) 0).toI) !=((at_ (rowsAt y19 0) 0).toI))
 else none).bind fun x27=>
 if (gB 4 x27.2)=true then
 some [[.bool false]]
 else
 if ((gI 1 x27.2) !=0)=true then
 (let K28:Bool→Option (Nat×List PV):=fun q29=>
 some (0,[.r [.bool q29]])
 if ((((gC 2 x27.2).rows).length:Int)==0)=true then
 K28 ((((gC 3 x27.2).rows).length:Int)==0)
 else
 K28 false).bind fun x30=>
 some [[.bool (gB 0 x30.2)]]
 else
 if (gC 0 x27.2).isDp=true then
 (claplaw3_DictPairs_l0 E (gC 0 x27.2) (gC 2 x27.2) (gC 3 x27.2) (at_ ((gC 0 x27.2).dpRow) 0) (((at_ ((gC 0 x27.2).dpRow) 0).rows).length:Int) 0 .nils).bind fun x31=>
 if (gC 0 x31.2).isDp=true then
 (E.pc n_clapref3_Sorted [[at_ ((gC 0 x31.2).dpRow) 0]]).bind fun y32=>
 (E.pc n_claplaw3_samePairs [[gC 1 x31.2],[at_ (rowsAt y32 0) 0]]).bind fun y33=>
 let K34:Bool→Option (List Row):=fun q35=>
 some [[.bool q35]]
 if ((at_ (rowsAt y33 0) 0).toB)=true then
 (E.pc n_clapref3_Sorted [[gC 3 x31.2]]).bind fun y36=>
 (E.pc n_claplaw3_samePairs [[gC 2 x31.2],[at_ (rowsAt y36 0) 0]]).bind fun y37=>
 K34 ((at_ (rowsAt y37 0) 0).toB)
 else
 K34 false
 else none
 else none
 else none
 else none
 else none
theorem claplaw3_DictPairs_eq (E:Env) (p0:C) (p1:Row):runP E claplaw3_DictPairs_a [[p0],p1]=claplaw3_DictPairs E p0 p1:=by kernel_rfl
end Go.Ev
