/-
  A part of the proof: what the functions of the program compute.
-/
import Derived.Test.YtmcbcmgfkbjpcaaGreatDoorZNum
set_option linter.all false
set_option maxRecDepth 100000
namespace Go.Ev
def slices_partialInsertionSortCmpFunc_2_api_Value_i14_h1:Shape:={slots:=[(0, .hol 0),(1, .d lI),(2, .d lI),(3, .d (.one (.fn 64))),(9, .d lI),(10, .d lI)],objs:=[.hol lA0 (.agg [])],m:=1}
def slices_partialInsertionSortCmpFunc_2_api_Value_i14_o1:List (Exit'×Shape):=[(.exit 2,{slots:=[(0, .hol 0),(1, .d lI),(2, .d lI),(3, .d (.one (.fn 64))),(9, .d lI),(10, .d lI)],objs:=[.hol lA0 (.agg [])],m:=1})]
def slices_partialInsertionSortCmpFunc_2_api_Value_i14_c1:ACode:=(.seq (.seq (.region [] [oq 19 (.mov (.t 9)),
 oq 20 (.mov (.t 2)),
 ⟨some 21, .icmp .lss (.t 19) (.t 20),none,[0,1]⟩,
 ⟨some 22, .mov (.t 21),none,[0,1,2]⟩,
 ⟨some 23, .mov (.t 3),some (22,true),[0,1,2,3]⟩,
 ⟨some 24, .mov (.t 0),some (22,true),[0,1,2,3]⟩,
 ⟨some 25, .mov (.t 9),some (22,true),[0,1,2,3]⟩,
 ⟨some 26, .iad 40 lA0 (.t 24) (.t 25),some (22,true),[0,1,2,3,5,6]⟩,
 ⟨some 27, .ldH false lA0 (.t 26),some (22,true),[0,1,2,3,5,6,7]⟩,
 ⟨some 28, .mov (.t 0),some (22,true),[0,1,2,3]⟩,
 ⟨some 29, .mov (.t 9),some (22,true),[0,1,2,3]⟩,
 ⟨some 30, .ibin .sub (.t 29) (.c lI [.int 1]),some (22,true),[0,1,2,3,10]⟩,
 ⟨some 31, .iad 40 lA0 (.t 28) (.t 30),some (22,true),[0,1,2,3,9,10,11]⟩,
 ⟨some 32, .ldH false lA0 (.t 31),some (22,true),[0,1,2,3,9,10,11,12]⟩,
 ⟨some 33, .callv 64 [lA0,lA0] [lI] (.t 23) [(.t 27),(.t 32)],some (22,true),[0,1,2,3,4,5,6,7,8,9,10,11,12,13]⟩,
 ⟨some 34, .icmp .lss (.t 33) (.c lI [.int 0]),some (22,true),[0,1,2,3,4,5,6,7,8,9,10,11,12,13,14]⟩,
 ⟨some 35, .not (.t 34),some (22,true),[0,1,2,3,4,5,6,7,8,9,10,11,12,13,14,15]⟩,
 ⟨some 36, .pick (.t 22) (.t 35) (.c lB [.bool false]),none,[0,1,2,3,4,5,6,7,8,9,10,11,12,13,14,15,16]⟩] true 0)
 (.cond (.t 36) .skip
 (.exit 2)))
 (.block 3 (.region [] [oq 37 (.mov (.t 9)),
 oq 38 (.ibin .add (.t 37) (.c lI [.int 1])),
 oq 9 (.mov (.t 38))] false 0)))
noncomputable def slices_partialInsertionSortCmpFunc_2_api_Value_i14_l1 (E:Env) (v0:Int) (v1:Int) (v2:C) (v3:Int) (v4:Int) (v5:Row):Option (Nat×List PV):=E.fix (stepOf E slices_partialInsertionSortCmpFunc_2_api_Value_i14_c1 slices_partialInsertionSortCmpFunc_2_api_Value_i14_h1 slices_partialInsertionSortCmpFunc_2_api_Value_i14_o1) [.r [.int v0], .r [.int v1], .r [v2], .r [.int v3], .r [.int v4], .r v5]
noncomputable def slices_partialInsertionSortCmpFunc_2_api_Value_i14_b1 (E:Env) (X:Int→Int→C→Int→Int→Row→Option (Nat×List PV)) (v0:Int) (v1:Int) (v2:C) (v3:Int) (v4:Int) (v5:Row):Option (Nat×List PV):=
 let K1:Bool→Option (Nat×List PV):=fun q2=>
 if q2=true then
 X v0 v1 v2 (Go.IntKind.i64.wrap (v3+1)) v4 [at_ v5 0, .int ((((at_ v5 1).toI).toNat:Nat):Int)]
 else
 some (0,[.r [.int v0], .r [.int v1], .r [v2], .r [.int v3], .r [.int v4], .r [at_ v5 0, .int ((((at_ v5 1).toI).toNat:Nat):Int)]])
 if (decide (v3<v1))=true then
 if (0:Int)≤v3∧v3<(((at_ v5 0).rows).length:Int)then
 if v3.toNat<((at_ v5 0).rows).length∧v3.toNat≠(((at_ v5 1).toI).toNat)then
 if (0:Int)≤(Go.IntKind.i64.wrap (v3 - 1))∧(Go.IntKind.i64.wrap (v3 - 1))<(((at_ v5 0).rows).length:Int)then
 if ((Go.IntKind.i64.wrap (v3 - 1)).toNat)<((at_ v5 0).rows).length∧((Go.IntKind.i64.wrap (v3 - 1)).toNat)≠(((at_ v5 1).toI).toNat)then
 (callC E v2 [rowsAt ((at_ v5 0).rows) v3.toNat,rowsAt ((at_ v5 0).rows) ((Go.IntKind.i64.wrap (v3 - 1)).toNat)]).bind fun y3=>
 K1 (!(decide (((at_ (rowsAt y3 0) 0).toI)<0)))
 else none
 else none
 else none
 else none
 else
 K1 false
theorem slices_partialInsertionSortCmpFunc_2_api_Value_i14_s1 (E:Env) (X:List PV→Option (Nat×List PV)) (v0:Int) (v1:Int) (v2:C) (v3:Int) (v4:Int) (v5:Row):stepOf E slices_partialInsertionSortCmpFunc_2_api_Value_i14_c1 slices_partialInsertionSortCmpFunc_2_api_Value_i14_h1 slices_partialInsertionSortCmpFunc_2_api_Value_i14_o1 X [.r [.int v0], .r [.int v1], .r [v2], .r [.int v3], .r [.int v4], .r v5]=slices_partialInsertionSortCmpFunc_2_api_Value_i14_b1 E (fun (v0:Int) (v1:Int) (v2:C) (v3:Int) (v4:Int) (v5:Row)=>X [.r [.int v0], .r [.int v1], .r [v2], .r [.int v3], .r [.int v4], .r v5]) v0 v1 v2 v3 v4 v5:=by kernel_rfl
def slices_partialInsertionSortCmpFunc_2_api_Value_i14_h2:Shape:={slots:=[(0, .hol 0),(1, .d lI),(2, .d lI),(3, .d (.one (.fn 64))),(9, .d lI),(10, .d lI),(11, .d lI)],objs:=[.hol lA0 (.agg [])],m:=1}
def slices_partialInsertionSortCmpFunc_2_api_Value_i14_o2:List (Exit'×Shape):=[(.exit 4,{slots:=[(0, .hol 0),(1, .d lI),(2, .d lI),(3, .d (.one (.fn 64))),(9, .d lI),(10, .d lI)],objs:=[.hol lA0 (.agg [])],m:=1})]
def slices_partialInsertionSortCmpFunc_2_api_Value_i14_c2:ACode:=(.seq (.seq (.region [] [oq 68 (.mov (.t 11)),
 oq 69 (.icmp .geq (.t 68) (.c lI [.int 1]))] false 0)
 (.cond (.t 69) .skip
 (.exit 4)))
 (.seq (.block 5 (.seq (.seq (.region [] [oq 72 (.mov (.t 3)),
 oq 73 (.mov (.t 0)),
 oq 74 (.mov (.t 11)),
 ⟨some 75, .iad 40 lA0 (.t 73) (.t 74),none,[1,2]⟩,
 ⟨some 76, .ldH false lA0 (.t 75),none,[1,2,3]⟩,
 oq 77 (.mov (.t 0)),
 oq 78 (.mov (.t 11)),
 ⟨some 79, .ibin .sub (.t 78) (.c lI [.int 1]),none,[6]⟩,
 ⟨some 80, .iad 40 lA0 (.t 77) (.t 79),none,[5,6,7]⟩,
 ⟨some 81, .ldH false lA0 (.t 80),none,[5,6,7,8]⟩,
 ⟨some 82, .callv 64 [lA0,lA0] [lI] (.t 72) [(.t 76),(.t 81)],none,[0,1,2,3,4,5,6,7,8,9]⟩,
 ⟨some 83, .icmp .lss (.t 82) (.c lI [.int 0]),none,[0,1,2,3,4,5,6,7,8,9,10]⟩,
 ⟨some 84, .not (.t 83),none,[0,1,2,3,4,5,6,7,8,9,10,11]⟩] true 0)
 (.cond (.t 84) (.exit 4)
 .skip))
 (.region [] [oq 85 (.mov (.t 0)),
 oq 86 (.mov (.t 11)),
 oq 87 (.mov (.t 0)),
 oq 88 (.mov (.t 11)),
 ⟨some 89, .ibin .sub (.t 88) (.c lI [.int 1]),none,[3]⟩,
 oq 90 (.mov (.t 0)),
 oq 91 (.mov (.t 11)),
 ⟨some 92, .ibin .sub (.t 91) (.c lI [.int 1]),none,[6]⟩,
 ⟨some 93, .iad 40 lA0 (.t 90) (.t 92),none,[5,6,7]⟩,
 ⟨some 94, .ldH false lA0 (.t 93),none,[5,6,7,8]⟩,
 oq 95 (.mov (.t 0)),
 oq 96 (.mov (.t 11)),
 ⟨some 97, .iad 40 lA0 (.t 95) (.t 96),none,[10,11]⟩,
 ⟨some 98, .ldH false lA0 (.t 97),none,[10,11,12]⟩,
 ⟨some 99, .iad 40 lA0 (.t 85) (.t 86),none,[0,1,5,6,7,8,9,10,11,12,13]⟩,
 ⟨none, .stF lA0 (.t 99) (.t 94),none,[0,1,5,6,7,8,9,10,11,12,13,14]⟩,
 ⟨some 100, .iad 40 lA0 (.t 87) (.t 89),none,[0,1,2,3,4,5,6,7,8,9,10,11,12,13,14,15]⟩,
 ⟨none, .stF lA0 (.t 100) (.t 98),none,[0,1,2,3,4,5,6,7,8,9,10,11,12,13,14,15,16]⟩] true 0)))
 (.region [] [oq 70 (.mov (.t 11)),
 oq 71 (.ibin .sub (.t 70) (.c lI [.int 1])),
 oq 11 (.mov (.t 71))] false 0)))
noncomputable def slices_partialInsertionSortCmpFunc_2_api_Value_i14_l2 (E:Env) (v0:Int) (v1:Int) (v2:C) (v3:Int) (v4:Int) (v5:Int) (v6:Row):Option (Nat×List PV):=E.fix (stepOf E slices_partialInsertionSortCmpFunc_2_api_Value_i14_c2 slices_partialInsertionSortCmpFunc_2_api_Value_i14_h2 slices_partialInsertionSortCmpFunc_2_api_Value_i14_o2) [.r [.int v0], .r [.int v1], .r [v2], .r [.int v3], .r [.int v4], .r [.int v5], .r v6]
noncomputable def slices_partialInsertionSortCmpFunc_2_api_Value_i14_b2 (E:Env) (X:Int→Int→C→Int→Int→Int→Row→Option (Nat×List PV)) (v0:Int) (v1:Int) (v2:C) (v3:Int) (v4:Int) (v5:Int) (v6:Row):Option (Nat×List PV):=
 if (decide (v5≥1))=true then
 if (0:Int)≤v5∧v5<(((at_ v6 0).rows).length:Int)then
 if v5.toNat<((at_ v6 0).rows).length∧v5.toNat≠(((at_ v6 1).toI).toNat)then
 if (0:Int)≤(Go.IntKind.i64.wrap (v5 - 1))∧(Go.IntKind.i64.wrap (v5 - 1))<(((at_ v6 0).rows).length:Int)then
 if ((Go.IntKind.i64.wrap (v5 - 1)).toNat)<((at_ v6 0).rows).length∧((Go.IntKind.i64.wrap (v5 - 1)).toNat)≠(((at_ v6 1).toI).toNat)then
 (callC E v2 [rowsAt ((at_ v6 0).rows) v5.toNat,rowsAt ((at_ v6 0).rows) ((Go.IntKind.i64.wrap (v5 - 1)).toNat)]).bind fun y5=>
 if (!(decide (((at_ (rowsAt y5 0) 0).toI)<0)))=true then
 some (0,[.r [.int v0], .r [.int v1], .r [v2], .r [.int v3], .r [.int v4], .r [at_ v6 0, .int ((((at_ v6 1).toI).toNat:Nat):Int)]])
 else
 if (0:Int)≤(Go.IntKind.i64.wrap (v5 - 1))∧(Go.IntKind.i64.wrap (v5 - 1))<(((at_ v6 0).rows).length:Int)then
 if ((Go.IntKind.i64.wrap (v5 - 1)).toNat)<((at_ v6 0).rows).length∧((Go.IntKind.i64.wrap (v5 - 1)).toNat)≠(((at_ v6 1).toI).toNat)then
 if (0:Int)≤v5∧v5<(((at_ v6 0).rows).length:Int)then
 if v5.toNat<((at_ v6 0).rows).length∧v5.toNat≠(((at_ v6 1).toI).toNat)then
 if (0:Int)≤v5∧v5<(((at_ v6 0).rows).length:Int)then
 if ((at_ v6 0).rows).length≤(((at_ v6 1).toI).toNat)∧v5.toNat<((at_ v6 0).rows).length then
 if (0:Int)≤(Go.IntKind.i64.wrap (v5 - 1))∧(Go.IntKind.i64.wrap (v5 - 1))<((((at_ v6 0).rows).set v5.toNat (rowsAt ((at_ v6 0).rows) ((Go.IntKind.i64.wrap (v5 - 1)).toNat))).length:Int)then
 if (((at_ v6 0).rows).set v5.toNat (rowsAt ((at_ v6 0).rows) ((Go.IntKind.i64.wrap (v5 - 1)).toNat))).length≤(((at_ v6 1).toI).toNat)∧((Go.IntKind.i64.wrap (v5 - 1)).toNat)<(((at_ v6 0).rows).set v5.toNat (rowsAt ((at_ v6 0).rows) ((Go.IntKind.i64.wrap (v5 - 1)).toNat))).length then
 X v0 v1 v2 v3 v4 (Go.IntKind.i64.wrap (v5 - 1)) [.sl ((((at_ v6 0).rows).set v5.toNat (rowsAt ((at_ v6 0).rows) ((Go.IntKind.i64.wrap (v5 - 1)).toNat))).set ((Go.IntKind.i64.wrap (v5 - 1)).toNat) (rowsAt ((at_ v6 0).rows) v5.toNat)), .int ((((at_ v6 1).toI).toNat:Nat):Int)]
 else none
 else none
 else none
 else none
 else none
 else none
 else none
 else none
 else none
 else none
 else none
 else none
 else
 some (0,[.r [.int v0], .r [.int v1], .r [v2], .r [.int v3], .r [.int v4], .r [at_ v6 0, .int ((((at_ v6 1).toI).toNat:Nat):Int)]])
def slices_partialInsertionSortCmpFunc_2_api_Value_i14_h3:Shape:={slots:=[(0, .hol 0),(1, .d lI),(2, .d lI),(3, .d (.one (.fn 64))),(9, .d lI),(10, .d lI),(12, .d lI)],objs:=[.hol lA0 (.agg [])],m:=1}
def slices_partialInsertionSortCmpFunc_2_api_Value_i14_o3:List (Exit'×Shape):=[(.exit 6,{slots:=[(0, .hol 0),(1, .d lI),(2, .d lI),(3, .d (.one (.fn 64))),(9, .d lI),(10, .d lI)],objs:=[.hol lA0 (.agg [])],m:=1})]
def slices_partialInsertionSortCmpFunc_2_api_Value_i14_c3:ACode:=(.seq (.seq (.region [] [oq 107 (.mov (.t 12)),
 oq 108 (.mov (.t 2)),
 oq 109 (.icmp .lss (.t 107) (.t 108))] false 0)
 (.cond (.t 109) .skip
 (.exit 6)))
 (.seq (.block 7 (.seq (.seq (.region [] [oq 112 (.mov (.t 3)),
 oq 113 (.mov (.t 0)),
 oq 114 (.mov (.t 12)),
 ⟨some 115, .iad 40 lA0 (.t 113) (.t 114),none,[1,2]⟩,
 ⟨some 116, .ldH false lA0 (.t 115),none,[1,2,3]⟩,
 oq 117 (.mov (.t 0)),
 oq 118 (.mov (.t 12)),
 ⟨some 119, .ibin .sub (.t 118) (.c lI [.int 1]),none,[6]⟩,
 ⟨some 120, .iad 40 lA0 (.t 117) (.t 119),none,[5,6,7]⟩,
 ⟨some 121, .ldH false lA0 (.t 120),none,[5,6,7,8]⟩,
 ⟨some 122, .callv 64 [lA0,lA0] [lI] (.t 112) [(.t 116),(.t 121)],none,[0,1,2,3,4,5,6,7,8,9]⟩,
 ⟨some 123, .icmp .lss (.t 122) (.c lI [.int 0]),none,[0,1,2,3,4,5,6,7,8,9,10]⟩,
 ⟨some 124, .not (.t 123),none,[0,1,2,3,4,5,6,7,8,9,10,11]⟩] true 0)
 (.cond (.t 124) (.exit 6)
 .skip))
 (.region [] [oq 125 (.mov (.t 0)),
 oq 126 (.mov (.t 12)),
 oq 127 (.mov (.t 0)),
 oq 128 (.mov (.t 12)),
 ⟨some 129, .ibin .sub (.t 128) (.c lI [.int 1]),none,[3]⟩,
 oq 130 (.mov (.t 0)),
 oq 131 (.mov (.t 12)),
 ⟨some 132, .ibin .sub (.t 131) (.c lI [.int 1]),none,[6]⟩,
 ⟨some 133, .iad 40 lA0 (.t 130) (.t 132),none,[5,6,7]⟩,
 ⟨some 134, .ldH false lA0 (.t 133),none,[5,6,7,8]⟩,
 oq 135 (.mov (.t 0)),
 oq 136 (.mov (.t 12)),
 ⟨some 137, .iad 40 lA0 (.t 135) (.t 136),none,[10,11]⟩,
 ⟨some 138, .ldH false lA0 (.t 137),none,[10,11,12]⟩,
 ⟨some 139, .iad 40 lA0 (.t 125) (.t 126),none,[0,1,5,6,7,8,9,10,11,12,13]⟩,
 ⟨none, .stF lA0 (.t 139) (.t 134),none,[0,1,5,6,7,8,9,10,11,12,13,14]⟩,
 ⟨some 140, .iad 40 lA0 (.t 127) (.t 129),none,[0,1,2,3,4,5,6,7,8,9,10,11,12,13,14,15]⟩,
 ⟨none, .stF lA0 (.t 140) (.t 138),none,[0,1,2,3,4,5,6,7,8,9,10,11,12,13,14,15,16]⟩] true 0)))
 (.region [] [oq 110 (.mov (.t 12)),
 oq 111 (.ibin .add (.t 110) (.c lI [.int 1])),
 oq 12 (.mov (.t 111))] false 0)))
noncomputable def slices_partialInsertionSortCmpFunc_2_api_Value_i14_l3 (E:Env) (v0:Int) (v1:Int) (v2:C) (v3:Int) (v4:Int) (v5:Int) (v6:Row):Option (Nat×List PV):=E.fix (stepOf E slices_partialInsertionSortCmpFunc_2_api_Value_i14_c3 slices_partialInsertionSortCmpFunc_2_api_Value_i14_h3 slices_partialInsertionSortCmpFunc_2_api_Value_i14_o3) [.r [.int v0], .r [.int v1], .r [v2], .r [.int v3], .r [.int v4], .r [.int v5], .r v6]
noncomputable def slices_partialInsertionSortCmpFunc_2_api_Value_i14_b3 (E:Env) (X:Int→Int→C→Int→Int→Int→Row→Option (Nat×List PV)) (v0:Int) (v1:Int) (v2:C) (v3:Int) (v4:Int) (v5:Int) (v6:Row):Option (Nat×List PV):=
 if (decide (v5<v1))=true then
 if (0:Int)≤v5∧v5<(((at_ v6 0).rows).length:Int)then
 if v5.toNat<((at_ v6 0).rows).length∧v5.toNat≠(((at_ v6 1).toI).toNat)then
 if (0:Int)≤(Go.IntKind.i64.wrap (v5 - 1))∧(Go.IntKind.i64.wrap (v5 - 1))<(((at_ v6 0).rows).length:Int)then
 if ((Go.IntKind.i64.wrap (v5 - 1)).toNat)<((at_ v6 0).rows).length∧((Go.IntKind.i64.wrap (v5 - 1)).toNat)≠(((at_ v6 1).toI).toNat)then
 (callC E v2 [rowsAt ((at_ v6 0).rows) v5.toNat,rowsAt ((at_ v6 0).rows) ((Go.IntKind.i64.wrap (v5 - 1)).toNat)]).bind fun y8=>
 if (!(decide (((at_ (rowsAt y8 0) 0).toI)<0)))=true then
 some (0,[.r [.int v0], .r [.int v1], .r [v2], .r [.int v3], .r [.int v4], .r [at_ v6 0, .int ((((at_ v6 1).toI).toNat:Nat):Int)]])
 else
 if (0:Int)≤(Go.IntKind.i64.wrap (v5 - 1))∧(Go.IntKind.i64.wrap (v5 - 1))<(((at_ v6 0).rows).length:Int)then
 if ((Go.IntKind.i64.wrap (v5 - 1)).toNat)<((at_ v6 0).rows).length∧((Go.IntKind.i64.wrap (v5 - 1)).toNat)≠(((at_ v6 1).toI).toNat)then
 if (0:Int)≤v5∧v5<(((at_ v6 0).rows).length:Int)then
 if v5.toNat<((at_ v6 0).rows).length∧v5.toNat≠(((at_ v6 1).toI).toNat)then
 if (0:Int)≤v5∧v5<(((at_ v6 0).rows).length:Int)then
 if ((at_ v6 0).rows).length≤(((at_ v6 1).toI).toNat)∧v5.toNat<((at_ v6 0).rows).length then
 if (0:Int)≤(Go.IntKind.i64.wrap (v5 - 1))∧(Go.IntKind.i64.wrap (v5 - 1))<((((at_ v6 0).rows).set v5.toNat (rowsAt ((at_ v6 0).rows) ((Go.IntKind.i64.wrap (v5 - 1)).toNat))).length:Int)then
 if (((at_ v6 0).rows).set v5.toNat (rowsAt ((at_ v6 0).rows) ((Go.IntKind.i64.wrap (v5 - 1)).toNat))).length≤(((at_ v6 1).toI).toNat)∧((Go.IntKind.i64.wrap (v5 - 1)).toNat)<(((at_ v6 0).rows).set v5.toNat (rowsAt ((at_ v6 0).rows) ((Go.IntKind.i64.wrap (v5 - 1)).toNat))).length then
 X v0 v1 v2 v3 v4 (Go.IntKind.i64.wrap (v5+1)) [.sl ((((at_ v6 0).rows).set v5.toNat (rowsAt ((at_ v6 0).rows) ((Go.IntKind.i64.wrap (v5 - 1)).toNat))).set ((Go.IntKind.i64.wrap (v5 - 1)).toNat) (rowsAt ((at_ v6 0).rows) v5.toNat)), .int ((((at_ v6 1).toI).toNat:Nat):Int)]
 else none
 else none
 else none
 else none
 else none
 else none
 else none
 else none
 else none
 else none
 else none
 else none
 else
 some (0,[.r [.int v0], .r [.int v1], .r [v2], .r [.int v3], .r [.int v4], .r [at_ v6 0, .int ((((at_ v6 1).toI).toNat:Nat):Int)]])
def slices_partialInsertionSortCmpFunc_2_api_Value_i14_h0:Shape:={slots:=[(0, .hol 0),(1, .d lI),(2, .d lI),(3, .d (.one (.fn 64))),(9, .d lI),(10, .d lI)],objs:=[.hol lA0 (.agg [])],m:=1}
def slices_partialInsertionSortCmpFunc_2_api_Value_i14_o0:List (Exit'×Shape):=[(.exit 0,{slots:=[],objs:=[.hol lA0 (.agg [])],m:=1}),(.ret,{slots:=[(8, .d lB)],objs:=[.hol lA0 (.agg [])],m:=1})]
def slices_partialInsertionSortCmpFunc_2_api_Value_i14_c0:ACode:=(.seq (.seq (.region [] [oq 15 (.mov (.t 10)),
 oq 16 (.icmp .lss (.t 15) (.c lI [.int 5]))] false 0)
 (.cond (.t 16) .skip
 (.exit 0)))
 (.seq (.join [(.normal,{slots:=[(0, .hol 0),(1, .d lI),(2, .d lI),(3, .d (.one (.fn 64))),(9, .d lI),(10, .d lI)],objs:=[.hol lA0 (.agg [])],m:=1}),(.ret,{slots:=[(8, .d lB)],objs:=[.hol lA0 (.agg [])],m:=1})] (.block 1 (.seq (.block 2 (.loop slices_partialInsertionSortCmpFunc_2_api_Value_i14_h1 slices_partialInsertionSortCmpFunc_2_api_Value_i14_o1 slices_partialInsertionSortCmpFunc_2_api_Value_i14_c1))
 (.seq (.seq (.region [] [oq 39 (.mov (.t 9)),
 oq 40 (.mov (.t 2)),
 oq 41 (.icmp .eql (.t 39) (.t 40))] false 0)
 (.cond (.t 41) (.seq (.region [] [oq 8 (.mov (.c lB [.bool true]))] false 0)
 .ret)
 .skip))
 (.seq (.seq (.region [] [oq 42 (.mov (.t 2)),
 oq 43 (.mov (.t 1)),
 oq 44 (.ibin .sub (.t 42) (.t 43)),
 oq 45 (.icmp .lss (.t 44) (.c lI [.int 50]))] false 0)
 (.cond (.t 45) (.seq (.region [] [oq 8 (.mov (.c lB [.bool false]))] false 0)
 .ret)
 .skip))
 (.seq (.region [] [oq 46 (.mov (.t 0)),
 oq 47 (.mov (.t 9)),
 oq 48 (.mov (.t 0)),
 oq 49 (.mov (.t 9)),
 ⟨some 50, .ibin .sub (.t 49) (.c lI [.int 1]),none,[3]⟩,
 oq 51 (.mov (.t 0)),
 oq 52 (.mov (.t 9)),
 ⟨some 53, .ibin .sub (.t 52) (.c lI [.int 1]),none,[6]⟩,
 ⟨some 54, .iad 40 lA0 (.t 51) (.t 53),none,[5,6,7]⟩,
 ⟨some 55, .ldH false lA0 (.t 54),none,[5,6,7,8]⟩,
 oq 56 (.mov (.t 0)),
 oq 57 (.mov (.t 9)),
 ⟨some 58, .iad 40 lA0 (.t 56) (.t 57),none,[10,11]⟩,
 ⟨some 59, .ldH false lA0 (.t 58),none,[10,11,12]⟩,
 ⟨some 60, .iad 40 lA0 (.t 46) (.t 47),none,[0,1,5,6,7,8,9,10,11,12,13]⟩,
 ⟨none, .stF lA0 (.t 60) (.t 55),none,[0,1,5,6,7,8,9,10,11,12,13,14]⟩,
 ⟨some 61, .iad 40 lA0 (.t 48) (.t 50),none,[0,1,2,3,4,5,6,7,8,9,10,11,12,13,14,15]⟩,
 ⟨none, .stF lA0 (.t 61) (.t 59),none,[0,1,2,3,4,5,6,7,8,9,10,11,12,13,14,15,16]⟩] true 0)
 (.seq (.seq (.region [] [oq 62 (.mov (.t 9)),
 oq 63 (.mov (.t 1)),
 oq 64 (.ibin .sub (.t 62) (.t 63)),
 oq 65 (.icmp .geq (.t 64) (.c lI [.int 2]))] false 0)
 (.join [(.normal,{slots:=[(0, .hol 0),(1, .d lI),(2, .d lI),(3, .d (.one (.fn 64))),(9, .d lI),(10, .d lI)],objs:=[.hol lA0 (.agg [])],m:=1})] (.cond (.t 65) (.seq (.region [] [oq 66 (.mov (.t 9)),
 oq 67 (.ibin .sub (.t 66) (.c lI [.int 1])),
 oq 11 (.mov (.t 67))] false 0)
 (.block 4 (.loop slices_partialInsertionSortCmpFunc_2_api_Value_i14_h2 slices_partialInsertionSortCmpFunc_2_api_Value_i14_o2 slices_partialInsertionSortCmpFunc_2_api_Value_i14_c2)))
 .skip)))
 (.seq (.region [] [oq 101 (.mov (.t 2)),
 oq 102 (.mov (.t 9)),
 oq 103 (.ibin .sub (.t 101) (.t 102)),
 oq 104 (.icmp .geq (.t 103) (.c lI [.int 2]))] false 0)
 (.cond (.t 104) (.seq (.region [] [oq 105 (.mov (.t 9)),
 oq 106 (.ibin .add (.t 105) (.c lI [.int 1])),
 oq 12 (.mov (.t 106))] false 0)
 (.block 6 (.loop slices_partialInsertionSortCmpFunc_2_api_Value_i14_h3 slices_partialInsertionSortCmpFunc_2_api_Value_i14_o3 slices_partialInsertionSortCmpFunc_2_api_Value_i14_c3)))
 .skip)))))))))
 (.region [] [oq 17 (.mov (.t 10)),
 oq 18 (.ibin .add (.t 17) (.c lI [.int 1])),
 oq 10 (.mov (.t 18))] false 0)))
noncomputable def slices_partialInsertionSortCmpFunc_2_api_Value_i14_l0 (E:Env) (v0:Int) (v1:Int) (v2:C) (v3:Int) (v4:Int) (v5:Row):Option (Nat×List PV):=E.fix (stepOf E slices_partialInsertionSortCmpFunc_2_api_Value_i14_c0 slices_partialInsertionSortCmpFunc_2_api_Value_i14_h0 slices_partialInsertionSortCmpFunc_2_api_Value_i14_o0) [.r [.int v0], .r [.int v1], .r [v2], .r [.int v3], .r [.int v4], .r v5]
noncomputable def slices_partialInsertionSortCmpFunc_2_api_Value_i14_b0 (E:Env) (X:Int→Int→C→Int→Int→Row→Option (Nat×List PV)) (v0:Int) (v1:Int) (v2:C) (v3:Int) (v4:Int) (v5:Row):Option (Nat×List PV):=
 if (decide (v4<5))=true then
 ((slices_partialInsertionSortCmpFunc_2_api_Value_i14_l1 E v0 v1 v2 v3 v4 [at_ v5 0, .int ((((at_ v5 1).toI).toNat:Nat):Int)]).bind fun x4=>
 if ((gI 3 x4.2)==(gI 1 x4.2))=true then
 some (1,[.r [.bool true], .r [gC 5 x4.2, .int ((((at_ (gR 5 x4.2) 1).toI).toNat:Nat):Int)]])
 else
 if (decide ((Go.IntKind.i64.wrap ((gI 1 x4.2) - (gI 0 x4.2)))<50))=true then
 some (1,[.r [.bool false], .r [gC 5 x4.2, .int ((((at_ (gR 5 x4.2) 1).toI).toNat:Nat):Int)]])
 else
 if (0:Int)≤(Go.IntKind.i64.wrap ((gI 3 x4.2) - 1))∧(Go.IntKind.i64.wrap ((gI 3 x4.2) - 1))<(((gC 5 x4.2).rows).length:Int)then
 if ((Go.IntKind.i64.wrap ((gI 3 x4.2) - 1)).toNat)<((gC 5 x4.2).rows).length∧((Go.IntKind.i64.wrap ((gI 3 x4.2) - 1)).toNat)≠(((at_ (gR 5 x4.2) 1).toI).toNat)then
 if (0:Int)≤(gI 3 x4.2)∧(gI 3 x4.2)<(((gC 5 x4.2).rows).length:Int)then
 if ((gI 3 x4.2).toNat)<((gC 5 x4.2).rows).length∧((gI 3 x4.2).toNat)≠(((at_ (gR 5 x4.2) 1).toI).toNat)then
 if (0:Int)≤(gI 3 x4.2)∧(gI 3 x4.2)<(((gC 5 x4.2).rows).length:Int)then
 if ((gC 5 x4.2).rows).length≤(((at_ (gR 5 x4.2) 1).toI).toNat)∧((gI 3 x4.2).toNat)<((gC 5 x4.2).rows).length then
 if (0:Int)≤(Go.IntKind.i64.wrap ((gI 3 x4.2) - 1))∧(Go.IntKind.i64.wrap ((gI 3 x4.2) - 1))<((((gC 5 x4.2).rows).set ((gI 3 x4.2).toNat) (rowsAt ((gC 5 x4.2).rows) ((Go.IntKind.i64.wrap ((gI 3 x4.2) - 1)).toNat))).length:Int)then
 if (((gC 5 x4.2).rows).set ((gI 3 x4.2).toNat) (rowsAt ((gC 5 x4.2).rows) ((Go.IntKind.i64.wrap ((gI 3 x4.2) - 1)).toNat))).length≤(((at_ (gR 5 x4.2) 1).toI).toNat)∧((Go.IntKind.i64.wrap ((gI 3 x4.2) - 1)).toNat)<(((gC 5 x4.2).rows).set ((gI 3 x4.2).toNat) (rowsAt ((gC 5 x4.2).rows) ((Go.IntKind.i64.wrap ((gI 3 x4.2) - 1)).toNat))).length then
 (if (decide ((Go.IntKind.i64.wrap ((gI 3 x4.2) - (gI 0 x4.2)))≥2))=true then
 (slices_partialInsertionSortCmpFunc_2_api_Value_i14_l2 E (gI 0 x4.2) (gI 1 x4.2) (gC 2 x4.2) (gI 3 x4.2) (gI 4 x4.2) (Go.IntKind.i64.wrap ((gI 3 x4.2) - 1)) [.sl ((((gC 5 x4.2).rows).set ((gI 3 x4.2).toNat) (rowsAt ((gC 5 x4.2).rows) ((Go.IntKind.i64.wrap ((gI 3 x4.2) - 1)).toNat))).set ((Go.IntKind.i64.wrap ((gI 3 x4.2) - 1)).toNat) (rowsAt ((gC 5 x4.2).rows) ((gI 3 x4.2).toNat))), .int ((((at_ (gR 5 x4.2) 1).toI).toNat:Nat):Int)]).bind fun x6=>
 some (0,[.r [.int (gI 0 x6.2)], .r [.int (gI 1 x6.2)], .r [gC 2 x6.2], .r [.int (gI 3 x6.2)], .r [.int (gI 4 x6.2)], .r [gC 5 x6.2, .int ((((at_ (gR 5 x6.2) 1).toI).toNat:Nat):Int)]])
 else
 some (0,[.r [.int (gI 0 x4.2)], .r [.int (gI 1 x4.2)], .r [gC 2 x4.2], .r [.int (gI 3 x4.2)], .r [.int (gI 4 x4.2)], .r [.sl ((((gC 5 x4.2).rows).set ((gI 3 x4.2).toNat) (rowsAt ((gC 5 x4.2).rows) ((Go.IntKind.i64.wrap ((gI 3 x4.2) - 1)).toNat))).set ((Go.IntKind.i64.wrap ((gI 3 x4.2) - 1)).toNat) (rowsAt ((gC 5 x4.2).rows) ((gI 3 x4.2).toNat))), .int ((((at_ (gR 5 x4.2) 1).toI).toNat:Nat):Int)]])).bind fun x7=>
 if (decide ((Go.IntKind.i64.wrap ((gI 1 x7.2) - (gI 3 x7.2)))≥2))=true then
 (slices_partialInsertionSortCmpFunc_2_api_Value_i14_l3 E (gI 0 x7.2) (gI 1 x7.2) (gC 2 x7.2) (gI 3 x7.2) (gI 4 x7.2) (Go.IntKind.i64.wrap ((gI 3 x7.2)+1)) [gC 5 x7.2, .int ((((at_ (gR 5 x7.2) 1).toI).toNat:Nat):Int)]).bind fun x9=>
 some (0,[.r [.int (gI 0 x9.2)], .r [.int (gI 1 x9.2)], .r [gC 2 x9.2], .r [.int (gI 3 x9.2)], .r [.int (gI 4 x9.2)], .r [gC 5 x9.2, .int ((((at_ (gR 5 x9.2) 1).toI).toNat:Nat):Int)]])
 else
 some (0,[.r [.int (gI 0 x7.2)], .r [.int (gI 1 x7.2)], .r [gC 2 x7.2], .r [.int (gI 3 x7.2)], .r [.int (gI 4 x7.2)], .r [gC 5 x7.2, .int ((((at_ (gR 5 x7.2) 1).toI).toNat:Nat):Int)]])
 else none
 else none
 else none
 else none
 else none
 else none
 else none
 else none).bind fun x10=>
 match x10.1 with
 |0=>
 X (gI 0 x10.2) (gI 1 x10.2) (gC 2 x10.2) (gI 3 x10.2) (Go.IntKind.i64.wrap ((gI 4 x10.2)+1)) [gC 5 x10.2, .int ((((at_ (gR 5 x10.2) 1).toI).toNat:Nat):Int)]
 |i11+1=>
 some (1,[.r [.bool (gB 0 x10.2)], .r [gC 1 x10.2, .int ((((at_ (gR 1 x10.2) 1).toI).toNat:Nat):Int)]])
 else
 some (0,[.r [at_ v5 0, .int ((((at_ v5 1).toI).toNat:Nat):Int)]])
theorem slices_partialInsertionSortCmpFunc_2_api_Value_i14_s0 (E:Env) (X:List PV→Option (Nat×List PV)) (v0:Int) (v1:Int) (v2:C) (v3:Int) (v4:Int) (v5:Row):stepOf E slices_partialInsertionSortCmpFunc_2_api_Value_i14_c0 slices_partialInsertionSortCmpFunc_2_api_Value_i14_h0 slices_partialInsertionSortCmpFunc_2_api_Value_i14_o0 X [.r [.int v0], .r [.int v1], .r [v2], .r [.int v3], .r [.int v4], .r v5]=slices_partialInsertionSortCmpFunc_2_api_Value_i14_b0 E (fun (v0:Int) (v1:Int) (v2:C) (v3:Int) (v4:Int) (v5:Row)=>X [.r [.int v0], .r [.int v1], .r [v2], .r [.int v3], .r [.int v4], .r v5]) v0 v1 v2 v3 v4 v5:=by kernel_rfl
def slices_partialInsertionSortCmpFunc_2_api_Value_i14_a:AImp:={fn:=63,entry:=slices_partialInsertionSortCmpFunc_2_api_Value_i14_en,res:=[.tmp 8],exit:=slices_partialInsertionSortCmpFunc_2_api_Value_i14_ex,body:=(.seq (.region [] [oq 8 (.mov (.c lB [.bool false]))] false 0)
 (.seq (.region [] [oq 13 (.mov (.t 1)),
 oq 14 (.ibin .add (.t 13) (.c lI [.int 1])),
 oq 9 (.mov (.t 14))] false 0)
 (.seq (.seq (.region [] [oq 10 (.mov (.c lI [.int 0]))] false 0)
 (.block 0 (.loop slices_partialInsertionSortCmpFunc_2_api_Value_i14_h0 slices_partialInsertionSortCmpFunc_2_api_Value_i14_o0 slices_partialInsertionSortCmpFunc_2_api_Value_i14_c0)))
 (.seq (.region [] [oq 8 (.mov (.c lB [.bool false]))] false 0)
 .ret))))}
noncomputable def slices_partialInsertionSortCmpFunc_2_api_Value_i14 (E:Env) (p0:Int) (p1:Int) (p2:C) (p3:Row):Option (List PV):=
 (slices_partialInsertionSortCmpFunc_2_api_Value_i14_l0 E p0 p1 p2 (Go.IntKind.i64.wrap (p0+1)) 0 [at_ p3 0, .int ((((at_ p3 1).toI).toNat:Nat):Int)]).bind fun x12=>
 match x12.1 with
 |0=>
 some [.r [.bool false], .r [gC 0 x12.2, .int ((((at_ (gR 0 x12.2) 1).toI).toNat:Nat):Int)]]
 |i13+1=>
 some [.r [.bool (gB 0 x12.2)], .r [gC 1 x12.2, .int ((((at_ (gR 1 x12.2) 1).toI).toNat:Nat):Int)]]
theorem slices_partialInsertionSortCmpFunc_2_api_Value_i14_eq (E:Env) (p0:Int) (p1:Int) (p2:C) (p3:Row):runI E slices_partialInsertionSortCmpFunc_2_api_Value_i14_a [.r [.int p0], .r [.int p1], .r [p2], .r p3]=slices_partialInsertionSortCmpFunc_2_api_Value_i14 E p0 p1 p2 p3:=by kernel_rfl
def slices_partitionEqualCmpFunc_2_api_Value_i15_h1:Shape:={slots:=[(0, .hol 0),(1, .d lI),(4, .d (.one (.fn 64))),(11, .d lI),(12, .d lI)],objs:=[.hol lA0 (.agg [])],m:=1}
def slices_partitionEqualCmpFunc_2_api_Value_i15_o1:List (Exit'×Shape):=[(.exit 2,{slots:=[(0, .hol 0),(1, .d lI),(4, .d (.one (.fn 64))),(11, .d lI),(12, .d lI)],objs:=[.hol lA0 (.agg [])],m:=1})]
def slices_partitionEqualCmpFunc_2_api_Value_i15_c1:ACode:=(.seq (.seq (.region [] [oq 31 (.mov (.t 11)),
 oq 32 (.mov (.t 12)),
 ⟨some 33, .icmp .leq (.t 31) (.t 32),none,[0,1]⟩,
 ⟨some 34, .mov (.t 33),none,[0,1,2]⟩,
 ⟨some 35, .mov (.t 4),some (34,true),[0,1,2,3]⟩,
 ⟨some 36, .mov (.t 0),some (34,true),[0,1,2,3]⟩,
 ⟨some 37, .mov (.t 1),some (34,true),[0,1,2,3]⟩,
 ⟨some 38, .iad 40 lA0 (.t 36) (.t 37),some (34,true),[0,1,2,3,5,6]⟩,
 ⟨some 39, .ldH false lA0 (.t 38),some (34,true),[0,1,2,3,5,6,7]⟩,
 ⟨some 40, .mov (.t 0),some (34,true),[0,1,2,3]⟩,
 ⟨some 41, .mov (.t 11),some (34,true),[0,1,2,3]⟩,
 ⟨some 42, .iad 40 lA0 (.t 40) (.t 41),some (34,true),[0,1,2,3,9,10]⟩,
 ⟨some 43, .ldH false lA0 (.t 42),some (34,true),[0,1,2,3,9,10,11]⟩,
 ⟨some 44, .callv 64 [lA0,lA0] [lI] (.t 35) [(.t 39),(.t 43)],some (34,true),[0,1,2,3,4,5,6,7,8,9,10,11,12]⟩,
 ⟨some 45, .icmp .lss (.t 44) (.c lI [.int 0]),some (34,true),[0,1,2,3,4,5,6,7,8,9,10,11,12,13]⟩,
 ⟨some 46, .not (.t 45),some (34,true),[0,1,2,3,4,5,6,7,8,9,10,11,12,13,14]⟩,
 ⟨some 47, .pick (.t 34) (.t 46) (.c lB [.bool false]),none,[0,1,2,3,4,5,6,7,8,9,10,11,12,13,14,15]⟩] true 0)
 (.cond (.t 47) .skip
 (.exit 2)))
 (.block 3 (.region [] [oq 48 (.mov (.t 11)),
 oq 49 (.ibin .add (.t 48) (.c lI [.int 1])),
 oq 11 (.mov (.t 49))] false 0)))
noncomputable def slices_partitionEqualCmpFunc_2_api_Value_i15_l1 (E:Env) (v0:Int) (v1:C) (v2:Int) (v3:Int) (v4:Row):Option (Nat×List PV):=E.fix (stepOf E slices_partitionEqualCmpFunc_2_api_Value_i15_c1 slices_partitionEqualCmpFunc_2_api_Value_i15_h1 slices_partitionEqualCmpFunc_2_api_Value_i15_o1) [.r [.int v0], .r [v1], .r [.int v2], .r [.int v3], .r v4]
noncomputable def slices_partitionEqualCmpFunc_2_api_Value_i15_b1 (E:Env) (X:Int→C→Int→Int→Row→Option (Nat×List PV)) (v0:Int) (v1:C) (v2:Int) (v3:Int) (v4:Row):Option (Nat×List PV):=
 let K1:Bool→Option (Nat×List PV):=fun q2=>
 if q2=true then
 X v0 v1 (Go.IntKind.i64.wrap (v2+1)) v3 [at_ v4 0, .int ((((at_ v4 1).toI).toNat:Nat):Int)]
 else
 some (0,[.r [.int v0], .r [v1], .r [.int v2], .r [.int v3], .r [at_ v4 0, .int ((((at_ v4 1).toI).toNat:Nat):Int)]])
 if (decide (v2≤v3))=true then
 if (0:Int)≤v0∧v0<(((at_ v4 0).rows).length:Int)then
 if v0.toNat<((at_ v4 0).rows).length∧v0.toNat≠(((at_ v4 1).toI).toNat)then
 if (0:Int)≤v2∧v2<(((at_ v4 0).rows).length:Int)then
 if v2.toNat<((at_ v4 0).rows).length∧v2.toNat≠(((at_ v4 1).toI).toNat)then
 (callC E v1 [rowsAt ((at_ v4 0).rows) v0.toNat,rowsAt ((at_ v4 0).rows) v2.toNat]).bind fun y3=>
 K1 (!(decide (((at_ (rowsAt y3 0) 0).toI)<0)))
 else none
 else none
 else none
 else none
 else
 K1 false
theorem slices_partitionEqualCmpFunc_2_api_Value_i15_s1 (E:Env) (X:List PV→Option (Nat×List PV)) (v0:Int) (v1:C) (v2:Int) (v3:Int) (v4:Row):stepOf E slices_partitionEqualCmpFunc_2_api_Value_i15_c1 slices_partitionEqualCmpFunc_2_api_Value_i15_h1 slices_partitionEqualCmpFunc_2_api_Value_i15_o1 X [.r [.int v0], .r [v1], .r [.int v2], .r [.int v3], .r v4]=slices_partitionEqualCmpFunc_2_api_Value_i15_b1 E (fun (v0:Int) (v1:C) (v2:Int) (v3:Int) (v4:Row)=>X [.r [.int v0], .r [v1], .r [.int v2], .r [.int v3], .r v4]) v0 v1 v2 v3 v4:=by kernel_rfl
def slices_partitionEqualCmpFunc_2_api_Value_i15_h2:Shape:={slots:=[(0, .hol 0),(1, .d lI),(4, .d (.one (.fn 64))),(11, .d lI),(12, .d lI)],objs:=[.hol lA0 (.agg [])],m:=1}
def slices_partitionEqualCmpFunc_2_api_Value_i15_o2:List (Exit'×Shape):=[(.exit 4,{slots:=[(0, .hol 0),(1, .d lI),(4, .d (.one (.fn 64))),(11, .d lI),(12, .d lI)],objs:=[.hol lA0 (.agg [])],m:=1})]
def slices_partitionEqualCmpFunc_2_api_Value_i15_c2:ACode:=(.seq (.seq (.region [] [oq 50 (.mov (.t 11)),
 oq 51 (.mov (.t 12)),
 ⟨some 52, .icmp .leq (.t 50) (.t 51),none,[0,1]⟩,
 ⟨some 53, .mov (.t 52),none,[0,1,2]⟩,
 ⟨some 54, .mov (.t 4),some (53,true),[0,1,2,3]⟩,
 ⟨some 55, .mov (.t 0),some (53,true),[0,1,2,3]⟩,
 ⟨some 56, .mov (.t 1),some (53,true),[0,1,2,3]⟩,
 ⟨some 57, .iad 40 lA0 (.t 55) (.t 56),some (53,true),[0,1,2,3,5,6]⟩,
 ⟨some 58, .ldH false lA0 (.t 57),some (53,true),[0,1,2,3,5,6,7]⟩,
 ⟨some 59, .mov (.t 0),some (53,true),[0,1,2,3]⟩,
 ⟨some 60, .mov (.t 12),some (53,true),[0,1,2,3]⟩,
 ⟨some 61, .iad 40 lA0 (.t 59) (.t 60),some (53,true),[0,1,2,3,9,10]⟩,
 ⟨some 62, .ldH false lA0 (.t 61),some (53,true),[0,1,2,3,9,10,11]⟩,
 ⟨some 63, .callv 64 [lA0,lA0] [lI] (.t 54) [(.t 58),(.t 62)],some (53,true),[0,1,2,3,4,5,6,7,8,9,10,11,12]⟩,
 ⟨some 64, .icmp .lss (.t 63) (.c lI [.int 0]),some (53,true),[0,1,2,3,4,5,6,7,8,9,10,11,12,13]⟩,
 ⟨some 65, .pick (.t 53) (.t 64) (.c lB [.bool false]),none,[0,1,2,3,4,5,6,7,8,9,10,11,12,13,14]⟩] true 0)
 (.cond (.t 65) .skip
 (.exit 4)))
 (.block 5 (.region [] [oq 66 (.mov (.t 12)),
 oq 67 (.ibin .sub (.t 66) (.c lI [.int 1])),
 oq 12 (.mov (.t 67))] false 0)))
noncomputable def slices_partitionEqualCmpFunc_2_api_Value_i15_l2 (E:Env) (v0:Int) (v1:C) (v2:Int) (v3:Int) (v4:Row):Option (Nat×List PV):=E.fix (stepOf E slices_partitionEqualCmpFunc_2_api_Value_i15_c2 slices_partitionEqualCmpFunc_2_api_Value_i15_h2 slices_partitionEqualCmpFunc_2_api_Value_i15_o2) [.r [.int v0], .r [v1], .r [.int v2], .r [.int v3], .r v4]
noncomputable def slices_partitionEqualCmpFunc_2_api_Value_i15_b2 (E:Env) (X:Int→C→Int→Int→Row→Option (Nat×List PV)) (v0:Int) (v1:C) (v2:Int) (v3:Int) (v4:Row):Option (Nat×List PV):=
 let K5:Bool→Option (Nat×List PV):=fun q6=>
 if q6=true then
 X v0 v1 v2 (Go.IntKind.i64.wrap (v3 - 1)) [at_ v4 0, .int ((((at_ v4 1).toI).toNat:Nat):Int)]
 else
 some (0,[.r [.int v0], .r [v1], .r [.int v2], .r [.int v3], .r [at_ v4 0, .int ((((at_ v4 1).toI).toNat:Nat):Int)]])
 if (decide (v2≤v3))=true then
 if (0:Int)≤v0∧v0<(((at_ v4 0).rows).length:Int)then
 if v0.toNat<((at_ v4 0).rows).length∧v0.toNat≠(((at_ v4 1).toI).toNat)then
 if (0:Int)≤v3∧v3<(((at_ v4 0).rows).length:Int)then
 if v3.toNat<((at_ v4 0).rows).length∧v3.toNat≠(((at_ v4 1).toI).toNat)then
 (callC E v1 [rowsAt ((at_ v4 0).rows) v0.toNat,rowsAt ((at_ v4 0).rows) v3.toNat]).bind fun y7=>
 K5 (decide (((at_ (rowsAt y7 0) 0).toI)<0))
 else none
 else none
 else none
 else none
 else
 K5 false
theorem slices_partitionEqualCmpFunc_2_api_Value_i15_s2 (E:Env) (X:List PV→Option (Nat×List PV)) (v0:Int) (v1:C) (v2:Int) (v3:Int) (v4:Row):stepOf E slices_partitionEqualCmpFunc_2_api_Value_i15_c2 slices_partitionEqualCmpFunc_2_api_Value_i15_h2 slices_partitionEqualCmpFunc_2_api_Value_i15_o2 X [.r [.int v0], .r [v1], .r [.int v2], .r [.int v3], .r v4]=slices_partitionEqualCmpFunc_2_api_Value_i15_b2 E (fun (v0:Int) (v1:C) (v2:Int) (v3:Int) (v4:Row)=>X [.r [.int v0], .r [v1], .r [.int v2], .r [.int v3], .r v4]) v0 v1 v2 v3 v4:=by kernel_rfl
def slices_partitionEqualCmpFunc_2_api_Value_i15_h0:Shape:={slots:=[(0, .hol 0),(1, .d lI),(4, .d (.one (.fn 64))),(11, .d lI),(12, .d lI)],objs:=[.hol lA0 (.agg [])],m:=1}
def slices_partitionEqualCmpFunc_2_api_Value_i15_o0:List (Exit'×Shape):=[(.exit 0,{slots:=[(11, .d lI)],objs:=[.hol lA0 (.agg [])],m:=1})]
def slices_partitionEqualCmpFunc_2_api_Value_i15_c0:ACode:=(.block 1 (.seq (.block 2 (.loop slices_partitionEqualCmpFunc_2_api_Value_i15_h1 slices_partitionEqualCmpFunc_2_api_Value_i15_o1 slices_partitionEqualCmpFunc_2_api_Value_i15_c1))
 (.seq (.block 4 (.loop slices_partitionEqualCmpFunc_2_api_Value_i15_h2 slices_partitionEqualCmpFunc_2_api_Value_i15_o2 slices_partitionEqualCmpFunc_2_api_Value_i15_c2))
 (.seq (.seq (.region [] [oq 68 (.mov (.t 11)),
 oq 69 (.mov (.t 12)),
 oq 70 (.icmp .gtr (.t 68) (.t 69))] false 0)
 (.cond (.t 70) (.exit 0)
 .skip))
 (.seq (.region [] [oq 71 (.mov (.t 0)),
 oq 72 (.mov (.t 11)),
 oq 73 (.mov (.t 0)),
 oq 74 (.mov (.t 12)),
 oq 75 (.mov (.t 0)),
 oq 76 (.mov (.t 12)),
 ⟨some 77, .iad 40 lA0 (.t 75) (.t 76),none,[4,5]⟩,
 ⟨some 78, .ldH false lA0 (.t 77),none,[4,5,6]⟩,
 oq 79 (.mov (.t 0)),
 oq 80 (.mov (.t 11)),
 ⟨some 81, .iad 40 lA0 (.t 79) (.t 80),none,[8,9]⟩,
 ⟨some 82, .ldH false lA0 (.t 81),none,[8,9,10]⟩,
 ⟨some 83, .iad 40 lA0 (.t 71) (.t 72),none,[0,1,4,5,6,7,8,9,10,11]⟩,
 ⟨none, .stF lA0 (.t 83) (.t 78),none,[0,1,4,5,6,7,8,9,10,11,12]⟩,
 ⟨some 84, .iad 40 lA0 (.t 73) (.t 74),none,[0,1,2,3,4,5,6,7,8,9,10,11,12,13]⟩,
 ⟨none, .stF lA0 (.t 84) (.t 82),none,[0,1,2,3,4,5,6,7,8,9,10,11,12,13,14]⟩] true 0)
 (.seq (.region [] [oq 85 (.mov (.t 11)),
 oq 86 (.ibin .add (.t 85) (.c lI [.int 1])),
 oq 11 (.mov (.t 86))] false 0)
 (.region [] [oq 87 (.mov (.t 12)),
 oq 88 (.ibin .sub (.t 87) (.c lI [.int 1])),
 oq 12 (.mov (.t 88))] false 0)))))))
noncomputable def slices_partitionEqualCmpFunc_2_api_Value_i15_l0 (E:Env) (v0:Int) (v1:C) (v2:Int) (v3:Int) (v4:Row):Option (Nat×List PV):=E.fix (stepOf E slices_partitionEqualCmpFunc_2_api_Value_i15_c0 slices_partitionEqualCmpFunc_2_api_Value_i15_h0 slices_partitionEqualCmpFunc_2_api_Value_i15_o0) [.r [.int v0], .r [v1], .r [.int v2], .r [.int v3], .r v4]
noncomputable def slices_partitionEqualCmpFunc_2_api_Value_i15_b0 (E:Env) (X:Int→C→Int→Int→Row→Option (Nat×List PV)) (v0:Int) (v1:C) (v2:Int) (v3:Int) (v4:Row):Option (Nat×List PV):=
 (slices_partitionEqualCmpFunc_2_api_Value_i15_l1 E v0 v1 v2 v3 [at_ v4 0, .int ((((at_ v4 1).toI).toNat:Nat):Int)]).bind fun x4=>
 (slices_partitionEqualCmpFunc_2_api_Value_i15_l2 E (gI 0 x4.2) (gC 1 x4.2) (gI 2 x4.2) (gI 3 x4.2) [gC 4 x4.2, .int ((((at_ (gR 4 x4.2) 1).toI).toNat:Nat):Int)]).bind fun x8=>
 if (decide ((gI 2 x8.2)>(gI 3 x8.2)))=true then
 some (0,[.r [.int (gI 2 x8.2)], .r [gC 4 x8.2, .int ((((at_ (gR 4 x8.2) 1).toI).toNat:Nat):Int)]])
 else
 if (0:Int)≤(gI 3 x8.2)∧(gI 3 x8.2)<(((gC 4 x8.2).rows).length:Int)then
 if ((gI 3 x8.2).toNat)<((gC 4 x8.2).rows).length∧((gI 3 x8.2).toNat)≠(((at_ (gR 4 x8.2) 1).toI).toNat)then
 if (0:Int)≤(gI 2 x8.2)∧(gI 2 x8.2)<(((gC 4 x8.2).rows).length:Int)then
 if ((gI 2 x8.2).toNat)<((gC 4 x8.2).rows).length∧((gI 2 x8.2).toNat)≠(((at_ (gR 4 x8.2) 1).toI).toNat)then
 if (0:Int)≤(gI 2 x8.2)∧(gI 2 x8.2)<(((gC 4 x8.2).rows).length:Int)then
 if ((gC 4 x8.2).rows).length≤(((at_ (gR 4 x8.2) 1).toI).toNat)∧((gI 2 x8.2).toNat)<((gC 4 x8.2).rows).length then
 if (0:Int)≤(gI 3 x8.2)∧(gI 3 x8.2)<((((gC 4 x8.2).rows).set ((gI 2 x8.2).toNat) (rowsAt ((gC 4 x8.2).rows) ((gI 3 x8.2).toNat))).length:Int)then
 if (((gC 4 x8.2).rows).set ((gI 2 x8.2).toNat) (rowsAt ((gC 4 x8.2).rows) ((gI 3 x8.2).toNat))).length≤(((at_ (gR 4 x8.2) 1).toI).toNat)∧((gI 3 x8.2).toNat)<(((gC 4 x8.2).rows).set ((gI 2 x8.2).toNat) (rowsAt ((gC 4 x8.2).rows) ((gI 3 x8.2).toNat))).length then
 X (gI 0 x8.2) (gC 1 x8.2) (Go.IntKind.i64.wrap ((gI 2 x8.2)+1)) (Go.IntKind.i64.wrap ((gI 3 x8.2) - 1)) [.sl ((((gC 4 x8.2).rows).set ((gI 2 x8.2).toNat) (rowsAt ((gC 4 x8.2).rows) ((gI 3 x8.2).toNat))).set ((gI 3 x8.2).toNat) (rowsAt ((gC 4 x8.2).rows) ((gI 2 x8.2).toNat))), .int ((((at_ (gR 4 x8.2) 1).toI).toNat:Nat):Int)]
 else none
 else none
 else none
 else none
 else none
 else none
 else none
 else none
theorem slices_partitionEqualCmpFunc_2_api_Value_i15_s0 (E:Env) (X:List PV→Option (Nat×List PV)) (v0:Int) (v1:C) (v2:Int) (v3:Int) (v4:Row):stepOf E slices_partitionEqualCmpFunc_2_api_Value_i15_c0 slices_partitionEqualCmpFunc_2_api_Value_i15_h0 slices_partitionEqualCmpFunc_2_api_Value_i15_o0 X [.r [.int v0], .r [v1], .r [.int v2], .r [.int v3], .r v4]=slices_partitionEqualCmpFunc_2_api_Value_i15_b0 E (fun (v0:Int) (v1:C) (v2:Int) (v3:Int) (v4:Row)=>X [.r [.int v0], .r [v1], .r [.int v2], .r [.int v3], .r v4]) v0 v1 v2 v3 v4:=by kernel_rfl
def slices_partitionEqualCmpFunc_2_api_Value_i15_a:AImp:={fn:=64,entry:=slices_partitionEqualCmpFunc_2_api_Value_i15_en,res:=[.tmp 10],exit:=slices_partitionEqualCmpFunc_2_api_Value_i15_ex,body:=(.seq (.region [] [oq 10 (.mov (.c lI [.int 0]))] false 0)
 (.seq (.region [] [oq 13 (.mov (.t 0)),
 oq 14 (.mov (.t 1)),
 oq 15 (.mov (.t 0)),
 oq 16 (.mov (.t 3)),
 oq 17 (.mov (.t 0)),
 oq 18 (.mov (.t 3)),
 ⟨some 19, .iad 40 lA0 (.t 17) (.t 18),none,[4,5]⟩,
 ⟨some 20, .ldH false lA0 (.t 19),none,[4,5,6]⟩,
 oq 21 (.mov (.t 0)),
 oq 22 (.mov (.t 1)),
 ⟨some 23, .iad 40 lA0 (.t 21) (.t 22),none,[8,9]⟩,
 ⟨some 24, .ldH false lA0 (.t 23),none,[8,9,10]⟩,
 ⟨some 25, .iad 40 lA0 (.t 13) (.t 14),none,[0,1,4,5,6,7,8,9,10,11]⟩,
 ⟨none, .stF lA0 (.t 25) (.t 20),none,[0,1,4,5,6,7,8,9,10,11,12]⟩,
 ⟨some 26, .iad 40 lA0 (.t 15) (.t 16),none,[0,1,2,3,4,5,6,7,8,9,10,11,12,13]⟩,
 ⟨none, .stF lA0 (.t 26) (.t 24),none,[0,1,2,3,4,5,6,7,8,9,10,11,12,13,14]⟩] true 0)
 (.seq (.region [] [oq 27 (.mov (.t 1)),
 oq 28 (.ibin .add (.t 27) (.c lI [.int 1])),
 oq 29 (.mov (.t 2)),
 oq 30 (.ibin .sub (.t 29) (.c lI [.int 1])),
 oq 11 (.mov (.t 28)),
 oq 12 (.mov (.t 30))] false 0)
 (.seq (.block 0 (.loop slices_partitionEqualCmpFunc_2_api_Value_i15_h0 slices_partitionEqualCmpFunc_2_api_Value_i15_o0 slices_partitionEqualCmpFunc_2_api_Value_i15_c0))
 (.seq (.region [] [oq 89 (.mov (.t 11)),
 oq 10 (.mov (.t 89))] false 0)
 .ret)))))}
noncomputable def slices_partitionEqualCmpFunc_2_api_Value_i15 (E:Env) (p0:Int) (p1:Int) (p2:Int) (p3:C) (p4:Row):Option (List PV):=
 if (0:Int)≤p2∧p2<(((at_ p4 0).rows).length:Int)then
 if p2.toNat<((at_ p4 0).rows).length∧p2.toNat≠(((at_ p4 1).toI).toNat)then
 if (0:Int)≤p0∧p0<(((at_ p4 0).rows).length:Int)then
 if p0.toNat<((at_ p4 0).rows).length∧p0.toNat≠(((at_ p4 1).toI).toNat)then
 if (0:Int)≤p0∧p0<(((at_ p4 0).rows).length:Int)then
 if ((at_ p4 0).rows).length≤(((at_ p4 1).toI).toNat)∧p0.toNat<((at_ p4 0).rows).length then
 if (0:Int)≤p2∧p2<((((at_ p4 0).rows).set p0.toNat (rowsAt ((at_ p4 0).rows) p2.toNat)).length:Int)then
 if (((at_ p4 0).rows).set p0.toNat (rowsAt ((at_ p4 0).rows) p2.toNat)).length≤(((at_ p4 1).toI).toNat)∧p2.toNat<(((at_ p4 0).rows).set p0.toNat (rowsAt ((at_ p4 0).rows) p2.toNat)).length then
 (slices_partitionEqualCmpFunc_2_api_Value_i15_l0 E p0 p3 (Go.IntKind.i64.wrap (p0+1)) (Go.IntKind.i64.wrap (p1 - 1)) [.sl ((((at_ p4 0).rows).set p0.toNat (rowsAt ((at_ p4 0).rows) p2.toNat)).set p2.toNat (rowsAt ((at_ p4 0).rows) p0.toNat)), .int ((((at_ p4 1).toI).toNat:Nat):Int)]).bind fun x9=>
 some [.r [.int (gI 0 x9.2)], .r [gC 1 x9.2, .int ((((at_ (gR 1 x9.2) 1).toI).toNat:Nat):Int)]]
 else none
 else none
 else none
 else none
 else none
 else none
 else none
 else none
theorem slices_partitionEqualCmpFunc_2_api_Value_i15_eq (E:Env) (p0:Int) (p1:Int) (p2:Int) (p3:C) (p4:Row):runI E slices_partitionEqualCmpFunc_2_api_Value_i15_a [.r [.int p0], .r [.int p1], .r [.int p2], .r [p3], .r p4]=slices_partitionEqualCmpFunc_2_api_Value_i15 E p0 p1 p2 p3 p4:=by kernel_rfl
end Go.Ev
