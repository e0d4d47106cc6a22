/-
  A part of the proof: what the functions of the program compute.
-/
import Derived.Test.YtmcbcmgfkbjpcaaGreatDoorZNum
set_option linter.all false
set_option maxRecDepth 100000
namespace Go.Ev
def slices_partitionCmpFunc_2_api_Value_i16_h0:Shape:={slots:=[(0, .hol 0),(1, .d lI),(4, .d (.one (.fn 64))),(12, .d lI),(13, .d lI)],objs:=[.hol lA0 (.agg [])],m:=1}
def slices_partitionCmpFunc_2_api_Value_i16_o0:List (Exit'×Shape):=[(.exit 0,{slots:=[(0, .hol 0),(1, .d lI),(4, .d (.one (.fn 64))),(12, .d lI),(13, .d lI)],objs:=[.hol lA0 (.agg [])],m:=1})]
def slices_partitionCmpFunc_2_api_Value_i16_c0:ACode:=(.seq (.seq (.region [] [oq 32 (.mov (.t 12)),
 oq 33 (.mov (.t 13)),
 ⟨some 34, .icmp .leq (.t 32) (.t 33),none,[0,1]⟩,
 ⟨some 35, .mov (.t 34),none,[0,1,2]⟩,
 ⟨some 36, .mov (.t 4),some (35,true),[0,1,2,3]⟩,
 ⟨some 37, .mov (.t 0),some (35,true),[0,1,2,3]⟩,
 ⟨some 38, .mov (.t 12),some (35,true),[0,1,2,3]⟩,
 ⟨some 39, .iad 40 lA0 (.t 37) (.t 38),some (35,true),[0,1,2,3,5,6]⟩,
 ⟨some 40, .ldH false lA0 (.t 39),some (35,true),[0,1,2,3,5,6,7]⟩,
 ⟨some 41, .mov (.t 0),some (35,true),[0,1,2,3]⟩,
 ⟨some 42, .mov (.t 1),some (35,true),[0,1,2,3]⟩,
 ⟨some 43, .iad 40 lA0 (.t 41) (.t 42),some (35,true),[0,1,2,3,9,10]⟩,
 ⟨some 44, .ldH false lA0 (.t 43),some (35,true),[0,1,2,3,9,10,11]⟩,
 ⟨some 45, .callv 64 [lA0,lA0] [lI] (.t 36) [(.t 40),(.t 44)],some (35,true),[0,1,2,3,4,5,6,7,8,9,10,11,12]⟩,
 ⟨some 46, .icmp .lss (.t 45) (.c lI [.int 0]),some (35,true),[0,1,2,3,4,5,6,7,8,9,10,11,12,13]⟩,
 ⟨some 47, .pick (.t 35) (.t 46) (.c lB [.bool false]),none,[0,1,2,3,4,5,6,7,8,9,10,11,12,13,14]⟩] true 0)
 (.cond (.t 47) .skip
 (.exit 0)))
 (.block 1 (.region [] [oq 48 (.mov (.t 12)),
 oq 49 (.ibin .add (.t 48) (.c lI [.int 1])),
 oq 12 (.mov (.t 49))] false 0)))
noncomputable def slices_partitionCmpFunc_2_api_Value_i16_l0 (E:Env) (v0:Int) (v1:C) (v2:Int) (v3:Int) (v4:Row):Option (Nat×List PV):=E.fix (stepOf E slices_partitionCmpFunc_2_api_Value_i16_c0 slices_partitionCmpFunc_2_api_Value_i16_h0 slices_partitionCmpFunc_2_api_Value_i16_o0) [.r [.int v0], .r [v1], .r [.int v2], .r [.int v3], .r v4]
noncomputable def slices_partitionCmpFunc_2_api_Value_i16_b0 (E:Env) (X:Int→C→Int→Int→Row→Option (Nat×List PV)) (v0:Int) (v1:C) (v2:Int) (v3:Int) (v4:Row):Option (Nat×List PV):=
 let K1:Bool→Option (Nat×List PV):=fun q2=>
 if q2=true then
 X v0 v1 (Go.IntKind.i64.wrap (v2+1)) v3 [at_ v4 0, .int ((((at_ v4 1).toI).toNat:Nat):Int)]
 else
 some (0,[.r [.int v0], .r [v1], .r [.int v2], .r [.int v3], .r [at_ v4 0, .int ((((at_ v4 1).toI).toNat:Nat):Int)]])
 if (decide (v2≤v3))=true then
 if (0:Int)≤v2∧v2<(((at_ v4 0).rows).length:Int)then
 if v2.toNat<((at_ v4 0).rows).length∧v2.toNat≠(((at_ v4 1).toI).toNat)then
 if (0:Int)≤v0∧v0<(((at_ v4 0).rows).length:Int)then
 if v0.toNat<((at_ v4 0).rows).length∧v0.toNat≠(((at_ v4 1).toI).toNat)then
 (callC E v1 [rowsAt ((at_ v4 0).rows) v2.toNat,rowsAt ((at_ v4 0).rows) v0.toNat]).bind fun y3=>
 K1 (decide (((at_ (rowsAt y3 0) 0).toI)<0))
 else none
 else none
 else none
 else none
 else
 K1 false
theorem slices_partitionCmpFunc_2_api_Value_i16_s0 (E:Env) (X:List PV→Option (Nat×List PV)) (v0:Int) (v1:C) (v2:Int) (v3:Int) (v4:Row):stepOf E slices_partitionCmpFunc_2_api_Value_i16_c0 slices_partitionCmpFunc_2_api_Value_i16_h0 slices_partitionCmpFunc_2_api_Value_i16_o0 X [.r [.int v0], .r [v1], .r [.int v2], .r [.int v3], .r v4]=slices_partitionCmpFunc_2_api_Value_i16_b0 E (fun (v0:Int) (v1:C) (v2:Int) (v3:Int) (v4:Row)=>X [.r [.int v0], .r [v1], .r [.int v2], .r [.int v3], .r v4]) v0 v1 v2 v3 v4:=by kernel_rfl
def slices_partitionCmpFunc_2_api_Value_i16_h1:Shape:={slots:=[(0, .hol 0),(1, .d lI),(4, .d (.one (.fn 64))),(12, .d lI),(13, .d lI)],objs:=[.hol lA0 (.agg [])],m:=1}
def slices_partitionCmpFunc_2_api_Value_i16_o1:List (Exit'×Shape):=[(.exit 2,{slots:=[(0, .hol 0),(1, .d lI),(4, .d (.one (.fn 64))),(12, .d lI),(13, .d lI)],objs:=[.hol lA0 (.agg [])],m:=1})]
def slices_partitionCmpFunc_2_api_Value_i16_c1:ACode:=(.seq (.seq (.region [] [oq 50 (.mov (.t 12)),
 oq 51 (.mov (.t 13)),
 ⟨some 52, .icmp .leq (.t 50) (.t 51),none,[0,1]⟩,
 ⟨some 53, .mov (.t 52),none,[0,1,2]⟩,
 ⟨some 54, .mov (.t 4),some (53,true),[0,1,2,3]⟩,
 ⟨some 55, .mov (.t 0),some (53,true),[0,1,2,3]⟩,
 ⟨some 56, .mov (.t 13),some (53,true),[0,1,2,3]⟩,
 ⟨some 57, .iad 40 lA0 (.t 55) (.t 56),some (53,true),[0,1,2,3,5,6]⟩,
 ⟨some 58, .ldH false lA0 (.t 57),some (53,true),[0,1,2,3,5,6,7]⟩,
 ⟨some 59, .mov (.t 0),some (53,true),[0,1,2,3]⟩,
 ⟨some 60, .mov (.t 1),some (53,true),[0,1,2,3]⟩,
 ⟨some 61, .iad 40 lA0 (.t 59) (.t 60),some (53,true),[0,1,2,3,9,10]⟩,
 ⟨some 62, .ldH false lA0 (.t 61),some (53,true),[0,1,2,3,9,10,11]⟩,
 ⟨some 63, .callv 64 [lA0,lA0] [lI] (.t 54) [(.t 58),(.t 62)],some (53,true),[0,1,2,3,4,5,6,7,8,9,10,11,12]⟩,
 ⟨some 64, .icmp .lss (.t 63) (.c lI [.int 0]),some (53,true),[0,1,2,3,4,5,6,7,8,9,10,11,12,13]⟩,
 ⟨some 65, .not (.t 64),some (53,true),[0,1,2,3,4,5,6,7,8,9,10,11,12,13,14]⟩,
 ⟨some 66, .pick (.t 53) (.t 65) (.c lB [.bool false]),none,[0,1,2,3,4,5,6,7,8,9,10,11,12,13,14,15]⟩] true 0)
 (.cond (.t 66) .skip
 (.exit 2)))
 (.block 3 (.region [] [oq 67 (.mov (.t 13)),
 oq 68 (.ibin .sub (.t 67) (.c lI [.int 1])),
 oq 13 (.mov (.t 68))] false 0)))
noncomputable def slices_partitionCmpFunc_2_api_Value_i16_l1 (E:Env) (v0:Int) (v1:C) (v2:Int) (v3:Int) (v4:Row):Option (Nat×List PV):=E.fix (stepOf E slices_partitionCmpFunc_2_api_Value_i16_c1 slices_partitionCmpFunc_2_api_Value_i16_h1 slices_partitionCmpFunc_2_api_Value_i16_o1) [.r [.int v0], .r [v1], .r [.int v2], .r [.int v3], .r v4]
noncomputable def slices_partitionCmpFunc_2_api_Value_i16_b1 (E:Env) (X:Int→C→Int→Int→Row→Option (Nat×List PV)) (v0:Int) (v1:C) (v2:Int) (v3:Int) (v4:Row):Option (Nat×List PV):=
 let K5:Bool→Option (Nat×List PV):=fun q6=>
 if q6=true then
 X v0 v1 v2 (Go.IntKind.i64.wrap (v3 - 1)) [at_ v4 0, .int ((((at_ v4 1).toI).toNat:Nat):Int)]
 else
 some (0,[.r [.int v0], .r [v1], .r [.int v2], .r [.int v3], .r [at_ v4 0, .int ((((at_ v4 1).toI).toNat:Nat):Int)]])
 if (decide (v2≤v3))=true then
 if (0:Int)≤v3∧v3<(((at_ v4 0).rows).length:Int)then
 if v3.toNat<((at_ v4 0).rows).length∧v3.toNat≠(((at_ v4 1).toI).toNat)then
 if (0:Int)≤v0∧v0<(((at_ v4 0).rows).length:Int)then
 if v0.toNat<((at_ v4 0).rows).length∧v0.toNat≠(((at_ v4 1).toI).toNat)then
 (callC E v1 [rowsAt ((at_ v4 0).rows) v3.toNat,rowsAt ((at_ v4 0).rows) v0.toNat]).bind fun y7=>
 K5 (!(decide (((at_ (rowsAt y7 0) 0).toI)<0)))
 else none
 else none
 else none
 else none
 else
 K5 false
theorem slices_partitionCmpFunc_2_api_Value_i16_s1 (E:Env) (X:List PV→Option (Nat×List PV)) (v0:Int) (v1:C) (v2:Int) (v3:Int) (v4:Row):stepOf E slices_partitionCmpFunc_2_api_Value_i16_c1 slices_partitionCmpFunc_2_api_Value_i16_h1 slices_partitionCmpFunc_2_api_Value_i16_o1 X [.r [.int v0], .r [v1], .r [.int v2], .r [.int v3], .r v4]=slices_partitionCmpFunc_2_api_Value_i16_b1 E (fun (v0:Int) (v1:C) (v2:Int) (v3:Int) (v4:Row)=>X [.r [.int v0], .r [v1], .r [.int v2], .r [.int v3], .r v4]) v0 v1 v2 v3 v4:=by kernel_rfl
def slices_partitionCmpFunc_2_api_Value_i16_h3:Shape:={slots:=[(0, .hol 0),(1, .d lI),(4, .d (.one (.fn 64))),(12, .d lI),(13, .d lI)],objs:=[.hol lA0 (.agg [])],m:=1}
def slices_partitionCmpFunc_2_api_Value_i16_o3:List (Exit'×Shape):=[(.exit 6,{slots:=[(0, .hol 0),(1, .d lI),(4, .d (.one (.fn 64))),(12, .d lI),(13, .d lI)],objs:=[.hol lA0 (.agg [])],m:=1})]
def slices_partitionCmpFunc_2_api_Value_i16_c3:ACode:=(.seq (.seq (.region [] [oq 105 (.mov (.t 12)),
 oq 106 (.mov (.t 13)),
 ⟨some 107, .icmp .leq (.t 105) (.t 106),none,[0,1]⟩,
 ⟨some 108, .mov (.t 107),none,[0,1,2]⟩,
 ⟨some 109, .mov (.t 4),some (108,true),[0,1,2,3]⟩,
 ⟨some 110, .mov (.t 0),some (108,true),[0,1,2,3]⟩,
 ⟨some 111, .mov (.t 12),some (108,true),[0,1,2,3]⟩,
 ⟨some 112, .iad 40 lA0 (.t 110) (.t 111),some (108,true),[0,1,2,3,5,6]⟩,
 ⟨some 113, .ldH false lA0 (.t 112),some (108,true),[0,1,2,3,5,6,7]⟩,
 ⟨some 114, .mov (.t 0),some (108,true),[0,1,2,3]⟩,
 ⟨some 115, .mov (.t 1),some (108,true),[0,1,2,3]⟩,
 ⟨some 116, .iad 40 lA0 (.t 114) (.t 115),some (108,true),[0,1,2,3,9,10]⟩,
 ⟨some 117, .ldH false lA0 (.t 116),some (108,true),[0,1,2,3,9,10,11]⟩,
 ⟨some 118, .callv 64 [lA0,lA0] [lI] (.t 109) [(.t 113),(.t 117)],some (108,true),[0,1,2,3,4,5,6,7,8,9,10,11,12]⟩,
 ⟨some 119, .icmp .lss (.t 118) (.c lI [.int 0]),some (108,true),[0,1,2,3,4,5,6,7,8,9,10,11,12,13]⟩,
 ⟨some 120, .pick (.t 108) (.t 119) (.c lB [.bool false]),none,[0,1,2,3,4,5,6,7,8,9,10,11,12,13,14]⟩] true 0)
 (.cond (.t 120) .skip
 (.exit 6)))
 (.block 7 (.region [] [oq 121 (.mov (.t 12)),
 oq 122 (.ibin .add (.t 121) (.c lI [.int 1])),
 oq 12 (.mov (.t 122))] false 0)))
noncomputable def slices_partitionCmpFunc_2_api_Value_i16_l3 (E:Env) (v0:Int) (v1:C) (v2:Int) (v3:Int) (v4:Row):Option (Nat×List PV):=E.fix (stepOf E slices_partitionCmpFunc_2_api_Value_i16_c3 slices_partitionCmpFunc_2_api_Value_i16_h3 slices_partitionCmpFunc_2_api_Value_i16_o3) [.r [.int v0], .r [v1], .r [.int v2], .r [.int v3], .r v4]
noncomputable def slices_partitionCmpFunc_2_api_Value_i16_b3 (E:Env) (X:Int→C→Int→Int→Row→Option (Nat×List PV)) (v0:Int) (v1:C) (v2:Int) (v3:Int) (v4:Row):Option (Nat×List PV):=
 let K9:Bool→Option (Nat×List PV):=fun q10=>
 if q10=true then
 X v0 v1 (Go.IntKind.i64.wrap (v2+1)) v3 [at_ v4 0, .int ((((at_ v4 1).toI).toNat:Nat):Int)]
 else
 some (0,[.r [.int v0], .r [v1], .r [.int v2], .r [.int v3], .r [at_ v4 0, .int ((((at_ v4 1).toI).toNat:Nat):Int)]])
 if (decide (v2≤v3))=true then
 if (0:Int)≤v2∧v2<(((at_ v4 0).rows).length:Int)then
 if v2.toNat<((at_ v4 0).rows).length∧v2.toNat≠(((at_ v4 1).toI).toNat)then
 if (0:Int)≤v0∧v0<(((at_ v4 0).rows).length:Int)then
 if v0.toNat<((at_ v4 0).rows).length∧v0.toNat≠(((at_ v4 1).toI).toNat)then
 (callC E v1 [rowsAt ((at_ v4 0).rows) v2.toNat,rowsAt ((at_ v4 0).rows) v0.toNat]).bind fun y11=>
 K9 (decide (((at_ (rowsAt y11 0) 0).toI)<0))
 else none
 else none
 else none
 else none
 else
 K9 false
theorem slices_partitionCmpFunc_2_api_Value_i16_s3 (E:Env) (X:List PV→Option (Nat×List PV)) (v0:Int) (v1:C) (v2:Int) (v3:Int) (v4:Row):stepOf E slices_partitionCmpFunc_2_api_Value_i16_c3 slices_partitionCmpFunc_2_api_Value_i16_h3 slices_partitionCmpFunc_2_api_Value_i16_o3 X [.r [.int v0], .r [v1], .r [.int v2], .r [.int v3], .r v4]=slices_partitionCmpFunc_2_api_Value_i16_b3 E (fun (v0:Int) (v1:C) (v2:Int) (v3:Int) (v4:Row)=>X [.r [.int v0], .r [v1], .r [.int v2], .r [.int v3], .r v4]) v0 v1 v2 v3 v4:=by kernel_rfl
def slices_partitionCmpFunc_2_api_Value_i16_h4:Shape:={slots:=[(0, .hol 0),(1, .d lI),(4, .d (.one (.fn 64))),(12, .d lI),(13, .d lI)],objs:=[.hol lA0 (.agg [])],m:=1}
def slices_partitionCmpFunc_2_api_Value_i16_o4:List (Exit'×Shape):=[(.exit 8,{slots:=[(0, .hol 0),(1, .d lI),(4, .d (.one (.fn 64))),(12, .d lI),(13, .d lI)],objs:=[.hol lA0 (.agg [])],m:=1})]
def slices_partitionCmpFunc_2_api_Value_i16_c4:ACode:=(.seq (.seq (.region [] [oq 123 (.mov (.t 12)),
 oq 124 (.mov (.t 13)),
 ⟨some 125, .icmp .leq (.t 123) (.t 124),none,[0,1]⟩,
 ⟨some 126, .mov (.t 125),none,[0,1,2]⟩,
 ⟨some 127, .mov (.t 4),some (126,true),[0,1,2,3]⟩,
 ⟨some 128, .mov (.t 0),some (126,true),[0,1,2,3]⟩,
 ⟨some 129, .mov (.t 13),some (126,true),[0,1,2,3]⟩,
 ⟨some 130, .iad 40 lA0 (.t 128) (.t 129),some (126,true),[0,1,2,3,5,6]⟩,
 ⟨some 131, .ldH false lA0 (.t 130),some (126,true),[0,1,2,3,5,6,7]⟩,
 ⟨some 132, .mov (.t 0),some (126,true),[0,1,2,3]⟩,
 ⟨some 133, .mov (.t 1),some (126,true),[0,1,2,3]⟩,
 ⟨some 134, .iad 40 lA0 (.t 132) (.t 133),some (126,true),[0,1,2,3,9,10]⟩,
 ⟨some 135, .ldH false lA0 (.t 134),some (126,true),[0,1,2,3,9,10,11]⟩,
 ⟨some 136, .callv 64 [lA0,lA0] [lI] (.t 127) [(.t 131),(.t 135)],some (126,true),[0,1,2,3,4,5,6,7,8,9,10,11,12]⟩,
 ⟨some 137, .icmp .lss (.t 136) (.c lI [.int 0]),some (126,true),[0,1,2,3,4,5,6,7,8,9,10,11,12,13]⟩,
 ⟨some 138, .not (.t 137),some (126,true),[0,1,2,3,4,5,6,7,8,9,10,11,12,13,14]⟩,
 ⟨some 139, .pick (.t 126) (.t 138) (.c lB [.bool false]),none,[0,1,2,3,4,5,6,7,8,9,10,11,12,13,14,15]⟩] true 0)
 (.cond (.t 139) .skip
 (.exit 8)))
 (.block 9 (.region [] [oq 140 (.mov (.t 13)),
 oq 141 (.ibin .sub (.t 140) (.c lI [.int 1])),
 oq 13 (.mov (.t 141))] false 0)))
noncomputable def slices_partitionCmpFunc_2_api_Value_i16_l4 (E:Env) (v0:Int) (v1:C) (v2:Int) (v3:Int) (v4:Row):Option (Nat×List PV):=E.fix (stepOf E slices_partitionCmpFunc_2_api_Value_i16_c4 slices_partitionCmpFunc_2_api_Value_i16_h4 slices_partitionCmpFunc_2_api_Value_i16_o4) [.r [.int v0], .r [v1], .r [.int v2], .r [.int v3], .r v4]
noncomputable def slices_partitionCmpFunc_2_api_Value_i16_b4 (E:Env) (X:Int→C→Int→Int→Row→Option (Nat×List PV)) (v0:Int) (v1:C) (v2:Int) (v3:Int) (v4:Row):Option (Nat×List PV):=
 let K13:Bool→Option (Nat×List PV):=fun q14=>
 if q14=true then
 X v0 v1 v2 (Go.IntKind.i64.wrap (v3 - 1)) [at_ v4 0, .int ((((at_ v4 1).toI).toNat:Nat):Int)]
 else
 some (0,[.r [.int v0], .r [v1], .r [.int v2], .r [.int v3], .r [at_ v4 0, .int ((((at_ v4 1).toI).toNat:Nat):Int)]])
 if (decide (v2≤v3))=true then
 if (0:Int)≤v3∧v3<(((at_ v4 0).rows).length:Int)then
 if v3.toNat<((at_ v4 0).rows).length∧v3.toNat≠(((at_ v4 1).toI).toNat)then
 if (0:Int)≤v0∧v0<(((at_ v4 0).rows).length:Int)then
 if v0.toNat<((at_ v4 0).rows).length∧v0.toNat≠(((at_ v4 1).toI).toNat)then
 (callC E v1 [rowsAt ((at_ v4 0).rows) v3.toNat,rowsAt ((at_ v4 0).rows) v0.toNat]).bind fun y15=>
 K13 (!(decide (((at_ (rowsAt y15 0) 0).toI)<0)))
 else none
 else none
 else none
 else none
 else
 K13 false
theorem slices_partitionCmpFunc_2_api_Value_i16_s4 (E:Env) (X:List PV→Option (Nat×List PV)) (v0:Int) (v1:C) (v2:Int) (v3:Int) (v4:Row):stepOf E slices_partitionCmpFunc_2_api_Value_i16_c4 slices_partitionCmpFunc_2_api_Value_i16_h4 slices_partitionCmpFunc_2_api_Value_i16_o4 X [.r [.int v0], .r [v1], .r [.int v2], .r [.int v3], .r v4]=slices_partitionCmpFunc_2_api_Value_i16_b4 E (fun (v0:Int) (v1:C) (v2:Int) (v3:Int) (v4:Row)=>X [.r [.int v0], .r [v1], .r [.int v2], .r [.int v3], .r v4]) v0 v1 v2 v3 v4:=by kernel_rfl
def slices_partitionCmpFunc_2_api_Value_i16_h2:Shape:={slots:=[(0, .hol 0),(1, .d lI),(4, .d (.one (.fn 64))),(12, .d lI),(13, .d lI)],objs:=[.hol lA0 (.agg [])],m:=1}
def slices_partitionCmpFunc_2_api_Value_i16_o2:List (Exit'×Shape):=[(.exit 4,{slots:=[(0, .hol 0),(1, .d lI),(13, .d lI)],objs:=[.hol lA0 (.agg [])],m:=1})]
def slices_partitionCmpFunc_2_api_Value_i16_c2:ACode:=(.block 5 (.seq (.block 6 (.loop slices_partitionCmpFunc_2_api_Value_i16_h3 slices_partitionCmpFunc_2_api_Value_i16_o3 slices_partitionCmpFunc_2_api_Value_i16_c3))
 (.seq (.block 8 (.loop slices_partitionCmpFunc_2_api_Value_i16_h4 slices_partitionCmpFunc_2_api_Value_i16_o4 slices_partitionCmpFunc_2_api_Value_i16_c4))
 (.seq (.seq (.region [] [oq 142 (.mov (.t 12)),
 oq 143 (.mov (.t 13)),
 oq 144 (.icmp .gtr (.t 142) (.t 143))] false 0)
 (.cond (.t 144) (.exit 4)
 .skip))
 (.seq (.region [] [oq 145 (.mov (.t 0)),
 oq 146 (.mov (.t 12)),
 oq 147 (.mov (.t 0)),
 oq 148 (.mov (.t 13)),
 oq 149 (.mov (.t 0)),
 oq 150 (.mov (.t 13)),
 ⟨some 151, .iad 40 lA0 (.t 149) (.t 150),none,[4,5]⟩,
 ⟨some 152, .ldH false lA0 (.t 151),none,[4,5,6]⟩,
 oq 153 (.mov (.t 0)),
 oq 154 (.mov (.t 12)),
 ⟨some 155, .iad 40 lA0 (.t 153) (.t 154),none,[8,9]⟩,
 ⟨some 156, .ldH false lA0 (.t 155),none,[8,9,10]⟩,
 ⟨some 157, .iad 40 lA0 (.t 145) (.t 146),none,[0,1,4,5,6,7,8,9,10,11]⟩,
 ⟨none, .stF lA0 (.t 157) (.t 152),none,[0,1,4,5,6,7,8,9,10,11,12]⟩,
 ⟨some 158, .iad 40 lA0 (.t 147) (.t 148),none,[0,1,2,3,4,5,6,7,8,9,10,11,12,13]⟩,
 ⟨none, .stF lA0 (.t 158) (.t 156),none,[0,1,2,3,4,5,6,7,8,9,10,11,12,13,14]⟩] true 0)
 (.seq (.region [] [oq 159 (.mov (.t 12)),
 oq 160 (.ibin .add (.t 159) (.c lI [.int 1])),
 oq 12 (.mov (.t 160))] false 0)
 (.region [] [oq 161 (.mov (.t 13)),
 oq 162 (.ibin .sub (.t 161) (.c lI [.int 1])),
 oq 13 (.mov (.t 162))] false 0)))))))
noncomputable def slices_partitionCmpFunc_2_api_Value_i16_l2 (E:Env) (v0:Int) (v1:C) (v2:Int) (v3:Int) (v4:Row):Option (Nat×List PV):=E.fix (stepOf E slices_partitionCmpFunc_2_api_Value_i16_c2 slices_partitionCmpFunc_2_api_Value_i16_h2 slices_partitionCmpFunc_2_api_Value_i16_o2) [.r [.int v0], .r [v1], .r [.int v2], .r [.int v3], .r v4]
noncomputable def slices_partitionCmpFunc_2_api_Value_i16_b2 (E:Env) (X:Int→C→Int→Int→Row→Option (Nat×List PV)) (v0:Int) (v1:C) (v2:Int) (v3:Int) (v4:Row):Option (Nat×List PV):=
 (slices_partitionCmpFunc_2_api_Value_i16_l3 E v0 v1 v2 v3 [at_ v4 0, .int ((((at_ v4 1).toI).toNat:Nat):Int)]).bind fun x12=>
 (slices_partitionCmpFunc_2_api_Value_i16_l4 E (gI 0 x12.2) (gC 1 x12.2) (gI 2 x12.2) (gI 3 x12.2) [gC 4 x12.2, .int ((((at_ (gR 4 x12.2) 1).toI).toNat:Nat):Int)]).bind fun x16=>
 if (decide ((gI 2 x16.2)>(gI 3 x16.2)))=true then
 some (0,[.r [.int (gI 0 x16.2)], .r [.int (gI 3 x16.2)], .r [gC 4 x16.2, .int ((((at_ (gR 4 x16.2) 1).toI).toNat:Nat):Int)]])
 else
 if (0:Int)≤(gI 3 x16.2)∧(gI 3 x16.2)<(((gC 4 x16.2).rows).length:Int)then
 if ((gI 3 x16.2).toNat)<((gC 4 x16.2).rows).length∧((gI 3 x16.2).toNat)≠(((at_ (gR 4 x16.2) 1).toI).toNat)then
 if (0:Int)≤(gI 2 x16.2)∧(gI 2 x16.2)<(((gC 4 x16.2).rows).length:Int)then
 if ((gI 2 x16.2).toNat)<((gC 4 x16.2).rows).length∧((gI 2 x16.2).toNat)≠(((at_ (gR 4 x16.2) 1).toI).toNat)then
 if (0:Int)≤(gI 2 x16.2)∧(gI 2 x16.2)<(((gC 4 x16.2).rows).length:Int)then
 if ((gC 4 x16.2).rows).length≤(((at_ (gR 4 x16.2) 1).toI).toNat)∧((gI 2 x16.2).toNat)<((gC 4 x16.2).rows).length then
 if (0:Int)≤(gI 3 x16.2)∧(gI 3 x16.2)<((((gC 4 x16.2).rows).set ((gI 2 x16.2).toNat) (rowsAt ((gC 4 x16.2).rows) ((gI 3 x16.2).toNat))).length:Int)then
 if (((gC 4 x16.2).rows).set ((gI 2 x16.2).toNat) (rowsAt ((gC 4 x16.2).rows) ((gI 3 x16.2).toNat))).length≤(((at_ (gR 4 x16.2) 1).toI).toNat)∧((gI 3 x16.2).toNat)<(((gC 4 x16.2).rows).set ((gI 2 x16.2).toNat) (rowsAt ((gC 4 x16.2).rows) ((gI 3 x16.2).toNat))).length then
 X (gI 0 x16.2) (gC 1 x16.2) (Go.IntKind.i64.wrap ((gI 2 x16.2)+1)) (Go.IntKind.i64.wrap ((gI 3 x16.2) - 1)) [.sl ((((gC 4 x16.2).rows).set ((gI 2 x16.2).toNat) (rowsAt ((gC 4 x16.2).rows) ((gI 3 x16.2).toNat))).set ((gI 3 x16.2).toNat) (rowsAt ((gC 4 x16.2).rows) ((gI 2 x16.2).toNat))), .int ((((at_ (gR 4 x16.2) 1).toI).toNat:Nat):Int)]
 else none
 else none
 else none
 else none
 else none
 else none
 else none
 else none
theorem slices_partitionCmpFunc_2_api_Value_i16_s2 (E:Env) (X:List PV→Option (Nat×List PV)) (v0:Int) (v1:C) (v2:Int) (v3:Int) (v4:Row):stepOf E slices_partitionCmpFunc_2_api_Value_i16_c2 slices_partitionCmpFunc_2_api_Value_i16_h2 slices_partitionCmpFunc_2_api_Value_i16_o2 X [.r [.int v0], .r [v1], .r [.int v2], .r [.int v3], .r v4]=slices_partitionCmpFunc_2_api_Value_i16_b2 E (fun (v0:Int) (v1:C) (v2:Int) (v3:Int) (v4:Row)=>X [.r [.int v0], .r [v1], .r [.int v2], .r [.int v3], .r v4]) v0 v1 v2 v3 v4:=by kernel_rfl
def slices_partitionCmpFunc_2_api_Value_i16_a:AImp:={fn:=65,entry:=slices_partitionCmpFunc_2_api_Value_i16_en,res:=[.tmp 10, .tmp 11],exit:=slices_partitionCmpFunc_2_api_Value_i16_ex,body:=(.seq (.region [] [oq 10 (.mov (.c lI [.int 0])),
 oq 11 (.mov (.c lB [.bool false]))] false 0)
 (.seq (.region [] [oq 14 (.mov (.t 0)),
 oq 15 (.mov (.t 1)),
 oq 16 (.mov (.t 0)),
 oq 17 (.mov (.t 3)),
 oq 18 (.mov (.t 0)),
 oq 19 (.mov (.t 3)),
 ⟨some 20, .iad 40 lA0 (.t 18) (.t 19),none,[4,5]⟩,
 ⟨some 21, .ldH false lA0 (.t 20),none,[4,5,6]⟩,
 oq 22 (.mov (.t 0)),
 oq 23 (.mov (.t 1)),
 ⟨some 24, .iad 40 lA0 (.t 22) (.t 23),none,[8,9]⟩,
 ⟨some 25, .ldH false lA0 (.t 24),none,[8,9,10]⟩,
 ⟨some 26, .iad 40 lA0 (.t 14) (.t 15),none,[0,1,4,5,6,7,8,9,10,11]⟩,
 ⟨none, .stF lA0 (.t 26) (.t 21),none,[0,1,4,5,6,7,8,9,10,11,12]⟩,
 ⟨some 27, .iad 40 lA0 (.t 16) (.t 17),none,[0,1,2,3,4,5,6,7,8,9,10,11,12,13]⟩,
 ⟨none, .stF lA0 (.t 27) (.t 25),none,[0,1,2,3,4,5,6,7,8,9,10,11,12,13,14]⟩] true 0)
 (.seq (.region [] [oq 28 (.mov (.t 1)),
 oq 29 (.ibin .add (.t 28) (.c lI [.int 1])),
 oq 30 (.mov (.t 2)),
 oq 31 (.ibin .sub (.t 30) (.c lI [.int 1])),
 oq 12 (.mov (.t 29)),
 oq 13 (.mov (.t 31))] false 0)
 (.seq (.block 0 (.loop slices_partitionCmpFunc_2_api_Value_i16_h0 slices_partitionCmpFunc_2_api_Value_i16_o0 slices_partitionCmpFunc_2_api_Value_i16_c0))
 (.seq (.block 2 (.loop slices_partitionCmpFunc_2_api_Value_i16_h1 slices_partitionCmpFunc_2_api_Value_i16_o1 slices_partitionCmpFunc_2_api_Value_i16_c1))
 (.seq (.seq (.region [] [oq 69 (.mov (.t 12)),
 oq 70 (.mov (.t 13)),
 oq 71 (.icmp .gtr (.t 69) (.t 70))] false 0)
 (.cond (.t 71) (.seq (.region [] [oq 72 (.mov (.t 0)),
 oq 73 (.mov (.t 13)),
 oq 74 (.mov (.t 0)),
 oq 75 (.mov (.t 1)),
 oq 76 (.mov (.t 0)),
 oq 77 (.mov (.t 1)),
 ⟨some 78, .iad 40 lA0 (.t 76) (.t 77),none,[4,5]⟩,
 ⟨some 79, .ldH false lA0 (.t 78),none,[4,5,6]⟩,
 oq 80 (.mov (.t 0)),
 oq 81 (.mov (.t 13)),
 ⟨some 82, .iad 40 lA0 (.t 80) (.t 81),none,[8,9]⟩,
 ⟨some 83, .ldH false lA0 (.t 82),none,[8,9,10]⟩,
 ⟨some 84, .iad 40 lA0 (.t 72) (.t 73),none,[0,1,4,5,6,7,8,9,10,11]⟩,
 ⟨none, .stF lA0 (.t 84) (.t 79),none,[0,1,4,5,6,7,8,9,10,11,12]⟩,
 ⟨some 85, .iad 40 lA0 (.t 74) (.t 75),none,[0,1,2,3,4,5,6,7,8,9,10,11,12,13]⟩,
 ⟨none, .stF lA0 (.t 85) (.t 83),none,[0,1,2,3,4,5,6,7,8,9,10,11,12,13,14]⟩] true 0)
 (.seq (.region [] [oq 86 (.mov (.t 13)),
 oq 10 (.mov (.t 86)),
 oq 11 (.mov (.c lB [.bool true]))] false 0)
 .ret))
 .skip))
 (.seq (.region [] [oq 87 (.mov (.t 0)),
 oq 88 (.mov (.t 12)),
 oq 89 (.mov (.t 0)),
 oq 90 (.mov (.t 13)),
 oq 91 (.mov (.t 0)),
 oq 92 (.mov (.t 13)),
 ⟨some 93, .iad 40 lA0 (.t 91) (.t 92),none,[4,5]⟩,
 ⟨some 94, .ldH false lA0 (.t 93),none,[4,5,6]⟩,
 oq 95 (.mov (.t 0)),
 oq 96 (.mov (.t 12)),
 ⟨some 97, .iad 40 lA0 (.t 95) (.t 96),none,[8,9]⟩,
 ⟨some 98, .ldH false lA0 (.t 97),none,[8,9,10]⟩,
 ⟨some 99, .iad 40 lA0 (.t 87) (.t 88),none,[0,1,4,5,6,7,8,9,10,11]⟩,
 ⟨none, .stF lA0 (.t 99) (.t 94),none,[0,1,4,5,6,7,8,9,10,11,12]⟩,
 ⟨some 100, .iad 40 lA0 (.t 89) (.t 90),none,[0,1,2,3,4,5,6,7,8,9,10,11,12,13]⟩,
 ⟨none, .stF lA0 (.t 100) (.t 98),none,[0,1,2,3,4,5,6,7,8,9,10,11,12,13,14]⟩] true 0)
 (.seq (.region [] [oq 101 (.mov (.t 12)),
 oq 102 (.ibin .add (.t 101) (.c lI [.int 1])),
 oq 12 (.mov (.t 102))] false 0)
 (.seq (.region [] [oq 103 (.mov (.t 13)),
 oq 104 (.ibin .sub (.t 103) (.c lI [.int 1])),
 oq 13 (.mov (.t 104))] false 0)
 (.seq (.block 4 (.loop slices_partitionCmpFunc_2_api_Value_i16_h2 slices_partitionCmpFunc_2_api_Value_i16_o2 slices_partitionCmpFunc_2_api_Value_i16_c2))
 (.seq (.region [] [oq 163 (.mov (.t 0)),
 oq 164 (.mov (.t 13)),
 oq 165 (.mov (.t 0)),
 oq 166 (.mov (.t 1)),
 oq 167 (.mov (.t 0)),
 oq 168 (.mov (.t 1)),
 ⟨some 169, .iad 40 lA0 (.t 167) (.t 168),none,[4,5]⟩,
 ⟨some 170, .ldH false lA0 (.t 169),none,[4,5,6]⟩,
 oq 171 (.mov (.t 0)),
 oq 172 (.mov (.t 13)),
 ⟨some 173, .iad 40 lA0 (.t 171) (.t 172),none,[8,9]⟩,
 ⟨some 174, .ldH false lA0 (.t 173),none,[8,9,10]⟩,
 ⟨some 175, .iad 40 lA0 (.t 163) (.t 164),none,[0,1,4,5,6,7,8,9,10,11]⟩,
 ⟨none, .stF lA0 (.t 175) (.t 170),none,[0,1,4,5,6,7,8,9,10,11,12]⟩,
 ⟨some 176, .iad 40 lA0 (.t 165) (.t 166),none,[0,1,2,3,4,5,6,7,8,9,10,11,12,13]⟩,
 ⟨none, .stF lA0 (.t 176) (.t 174),none,[0,1,2,3,4,5,6,7,8,9,10,11,12,13,14]⟩] true 0)
 (.seq (.region [] [oq 177 (.mov (.t 13)),
 oq 10 (.mov (.t 177)),
 oq 11 (.mov (.c lB [.bool false]))] false 0)
 .ret))))))))))))}
noncomputable def slices_partitionCmpFunc_2_api_Value_i16 (E:Env) (p0:Int) (p1:Int) (p2:Int) (p3:C) (p4:Row):Option (List PV):=
 if (0:Int)≤p2∧p2<(((at_ p4 0).rows).length:Int)then
 if p2.toNat<((at_ p4 0).rows).length∧p2.toNat≠(((at_ p4 1).toI).toNat)then
 if (0:Int)≤p0∧p0<(((at_ p4 0).rows).length:Int)then
 if p0.toNat<((at_ p4 0).rows).length∧p0.toNat≠(((at_ p4 1).toI).toNat)then
 if (0:Int)≤p0∧p0<(((at_ p4 0).rows).length:Int)then
 if ((at_ p4 0).rows).length≤(((at_ p4 1).toI).toNat)∧p0.toNat<((at_ p4 0).rows).length then
 if (0:Int)≤p2∧p2<((((at_ p4 0).rows).set p0.toNat (rowsAt ((at_ p4 0).rows) p2.toNat)).length:Int)then
 if (((at_ p4 0).rows).set p0.toNat (rowsAt ((at_ p4 0).rows) p2.toNat)).length≤(((at_ p4 1).toI).toNat)∧p2.toNat<(((at_ p4 0).rows).set p0.toNat (rowsAt ((at_ p4 0).rows) p2.toNat)).length then
 (slices_partitionCmpFunc_2_api_Value_i16_l0 E p0 p3 (Go.IntKind.i64.wrap (p0+1)) (Go.IntKind.i64.wrap (p1 - 1)) [.sl ((((at_ p4 0).rows).set p0.toNat (rowsAt ((at_ p4 0).rows) p2.toNat)).set p2.toNat (rowsAt ((at_ p4 0).rows) p0.toNat)), .int ((((at_ p4 1).toI).toNat:Nat):Int)]).bind fun x4=>
 (slices_partitionCmpFunc_2_api_Value_i16_l1 E (gI 0 x4.2) (gC 1 x4.2) (gI 2 x4.2) (gI 3 x4.2) [gC 4 x4.2, .int ((((at_ (gR 4 x4.2) 1).toI).toNat:Nat):Int)]).bind fun x8=>
 if (decide ((gI 2 x8.2)>(gI 3 x8.2)))=true then
 if (0:Int)≤(gI 0 x8.2)∧(gI 0 x8.2)<(((gC 4 x8.2).rows).length:Int)then
 if ((gI 0 x8.2).toNat)<((gC 4 x8.2).rows).length∧((gI 0 x8.2).toNat)≠(((at_ (gR 4 x8.2) 1).toI).toNat)then
 if (0:Int)≤(gI 3 x8.2)∧(gI 3 x8.2)<(((gC 4 x8.2).rows).length:Int)then
 if ((gI 3 x8.2).toNat)<((gC 4 x8.2).rows).length∧((gI 3 x8.2).toNat)≠(((at_ (gR 4 x8.2) 1).toI).toNat)then
 if (0:Int)≤(gI 3 x8.2)∧(gI 3 x8.2)<(((gC 4 x8.2).rows).length:Int)then
 if ((gC 4 x8.2).rows).length≤(((at_ (gR 4 x8.2) 1).toI).toNat)∧((gI 3 x8.2).toNat)<((gC 4 x8.2).rows).length then
 if (0:Int)≤(gI 0 x8.2)∧(gI 0 x8.2)<((((gC 4 x8.2).rows).set ((gI 3 x8.2).toNat) (rowsAt ((gC 4 x8.2).rows) ((gI 0 x8.2).toNat))).length:Int)then
 if (((gC 4 x8.2).rows).set ((gI 3 x8.2).toNat) (rowsAt ((gC 4 x8.2).rows) ((gI 0 x8.2).toNat))).length≤(((at_ (gR 4 x8.2) 1).toI).toNat)∧((gI 0 x8.2).toNat)<(((gC 4 x8.2).rows).set ((gI 3 x8.2).toNat) (rowsAt ((gC 4 x8.2).rows) ((gI 0 x8.2).toNat))).length then
 some [.r [.int (gI 3 x8.2)], .r [.bool true], .r [.sl ((((gC 4 x8.2).rows).set ((gI 3 x8.2).toNat) (rowsAt ((gC 4 x8.2).rows) ((gI 0 x8.2).toNat))).set ((gI 0 x8.2).toNat) (rowsAt ((gC 4 x8.2).rows) ((gI 3 x8.2).toNat))), .int ((((at_ (gR 4 x8.2) 1).toI).toNat:Nat):Int)]]
 else none
 else none
 else none
 else none
 else none
 else none
 else none
 else none
 else
 if (0:Int)≤(gI 3 x8.2)∧(gI 3 x8.2)<(((gC 4 x8.2).rows).length:Int)then
 if ((gI 3 x8.2).toNat)<((gC 4 x8.2).rows).length∧((gI 3 x8.2).toNat)≠(((at_ (gR 4 x8.2) 1).toI).toNat)then
 if (0:Int)≤(gI 2 x8.2)∧(gI 2 x8.2)<(((gC 4 x8.2).rows).length:Int)then
 if ((gI 2 x8.2).toNat)<((gC 4 x8.2).rows).length∧((gI 2 x8.2).toNat)≠(((at_ (gR 4 x8.2) 1).toI).toNat)then
 if (0:Int)≤(gI 2 x8.2)∧(gI 2 x8.2)<(((gC 4 x8.2).rows).length:Int)then
 if ((gC 4 x8.2).rows).length≤(((at_ (gR 4 x8.2) 1).toI).toNat)∧((gI 2 x8.2).toNat)<((gC 4 x8.2).rows).length then
 if (0:Int)≤(gI 3 x8.2)∧(gI 3 x8.2)<((((gC 4 x8.2).rows).set ((gI 2 x8.2).toNat) (rowsAt ((gC 4 x8.2).rows) ((gI 3 x8.2).toNat))).length:Int)then
 if (((gC 4 x8.2).rows).set ((gI 2 x8.2).toNat) (rowsAt ((gC 4 x8.2).rows) ((gI 3 x8.2).toNat))).length≤(((at_ (gR 4 x8.2) 1).toI).toNat)∧((gI 3 x8.2).toNat)<(((gC 4 x8.2).rows).set ((gI 2 x8.2).toNat) (rowsAt ((gC 4 x8.2).rows) ((gI 3 x8.2).toNat))).length then
 (slices_partitionCmpFunc_2_api_Value_i16_l2 E (gI 0 x8.2) (gC 1 x8.2) (Go.IntKind.i64.wrap ((gI 2 x8.2)+1)) (Go.IntKind.i64.wrap ((gI 3 x8.2) - 1)) [.sl ((((gC 4 x8.2).rows).set ((gI 2 x8.2).toNat) (rowsAt ((gC 4 x8.2).rows) ((gI 3 x8.2).toNat))).set ((gI 3 x8.2).toNat) (rowsAt ((gC 4 x8.2).rows) ((gI 2 x8.2).toNat))), .int ((((at_ (gR 4 x8.2) 1).toI).toNat:Nat):Int)]).bind fun x17=>
 if (0:Int)≤(gI 0 x17.2)∧(gI 0 x17.2)<(((gC 2 x17.2).rows).length:Int)then
 if ((gI 0 x17.2).toNat)<((gC 2 x17.2).rows).length∧((gI 0 x17.2).toNat)≠(((at_ (gR 2 x17.2) 1).toI).toNat)then
 if (0:Int)≤(gI 1 x17.2)∧(gI 1 x17.2)<(((gC 2 x17.2).rows).length:Int)then
 if ((gI 1 x17.2).toNat)<((gC 2 x17.2).rows).length∧((gI 1 x17.2).toNat)≠(((at_ (gR 2 x17.2) 1).toI).toNat)then
 if (0:Int)≤(gI 1 x17.2)∧(gI 1 x17.2)<(((gC 2 x17.2).rows).length:Int)then
 if ((gC 2 x17.2).rows).length≤(((at_ (gR 2 x17.2) 1).toI).toNat)∧((gI 1 x17.2).toNat)<((gC 2 x17.2).rows).length then
 if (0:Int)≤(gI 0 x17.2)∧(gI 0 x17.2)<((((gC 2 x17.2).rows).set ((gI 1 x17.2).toNat) (rowsAt ((gC 2 x17.2).rows) ((gI 0 x17.2).toNat))).length:Int)then
 if (((gC 2 x17.2).rows).set ((gI 1 x17.2).toNat) (rowsAt ((gC 2 x17.2).rows) ((gI 0 x17.2).toNat))).length≤(((at_ (gR 2 x17.2) 1).toI).toNat)∧((gI 0 x17.2).toNat)<(((gC 2 x17.2).rows).set ((gI 1 x17.2).toNat) (rowsAt ((gC 2 x17.2).rows) ((gI 0 x17.2).toNat))).length then
 some [.r [.int (gI 1 x17.2)], .r [.bool false], .r [.sl ((((gC 2 x17.2).rows).set ((gI 1 x17.2).toNat) (rowsAt ((gC 2 x17.2).rows) ((gI 0 x17.2).toNat))).set ((gI 0 x17.2).toNat) (rowsAt ((gC 2 x17.2).rows) ((gI 1 x17.2).toNat))), .int ((((at_ (gR 2 x17.2) 1).toI).toNat:Nat):Int)]]
 else none
 else none
 else none
 else none
 else none
 else none
 else none
 else none
 else none
 else none
 else none
 else none
 else none
 else none
 else none
 else none
 else none
 else none
 else none
 else none
 else none
 else none
 else none
 else none
theorem slices_partitionCmpFunc_2_api_Value_i16_eq (E:Env) (p0:Int) (p1:Int) (p2:Int) (p3:C) (p4:Row):runI E slices_partitionCmpFunc_2_api_Value_i16_a [.r [.int p0], .r [.int p1], .r [.int p2], .r [p3], .r p4]=slices_partitionCmpFunc_2_api_Value_i16 E p0 p1 p2 p3 p4:=by kernel_rfl
def slices_pdqsortCmpFunc_2_api_Value_i4_h0:Shape:={slots:=[(0, .hol 0),(1, .d lI),(2, .d lI),(3, .d lI),(4, .d (.one (.fn 64))),(10, .d lB),(11, .d lB)],objs:=[.hol lA0 (.agg [])],m:=1}
def slices_pdqsortCmpFunc_2_api_Value_i4_o0:List (Exit'×Shape):=[(.ret,{slots:=[],objs:=[.hol lA0 (.agg [])],m:=1})]
def slices_pdqsortCmpFunc_2_api_Value_i4_c0:ACode:=(.join [(.normal,{slots:=[(0, .hol 0),(1, .d lI),(2, .d lI),(3, .d lI),(4, .d (.one (.fn 64))),(10, .d lB),(11, .d lB)],objs:=[.hol lA0 (.agg [])],m:=1}),(.ret,{slots:=[],objs:=[.hol lA0 (.agg [])],m:=1})] (.block 1 (.seq (.region [] [oq 21 (.mov (.t 2)),
 oq 22 (.mov (.t 1)),
 oq 23 (.ibin .sub (.t 21) (.t 22)),
 oq 12 (.mov (.t 23))] false 0)
 (.seq (.seq (.region [] [oq 24 (.mov (.t 12)),
 oq 25 (.icmp .leq (.t 24) (.c lI [.int 12]))] false 0)
 (.cond (.t 25) (.seq (.region [] [oq 26 (.mov (.t 0)),
 oq 27 (.mov (.t 1)),
 oq 28 (.mov (.t 2)),
 oq 29 (.mov (.t 4)),
 oq 30 (.icall 155 58 (slices_insertionSortCmpFunc_2_api_Value_i5_en) (slices_insertionSortCmpFunc_2_api_Value_i5_ex) [0] 0 none [(.t 26),(.t 27),(.t 28),(.t 29)])] false 0)
 .ret)
 .skip))
 (.seq (.seq (.region [] [oq 31 (.mov (.t 3)),
 oq 32 (.icmp .eql (.t 31) (.c lI [.int 0]))] false 0)
 (.cond (.t 32) (.seq (.region [] [oq 33 (.mov (.t 0)),
 oq 34 (.mov (.t 1)),
 oq 35 (.mov (.t 2)),
 oq 36 (.mov (.t 4)),
 oq 37 (.icall 156 59 (slices_heapSortCmpFunc_2_api_Value_i6_en) (slices_heapSortCmpFunc_2_api_Value_i6_ex) [0] 0 none [(.t 33),(.t 34),(.t 35),(.t 36)])] false 0)
 .ret)
 .skip))
 (.seq (.seq (.region [] [oq 38 (.mov (.t 10)),
 oq 39 (.not (.t 38))] false 0)
 (.join [(.normal,{slots:=[(0, .hol 0),(1, .d lI),(2, .d lI),(3, .d lI),(4, .d (.one (.fn 64))),(10, .d lB),(11, .d lB),(12, .d lI)],objs:=[.hol lA0 (.agg [])],m:=1})] (.cond (.t 39) (.seq (.region [] [oq 40 (.mov (.t 0)),
 oq 41 (.mov (.t 1)),
 oq 42 (.mov (.t 2)),
 oq 43 (.mov (.t 4)),
 oq 44 (.icall 158 60 (slices_breakPatternsCmpFunc_2_api_Value_i8_en) (slices_breakPatternsCmpFunc_2_api_Value_i8_ex) [0] 0 none [(.t 40),(.t 41),(.t 42),(.t 43)])] false 0)
 (.region [] [oq 45 (.mov (.t 3)),
 oq 46 (.ibin .sub (.t 45) (.c lI [.int 1])),
 oq 3 (.mov (.t 46))] false 0))
 .skip)))
 (.seq (.region [] [oq 48 (.mov (.t 0)),
 oq 49 (.mov (.t 1)),
 oq 50 (.mov (.t 2)),
 oq 51 (.mov (.t 4)),
 oq 52 (.icall 160 61 (slices_choosePivotCmpFunc_2_api_Value_i10_en) (slices_choosePivotCmpFunc_2_api_Value_i10_ex) [0] 0 none [(.t 48),(.t 49),(.t 50),(.t 51)]),
 oq 47 (.mov (.t 52)),
 oq 53 (.ext 0 (.t 47)),
 oq 54 (.ext 1 (.t 47)),
 oq 13 (.mov (.t 53)),
 oq 14 (.mov (.t 54))] false 0)
 (.seq (.seq (.region [] [oq 55 (.mov (.t 14)),
 oq 56 (.icmp .eql (.t 55) (.c lI [.int 2]))] false 0)
 (.join [(.normal,{slots:=[(0, .hol 0),(1, .d lI),(2, .d lI),(3, .d lI),(4, .d (.one (.fn 64))),(10, .d lB),(11, .d lB),(12, .d lI),(13, .d lI),(14, .d lI)],objs:=[.hol lA0 (.agg [])],m:=1})] (.cond (.t 56) (.seq (.region [] [oq 57 (.mov (.t 0)),
 oq 58 (.mov (.t 1)),
 oq 59 (.mov (.t 2)),
 oq 60 (.mov (.t 4)),
 oq 61 (.icall 163 62 (slices_reverseRangeCmpFunc_2_api_Value_i13_en) (slices_reverseRangeCmpFunc_2_api_Value_i13_ex) [0] 0 none [(.t 57),(.t 58),(.t 59),(.t 60)])] false 0)
 (.seq (.region [] [oq 62 (.mov (.t 2)),
 oq 63 (.ibin .sub (.t 62) (.c lI [.int 1])),
 oq 64 (.mov (.t 13)),
 oq 65 (.mov (.t 1)),
 oq 66 (.ibin .sub (.t 64) (.t 65)),
 oq 67 (.ibin .sub (.t 63) (.t 66)),
 oq 13 (.mov (.t 67))] false 0)
 (.region [] [oq 14 (.mov (.c lI [.int 1]))] false 0)))
 .skip)))
 (.seq (.seq (.join [(.normal,{slots:=[(0, .hol 0),(1, .d lI),(2, .d lI),(3, .d lI),(4, .d (.one (.fn 64))),(10, .d lB),(11, .d lB),(12, .d lI),(13, .d lI),(75, .d lB)],objs:=[.hol lA0 (.agg [])],m:=1})] (.region [] [oq 68 (.mov (.t 10)),
 oq 69 (.mov (.t 68)),
 ⟨some 70, .mov (.t 11),some (69,true),[]⟩,
 oq 71 (.pick (.t 69) (.t 70) (.c lB [.bool false])),
 oq 72 (.mov (.t 71)),
 ⟨some 73, .mov (.t 14),some (72,true),[]⟩,
 ⟨some 74, .icmp .eql (.t 73) (.c lI [.int 1]),some (72,true),[]⟩,
 oq 75 (.pick (.t 72) (.t 74) (.c lB [.bool false]))] false 0))
 (.join [(.normal,{slots:=[(0, .hol 0),(1, .d lI),(2, .d lI),(3, .d lI),(4, .d (.one (.fn 64))),(10, .d lB),(11, .d lB),(12, .d lI),(13, .d lI)],objs:=[.hol lA0 (.agg [])],m:=1}),(.ret,{slots:=[],objs:=[.hol lA0 (.agg [])],m:=1})] (.cond (.t 75) (.seq (.region [] [oq 76 (.mov (.t 0)),
 oq 77 (.mov (.t 1)),
 oq 78 (.mov (.t 2)),
 oq 79 (.mov (.t 4)),
 oq 80 (.icall 164 63 (slices_partialInsertionSortCmpFunc_2_api_Value_i14_en) (slices_partialInsertionSortCmpFunc_2_api_Value_i14_ex) [0] 0 none [(.t 76),(.t 77),(.t 78),(.t 79)])] false 0)
 (.cond (.t 80) .ret
 .skip))
 .skip)))
 (.seq (.seq (.join [(.normal,{slots:=[(0, .hol 0),(1, .d lI),(2, .d lI),(3, .d lI),(4, .d (.one (.fn 64))),(10, .d lB),(11, .d lB),(12, .d lI),(13, .d lI),(97, .d lB)],objs:=[.hol lA0 (.agg [])],m:=1})] (.region [] [oq 81 (.mov (.t 1)),
 ⟨some 82, .icmp .gtr (.t 81) (.c lI [.int 0]),none,[0]⟩,
 ⟨some 83, .mov (.t 82),none,[0,1]⟩,
 ⟨some 84, .mov (.t 4),some (83,true),[0,1,2]⟩,
 ⟨some 85, .mov (.t 0),some (83,true),[0,1,2]⟩,
 ⟨some 86, .mov (.t 1),some (83,true),[0,1,2]⟩,
 ⟨some 87, .ibin .sub (.t 86) (.c lI [.int 1]),some (83,true),[0,1,2,5]⟩,
 ⟨some 88, .iad 40 lA0 (.t 85) (.t 87),some (83,true),[0,1,2,4,5,6]⟩,
 ⟨some 89, .ldH false lA0 (.t 88),some (83,true),[0,1,2,4,5,6,7]⟩,
 ⟨some 90, .mov (.t 0),some (83,true),[0,1,2]⟩,
 ⟨some 91, .mov (.t 13),some (83,true),[0,1,2]⟩,
 ⟨some 92, .iad 40 lA0 (.t 90) (.t 91),some (83,true),[0,1,2,9,10]⟩,
 ⟨some 93, .ldH false lA0 (.t 92),some (83,true),[0,1,2,9,10,11]⟩,
 ⟨some 94, .callv 64 [lA0,lA0] [lI] (.t 84) [(.t 89),(.t 93)],some (83,true),[0,1,2,3,4,5,6,7,8,9,10,11,12]⟩,
 ⟨some 95, .icmp .lss (.t 94) (.c lI [.int 0]),some (83,true),[0,1,2,3,4,5,6,7,8,9,10,11,12,13]⟩,
 ⟨some 96, .not (.t 95),some (83,true),[0,1,2,3,4,5,6,7,8,9,10,11,12,13,14]⟩,
 ⟨some 97, .pick (.t 83) (.t 96) (.c lB [.bool false]),none,[0,1,2,3,4,5,6,7,8,9,10,11,12,13,14,15]⟩] true 0))
 (.cond (.t 97) (.seq (.region [] [oq 98 (.mov (.t 0)),
 oq 99 (.mov (.t 1)),
 oq 100 (.mov (.t 2)),
 oq 101 (.mov (.t 13)),
 oq 102 (.mov (.t 4)),
 oq 103 (.icall 165 64 (slices_partitionEqualCmpFunc_2_api_Value_i15_en) (slices_partitionEqualCmpFunc_2_api_Value_i15_ex) [0] 0 none [(.t 98),(.t 99),(.t 100),(.t 101),(.t 102)]),
 oq 15 (.mov (.t 103))] false 0)
 (.seq (.region [] [oq 104 (.mov (.t 15)),
 oq 1 (.mov (.t 104))] false 0)
 (.exit 1)))
 .skip))
 (.seq (.region [] [oq 106 (.mov (.t 0)),
 oq 107 (.mov (.t 1)),
 oq 108 (.mov (.t 2)),
 oq 109 (.mov (.t 13)),
 oq 110 (.mov (.t 4)),
 oq 111 (.icall 166 65 (slices_partitionCmpFunc_2_api_Value_i16_en) (slices_partitionCmpFunc_2_api_Value_i16_ex) [0] 0 none [(.t 106),(.t 107),(.t 108),(.t 109),(.t 110)]),
 oq 105 (.mov (.t 111)),
 oq 112 (.ext 0 (.t 105)),
 oq 113 (.ext 1 (.t 105)),
 oq 16 (.mov (.t 112)),
 oq 17 (.mov (.t 113))] false 0)
 (.seq (.region [] [oq 114 (.mov (.t 17)),
 oq 11 (.mov (.t 114))] false 0)
 (.seq (.region [] [oq 115 (.mov (.t 16)),
 oq 116 (.mov (.t 1)),
 oq 117 (.ibin .sub (.t 115) (.t 116)),
 oq 118 (.mov (.t 2)),
 oq 119 (.mov (.t 16)),
 oq 120 (.ibin .sub (.t 118) (.t 119)),
 oq 18 (.mov (.t 117)),
 oq 19 (.mov (.t 120))] false 0)
 (.seq (.region [] [oq 121 (.mov (.t 12)),
 oq 122 (.idiv .quo (.t 121) (.c lI [.int 8])),
 oq 20 (.mov (.t 122))] false 0)
 (.seq (.region [] [oq 123 (.mov (.t 18)),
 oq 124 (.mov (.t 19)),
 oq 125 (.icmp .lss (.t 123) (.t 124))] false 0)
 (.cond (.t 125) (.seq (.region [] [oq 126 (.mov (.t 18)),
 oq 127 (.mov (.t 20)),
 oq 128 (.icmp .geq (.t 126) (.t 127)),
 oq 10 (.mov (.t 128))] false 0)
 (.seq (.region [] [oq 129 (.mov (.t 0)),
 oq 130 (.mov (.t 1)),
 oq 131 (.mov (.t 16)),
 oq 132 (.mov (.t 3)),
 oq 133 (.mov (.t 4)),
 oq 134 (.icall 154 49 (slices_pdqsortCmpFunc_2_api_Value_i4_en) (slices_pdqsortCmpFunc_2_api_Value_i4_ex) [0] 0 none [(.t 129),(.t 130),(.t 131),(.t 132),(.t 133)])] false 0)
 (.region [] [oq 135 (.mov (.t 16)),
 oq 136 (.ibin .add (.t 135) (.c lI [.int 1])),
 oq 1 (.mov (.t 136))] false 0)))
 (.seq (.region [] [oq 137 (.mov (.t 19)),
 oq 138 (.mov (.t 20)),
 oq 139 (.icmp .geq (.t 137) (.t 138)),
 oq 10 (.mov (.t 139))] false 0)
 (.seq (.region [] [oq 140 (.mov (.t 0)),
 oq 141 (.mov (.t 16)),
 oq 142 (.ibin .add (.t 141) (.c lI [.int 1])),
 oq 143 (.mov (.t 2)),
 oq 144 (.mov (.t 3)),
 oq 145 (.mov (.t 4)),
 oq 146 (.icall 154 49 (slices_pdqsortCmpFunc_2_api_Value_i4_en) (slices_pdqsortCmpFunc_2_api_Value_i4_ex) [0] 0 none [(.t 140),(.t 142),(.t 143),(.t 144),(.t 145)])] false 0)
 (.region [] [oq 147 (.mov (.t 16)),
 oq 2 (.mov (.t 147))] false 0)))))))))))))))))))
noncomputable def slices_pdqsortCmpFunc_2_api_Value_i4_l0 (E:Env) (v0:Int) (v1:Int) (v2:Int) (v3:C) (v4:Bool) (v5:Bool) (v6:Row):Option (Nat×List PV):=E.fix (stepOf E slices_pdqsortCmpFunc_2_api_Value_i4_c0 slices_pdqsortCmpFunc_2_api_Value_i4_h0 slices_pdqsortCmpFunc_2_api_Value_i4_o0) [.r [.int v0], .r [.int v1], .r [.int v2], .r [v3], .r [.bool v4], .r [.bool v5], .r v6]
noncomputable def slices_pdqsortCmpFunc_2_api_Value_i4_b0 (E:Env) (X:Int→Int→Int→C→Bool→Bool→Row→Option (Nat×List PV)) (v0:Int) (v1:Int) (v2:Int) (v3:C) (v4:Bool) (v5:Bool) (v6:Row):Option (Nat×List PV):=
 (if (decide ((Go.IntKind.i64.wrap (v1 - v0))≤12))=true then
  (E.ic slices_insertionSortCmpFunc_2_api_Value_i5_n [.r [.int v0], .r [.int v1], .r [v3], .r [at_ v6 0, .int ((((at_ v6 1).toI).toNat:Nat):Int)]]).bind fun y1=>
   some (1,[.r [gC 0 y1, .int ((((at_ (gR 0 y1) 1).toI).toNat:Nat):Int)]])
 else
  if (v2==0)=true then
   (E.ic slices_heapSortCmpFunc_2_api_Value_i6_n [.r [.int v0], .r [.int v1], .r [v3], .r [at_ v6 0, .int ((((at_ v6 1).toI).toNat:Nat):Int)]]).bind fun y2=>
    some (1,[.r [gC 0 y2, .int ((((at_ (gR 0 y2) 1).toI).toNat:Nat):Int)]])
  else
   (if (!v4)=true then
    (E.ic slices_breakPatternsCmpFunc_2_api_Value_i8_n [.r [.int v0], .r [.int v1], .r [v3], .r [at_ v6 0, .int ((((at_ v6 1).toI).toNat:Nat):Int)]]).bind fun y3=>
     some (0,[.r [.int v0], .r [.int v1], .r [.int (Go.IntKind.i64.wrap (v2 - 1))], .r [v3], .r [.bool v4], .r [.bool v5], .r [.int (Go.IntKind.i64.wrap (v1 - v0))], .r [gC 0 y3, .int ((((at_ (gR 0 y3) 1).toI).toNat:Nat):Int)]])
   else
    some (0,[.r [.int v0], .r [.int v1], .r [.int v2], .r [v3], .r [.bool v4], .r [.bool v5], .r [.int (Go.IntKind.i64.wrap (v1 - v0))], .r [at_ v6 0, .int ((((at_ v6 1).toI).toNat:Nat):Int)]])).bind fun x4=>
    (E.ic slices_choosePivotCmpFunc_2_api_Value_i10_n [.r [.int (gI 0 x4.2)], .r [.int (gI 1 x4.2)], .r [gC 3 x4.2], .r [gC 7 x4.2, .int ((((at_ (gR 7 x4.2) 1).toI).toNat:Nat):Int)]]).bind fun y5=>
     (if ((gI 1 y5)==2)=true then
      (E.ic slices_reverseRangeCmpFunc_2_api_Value_i13_n [.r [.int (gI 0 x4.2)], .r [.int (gI 1 x4.2)], .r [gC 3 x4.2], .r [gC 2 y5, .int ((((at_ (gR 2 y5) 1).toI).toNat:Nat):Int)]]).bind fun y6=>
       some (0,[.r [.int (gI 0 x4.2)], .r [.int (gI 1 x4.2)], .r [.int (gI 2 x4.2)], .r [gC 3 x4.2], .r [.bool (gB 4 x4.2)], .r [.bool (gB 5 x4.2)], .r [.int (gI 6 x4.2)], .r [.int (Go.IntKind.i64.wrap ((Go.IntKind.i64.wrap ((gI 1 x4.2) - 1)) - (Go.IntKind.i64.wrap ((gI 0 y5) - (gI 0 x4.2)))))], .r [.int 1], .r [gC 0 y6, .int ((((at_ (gR 0 y6) 1).toI).toNat:Nat):Int)]])
     else
      some (0,[.r [.int (gI 0 x4.2)], .r [.int (gI 1 x4.2)], .r [.int (gI 2 x4.2)], .r [gC 3 x4.2], .r [.bool (gB 4 x4.2)], .r [.bool (gB 5 x4.2)], .r [.int (gI 6 x4.2)], .r [.int (gI 0 y5)], .r [.int (gI 1 y5)], .r [gC 2 y5, .int ((((at_ (gR 2 y5) 1).toI).toNat:Nat):Int)]])).bind fun x7=>
      (let K8:Bool→Option (Nat×List PV):=fun q9=>
       let K10:Bool→Option (Nat×List PV):=fun q11=>
        some (0,[.r [.int (gI 0 x7.2)], .r [.int (gI 1 x7.2)], .r [.int (gI 2 x7.2)], .r [gC 3 x7.2], .r [.bool (gB 4 x7.2)], .r [.bool (gB 5 x7.2)], .r [.int (gI 6 x7.2)], .r [.int (gI 7 x7.2)], .r [.bool q11], .r [gC 9 x7.2, .int ((((at_ (gR 9 x7.2) 1).toI).toNat:Nat):Int)]])
       if q9=true then
        K10 ((gI 8 x7.2)==1)
       else
        K10 false
      if (gB 4 x7.2)=true then
       K8 (gB 5 x7.2)
      else
       K8 false).bind fun x12=>
       (if (gB 8 x12.2)=true then
        (E.ic slices_partialInsertionSortCmpFunc_2_api_Value_i14_n [.r [.int (gI 0 x12.2)], .r [.int (gI 1 x12.2)], .r [gC 3 x12.2], .r [gC 9 x12.2, .int ((((at_ (gR 9 x12.2) 1).toI).toNat:Nat):Int)]]).bind fun y13=>
         if (gB 0 y13)=true then
          some (1,[.r [gC 1 y13, .int ((((at_ (gR 1 y13) 1).toI).toNat:Nat):Int)]])
         else
          some (0,[.r [.int (gI 0 x12.2)], .r [.int (gI 1 x12.2)], .r [.int (gI 2 x12.2)], .r [gC 3 x12.2], .r [.bool (gB 4 x12.2)], .r [.bool (gB 5 x12.2)], .r [.int (gI 6 x12.2)], .r [.int (gI 7 x12.2)], .r [gC 1 y13, .int ((((at_ (gR 1 y13) 1).toI).toNat:Nat):Int)]])
       else
        some (0,[.r [.int (gI 0 x12.2)], .r [.int (gI 1 x12.2)], .r [.int (gI 2 x12.2)], .r [gC 3 x12.2], .r [.bool (gB 4 x12.2)], .r [.bool (gB 5 x12.2)], .r [.int (gI 6 x12.2)], .r [.int (gI 7 x12.2)], .r [gC 9 x12.2, .int ((((at_ (gR 9 x12.2) 1).toI).toNat:Nat):Int)]])).bind fun x14=>
        match x14.1 with
        |0=>
         (let K16:Bool→Option (Nat×List PV):=fun q17=>
          some (0,[.r [.int (gI 0 x14.2)], .r [.int (gI 1 x14.2)], .r [.int (gI 2 x14.2)], .r [gC 3 x14.2], .r [.bool (gB 4 x14.2)], .r [.bool (gB 5 x14.2)], .r [.int (gI 6 x14.2)], .r [.int (gI 7 x14.2)], .r [.bool q17], .r [gC 8 x14.2, .int ((((at_ (gR 8 x14.2) 1).toI).toNat:Nat):Int)]])
         if (decide ((gI 0 x14.2)>0))=true then
          if (0:Int)≤(Go.IntKind.i64.wrap ((gI 0 x14.2) - 1))∧(Go.IntKind.i64.wrap ((gI 0 x14.2) - 1))<(((gC 8 x14.2).rows).length:Int)then
           if ((Go.IntKind.i64.wrap ((gI 0 x14.2) - 1)).toNat)<((gC 8 x14.2).rows).length∧((Go.IntKind.i64.wrap ((gI 0 x14.2) - 1)).toNat)≠(((at_ (gR 8 x14.2) 1).toI).toNat)then
            if (0:Int)≤(gI 7 x14.2)∧(gI 7 x14.2)<(((gC 8 x14.2).rows).length:Int)then
             if ((gI 7 x14.2).toNat)<((gC 8 x14.2).rows).length∧((gI 7 x14.2).toNat)≠(((at_ (gR 8 x14.2) 1).toI).toNat)then
              (callC E (gC 3 x14.2) [rowsAt ((gC 8 x14.2).rows) ((Go.IntKind.i64.wrap ((gI 0 x14.2) - 1)).toNat),rowsAt ((gC 8 x14.2).rows) ((gI 7 x14.2).toNat)]).bind fun y18=>
               K16 (!(decide (((at_ (rowsAt y18 0) 0).toI)<0)))
             else none
            else none
           else none
          else none
         else
          K16 false).bind fun x19=>
          if (gB 8 x19.2)=true then
           (E.ic slices_partitionEqualCmpFunc_2_api_Value_i15_n [.r [.int (gI 0 x19.2)], .r [.int (gI 1 x19.2)], .r [.int (gI 7 x19.2)], .r [gC 3 x19.2], .r [gC 9 x19.2, .int ((((at_ (gR 9 x19.2) 1).toI).toNat:Nat):Int)]]).bind fun y20=>
            some (0,[.r [.int (gI 0 y20)], .r [.int (gI 1 x19.2)], .r [.int (gI 2 x19.2)], .r [gC 3 x19.2], .r [.bool (gB 4 x19.2)], .r [.bool (gB 5 x19.2)], .r [gC 1 y20, .int ((((at_ (gR 1 y20) 1).toI).toNat:Nat):Int)]])
          else
           (E.ic slices_partitionCmpFunc_2_api_Value_i16_n [.r [.int (gI 0 x19.2)], .r [.int (gI 1 x19.2)], .r [.int (gI 7 x19.2)], .r [gC 3 x19.2], .r [gC 9 x19.2, .int ((((at_ (gR 9 x19.2) 1).toI).toNat:Nat):Int)]]).bind fun y21=>
            if (decide ((Go.IntKind.i64.wrap ((gI 0 y21) - (gI 0 x19.2)))<(Go.IntKind.i64.wrap ((gI 1 x19.2) - (gI 0 y21)))))=true then
             (E.ic slices_pdqsortCmpFunc_2_api_Value_i4_n [.r [.int (gI 0 x19.2)], .r [.int (gI 0 y21)], .r [.int (gI 2 x19.2)], .r [gC 3 x19.2], .r [gC 2 y21, .int ((((at_ (gR 2 y21) 1).toI).toNat:Nat):Int)]]).bind fun y22=>
              some (0,[.r [.int (Go.IntKind.i64.wrap ((gI 0 y21)+1))], .r [.int (gI 1 x19.2)], .r [.int (gI 2 x19.2)], .r [gC 3 x19.2], .r [.bool (decide ((Go.IntKind.i64.wrap ((gI 0 y21) - (gI 0 x19.2)))≥(Go.IntKind.i64.wrap ((gI 6 x19.2).tdiv 8))))], .r [.bool (gB 1 y21)], .r [gC 0 y22, .int ((((at_ (gR 0 y22) 1).toI).toNat:Nat):Int)]])
            else
             (E.ic slices_pdqsortCmpFunc_2_api_Value_i4_n [.r [.int (Go.IntKind.i64.wrap ((gI 0 y21)+1))], .r [.int (gI 1 x19.2)], .r [.int (gI 2 x19.2)], .r [gC 3 x19.2], .r [gC 2 y21, .int ((((at_ (gR 2 y21) 1).toI).toNat:Nat):Int)]]).bind fun y23=>
              some (0,[.r [.int (gI 0 x19.2)], .r [.int (gI 0 y21)], .r [.int (gI 2 x19.2)], .r [gC 3 x19.2], .r [.bool (decide ((Go.IntKind.i64.wrap ((gI 1 x19.2) - (gI 0 y21)))≥(Go.IntKind.i64.wrap ((gI 6 x19.2).tdiv 8))))], .r [.bool (gB 1 y21)], .r [gC 0 y23, .int ((((at_ (gR 0 y23) 1).toI).toNat:Nat):Int)]])
        |i15+1=>
         some (1,[.r [gC 0 x14.2, .int ((((at_ (gR 0 x14.2) 1).toI).toNat:Nat):Int)]])).bind fun x24=>
  match x24.1 with
  |0=>
   X (gI 0 x24.2) (gI 1 x24.2) (gI 2 x24.2) (gC 3 x24.2) (gB 4 x24.2) (gB 5 x24.2) [gC 6 x24.2, .int ((((at_ (gR 6 x24.2) 1).toI).toNat:Nat):Int)]
  |i25+1=>
   some (0,[.r [gC 0 x24.2, .int ((((at_ (gR 0 x24.2) 1).toI).toNat:Nat):Int)]])
theorem slices_pdqsortCmpFunc_2_api_Value_i4_s0 (E:Env) (X:List PV→Option (Nat×List PV)) (v0:Int) (v1:Int) (v2:Int) (v3:C) (v4:Bool) (v5:Bool) (v6:Row):stepOf E slices_pdqsortCmpFunc_2_api_Value_i4_c0 slices_pdqsortCmpFunc_2_api_Value_i4_h0 slices_pdqsortCmpFunc_2_api_Value_i4_o0 X [.r [.int v0], .r [.int v1], .r [.int v2], .r [v3], .r [.bool v4], .r [.bool v5], .r v6]=slices_pdqsortCmpFunc_2_api_Value_i4_b0 E (fun (v0:Int) (v1:Int) (v2:Int) (v3:C) (v4:Bool) (v5:Bool) (v6:Row)=>X [.r [.int v0], .r [.int v1], .r [.int v2], .r [v3], .r [.bool v4], .r [.bool v5], .r v6]) v0 v1 v2 v3 v4 v5 v6:=by kernel_rfl
def slices_pdqsortCmpFunc_2_api_Value_i4_a:AImp:={fn:=49,entry:=slices_pdqsortCmpFunc_2_api_Value_i4_en,res:=[],exit:=slices_pdqsortCmpFunc_2_api_Value_i4_ex,body:=(.seq (.region [] [oq 10 (.mov (.c lB [.bool true]))] false 0)
 (.seq (.region [] [oq 11 (.mov (.c lB [.bool true]))] false 0)
 (.block 0 (.loop slices_pdqsortCmpFunc_2_api_Value_i4_h0 slices_pdqsortCmpFunc_2_api_Value_i4_o0 slices_pdqsortCmpFunc_2_api_Value_i4_c0))))}
noncomputable def slices_pdqsortCmpFunc_2_api_Value_i4 (E:Env) (p0:Int) (p1:Int) (p2:Int) (p3:C) (p4:Row):Option (List PV):=
 (slices_pdqsortCmpFunc_2_api_Value_i4_l0 E p0 p1 p2 p3 true true [at_ p4 0, .int ((((at_ p4 1).toI).toNat:Nat):Int)]).bind fun x26=>
 some [.r [gC 0 x26.2, .int ((((at_ (gR 0 x26.2) 1).toI).toNat:Nat):Int)]]
theorem slices_pdqsortCmpFunc_2_api_Value_i4_eq (E:Env) (p0:Int) (p1:Int) (p2:Int) (p3:C) (p4:Row):runI E slices_pdqsortCmpFunc_2_api_Value_i4_a [.r [.int p0], .r [.int p1], .r [.int p2], .r [p3], .r p4]=slices_pdqsortCmpFunc_2_api_Value_i4 E p0 p1 p2 p3 p4:=by kernel_rfl
def slices_SortFunc_2_api_Value_i3_a:AImp:={fn:=33,entry:=slices_SortFunc_2_api_Value_i3_en,res:=[],exit:=slices_SortFunc_2_api_Value_i3_ex,body:=(.seq (.region [] [oq 5 (.mov (.t 0)),
 oq 6 (.lenL (.t 5)),
 oq 4 (.mov (.t 6))] false 0)
 (.region [] [oq 7 (.mov (.t 0)),
 oq 8 (.mov (.t 4)),
 oq 9 (.mov (.t 4)),
 oq 10 (.i2i .u64 (.t 9)),
 oq 11 (.call 50 [lW] [lI] [(.t 10)]),
 oq 12 (.mov (.t 1)),
 oq 13 (.icall 154 49 (slices_pdqsortCmpFunc_2_api_Value_i4_en) (slices_pdqsortCmpFunc_2_api_Value_i4_ex) [0] 0 none [(.t 7),(.c lI [.int 0]),(.t 8),(.t 11),(.t 12)])] false 0))}
noncomputable def slices_SortFunc_2_api_Value_i3 (E:Env) (p0:C) (p1:Row):Option (List PV):=
 (E.pc n_math_bits_Len [[.int (Go.IntKind.u64.wrap (((at_ p1 0).rows).length:Int))]]).bind fun y1=>
 (E.ic slices_pdqsortCmpFunc_2_api_Value_i4_n [.r [.int 0], .r [.int (((at_ p1 0).rows).length:Int)], .r [.int ((at_ (rowsAt y1 0) 0).toI)], .r [p0], .r [at_ p1 0, .int ((((at_ p1 1).toI).toNat:Nat):Int)]]).bind fun y2=>
 some [.r [gC 0 y2, .int ((((at_ (gR 0 y2) 1).toI).toNat:Nat):Int)]]
theorem slices_SortFunc_2_api_Value_i3_eq (E:Env) (p0:C) (p1:Row):runI E slices_SortFunc_2_api_Value_i3_a [.r [p0], .r p1]=slices_SortFunc_2_api_Value_i3 E p0 p1:=by kernel_rfl
def dict_sorted_h0:Shape:={slots:=[(3, .whole 0),(6, .d (.one (.sl 40))),(7, .d lI),(8, .d lI)],objs:=[.arr lA0]}
def dict_sorted_o0:List (Exit'×Shape):=[(.exit 0,{slots:=[(3, .whole 0)],objs:=[.arr lA0]})]
def dict_sorted_c0:ACode:=(.seq (.region [] [oq 9 (.icmp .lss (.t 8) (.t 7))] false 0)
 (.seq (.cond (.t 9) .skip
 (.exit 0))
 (.seq (.block 1 (.seq (.region [] [oq 10 (.iad 40 lA0 (.t 6) (.t 8)),
 oq 11 (.ld lA0 40 (.t 10)),
 oq 5 (.allocA 0 [some ((.int .i64), .int 0),some ((.int .i64), .int 0),some ((.str), .str []),some ((.sl 74), .nils),some ((.int .i64), .int 0),some ((.int .i64), .int 0),some ((.str), .str []),some ((.sl 74), .nils)]),
 ⟨none, .stA 8 (.t 5) (.t 11),none,[]⟩] false 1)
 (.region [] [oq 12 (.mov (.t 3)),
 oq 13 (.iadA 2 40 33 lA2 (.t 5) (.c lI [.int 0])),
 ⟨some 14, .ldA 4 (.t 13),none,[1]⟩,
 ⟨some 15, .icall 152 27 (value_Copy_i2_en) (value_Copy_i2_ex) [] 0 none [(.t 14)],none,[1,2]⟩,
 oq 16 (.iadA 2 40 33 lA2 (.t 5) (.c lI [.int 1])),
 ⟨some 17, .ldA 4 (.t 16),none,[4]⟩,
 ⟨some 18, .icall 152 27 (value_Copy_i2_en) (value_Copy_i2_ex) [] 0 none [(.t 17)],none,[1,2,3,4,5]⟩,
 ⟨some 19, .bld lA0 [.int 0, .int 0, .str [], .nils, .int 0, .int 0, .str [], .nils] [(0,4,(.t 15)),(4,4,(.t 18))],none,[1,2,3,4,5,6]⟩,
 ⟨some 20, .bsl 40 lA0 1 [.int 0, .int 0, .str [], .nils, .int 0, .int 0, .str [], .nils] [(0,(.t 19))],none,[1,2,3,4,5,6,7]⟩,
 ⟨some 21, .app 0 40 lA0 112 (.t 12) (.t 20),none,[0,1,2,3,4,5,6,7,8]⟩,
 ⟨some 3, .mov (.t 21),none,[0,1,2,3,4,5,6,7,8,9]⟩] true 1)))
 (.region [] [oq 22 (.ibin .add (.t 8) (.c lI [.int 1])),
 oq 8 (.mov (.t 22))] false 0))))
noncomputable def dict_sorted_l0 (E:Env) (v0:C) (v1:Int) (v2:Int) (v3:C):Option (Nat×List PV):=E.fix (stepOf E dict_sorted_c0 dict_sorted_h0 dict_sorted_o0) [.r [v0], .r [.int v1], .r [.int v2], .r [v3]]
noncomputable def dict_sorted_b0 (E:Env) (X:C→Int→Int→C→Option (Nat×List PV)) (v0:C) (v1:Int) (v2:Int) (v3:C):Option (Nat×List PV):=
 if (decide (v2<v1))=true then
 if (0:Int)≤v2∧v2<(v0.rows.length:Int)then
 (E.ic value_Copy_i2_n [.r [.int ((at_ (rowsAt v0.rows v2.toNat) 0).toI)], .r [.int ((at_ (rowsAt v0.rows v2.toNat) 1).toI)], .r [.str ((at_ (rowsAt v0.rows v2.toNat) 2).toS)], .r [at_ (rowsAt v0.rows v2.toNat) 3]]).bind fun y1=>
 (E.ic value_Copy_i2_n [.r [.int ((at_ (rowsAt v0.rows v2.toNat) 4).toI)], .r [.int ((at_ (rowsAt v0.rows v2.toNat) 5).toI)], .r [.str ((at_ (rowsAt v0.rows v2.toNat) 6).toS)], .r [at_ (rowsAt v0.rows v2.toNat) 7]]).bind fun y2=>
 if (v3.rows.length+([[gC 0 y1,at_ (gR 0 y1) 1,at_ (gR 0 y1) 2,at_ (gR 0 y1) 3,gC 0 y2,at_ (gR 0 y2) 1,at_ (gR 0 y2) 2,at_ (gR 0 y2) 3]]:List Row).length)*112≤140737488355328 then
 X v0 v1 (Go.IntKind.i64.wrap (v2+1)) (appC v3 ([[gC 0 y1,at_ (gR 0 y1) 1,at_ (gR 0 y1) 2,at_ (gR 0 y1) 3,gC 0 y2,at_ (gR 0 y2) 1,at_ (gR 0 y2) 2,at_ (gR 0 y2) 3]]:List Row))
 else none
 else none
 else
 some (0,[.r [v3]])
theorem dict_sorted_s0 (E:Env) (X:List PV→Option (Nat×List PV)) (v0:C) (v1:Int) (v2:Int) (v3:C):stepOf E dict_sorted_c0 dict_sorted_h0 dict_sorted_o0 X [.r [v0], .r [.int v1], .r [.int v2], .r [v3]]=dict_sorted_b0 E (fun (v0:C) (v1:Int) (v2:Int) (v3:C)=>X [.r [v0], .r [.int v1], .r [.int v2], .r [v3]]) v0 v1 v2 v3:=by kernel_rfl
def dict_sorted_a:AFun:={ps:=[(.one (.sl 40))],rs:=[(.one (.sl 40))],res:=[(false,2,(some lA0))],body:=(.seq (.region [] [oq 2 (.mov (.c (.one (.sl 40)) [.nils]))] false 0)
 (.seq (.region [] [oq 3 (.nilO 0 lA0)] false 1)
 (.seq (.seq (.region [] [oq 6 (.mov (.t 0)),
 oq 7 (.lenL (.t 6)),
 oq 8 (.mov (.c lI [.int 0]))] false 0)
 (.block 0 (.loop dict_sorted_h0 dict_sorted_o0 dict_sorted_c0)))
 (.seq (.ghost (.opnH 3 lA0) (.post (.clsF 3) (.region [] [oq 23 (.mov (.t 3)),
 oq 24 (.icall 153 33 (slices_SortFunc_2_api_Value_i3_en) (slices_SortFunc_2_api_Value_i3_ex) [1] 0 none [(.t 23),(.c (.one (.fn 64)) [.fn n_dict_sorted_1 []])])] false 0)))
 (.seq (.region [] [oq 25 (.mov (.t 3)),
 oq 2 (.mov (.t 25))] false 0)
 .ret)))))}
noncomputable def dict_sorted (E:Env) (p0:C):Option (List Row):=
 (dict_sorted_l0 E p0 (p0.rows.length:Int) 0 .nils).bind fun x3=>
 (E.ic slices_SortFunc_2_api_Value_i3_n [.r [.fn n_dict_sorted_1 []], .r [gC 0 x3.2, .int ((((gC 0 x3.2).rows).length:Nat):Int)]]).bind fun y4=>
 if ((gC 0 y4).rows).length≤(((at_ (gR 0 y4) 1).toI).toNat)then
 some [[gC 0 y4]]
 else none
theorem dict_sorted_eq (E:Env) (p0:C):runP E dict_sorted_a [[p0]]=dict_sorted E p0:=by kernel_rfl
def dict_Sort_a:AFun:={ps:=[(.one (.sl 40))],rs:=[(.one (.sl 40)),lI],res:=[(false,2,(some lA0)),(false,3,none)],body:=(.seq (.region [] [oq 2 (.mov (.c (.one (.sl 40)) [.nils])),
 oq 3 (.mov (.c lI [.int 0]))] false 0)
 (.seq (.seq (.region [] [oq 5 (.mov (.t 0)),
 oq 6 (.call 17 [(.one (.sl 40))] [lI] [(.t 5)]),
 oq 4 (.mov (.t 6))] false 0)
 (.seq (.region [] [oq 7 (.mov (.t 4)),
 oq 8 (.icmp .neq (.t 7) (.c lI [.int 0]))] false 0)
 (.cond (.t 8) (.seq (.region [] [oq 9 (.mov (.t 4)),
 oq 2 (.mov (.c (.one (.sl 40)) [.nils])),
 oq 3 (.mov (.t 9))] false 0)
 .ret)
 .skip)))
 (.seq (.region [] [oq 10 (.mov (.t 0)),
 oq 11 (.call 19 [(.one (.sl 40))] [(.one (.sl 40))] [(.t 10)]),
 oq 2 (.mov (.t 11)),
 oq 3 (.mov (.c lI [.int 0]))] false 0)
 .ret)))}
end Go.Ev
