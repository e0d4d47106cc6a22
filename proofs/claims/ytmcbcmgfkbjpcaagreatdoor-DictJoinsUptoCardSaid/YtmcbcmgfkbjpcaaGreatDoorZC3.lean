/-
  A part of the proof: what the functions of the program compute.
-/
import Derived.Test.YtmcbcmgfkbjpcaaGreatDoorZNum
set_option linter.all false
set_option maxRecDepth 100000
namespace Go.Ev
def slices_siftDownCmpFunc_2_api_Value_i7_h0:Shape:={slots:=[(0, .hol 0),(2, .d lI),(3, .d lI),(4, .d (.one (.fn 64))),(10, .d lI)],objs:=[.hol lA0 (.agg [])],m:=1}
def slices_siftDownCmpFunc_2_api_Value_i7_o0:List (Exit'×Shape):=[(.exit 0,{slots:=[],objs:=[.hol lA0 (.agg [])],m:=1}),(.ret,{slots:=[],objs:=[.hol lA0 (.agg [])],m:=1})]
def slices_siftDownCmpFunc_2_api_Value_i7_c0:ACode:=(.block 1 (.seq (.region [] [oq 13 (.mov (.t 10)),
 oq 14 (.ibin .mul (.c lI [.int 2]) (.t 13)),
 oq 15 (.ibin .add (.t 14) (.c lI [.int 1])),
 oq 11 (.mov (.t 15))] false 0)
 (.seq (.seq (.region [] [oq 16 (.mov (.t 11)),
 oq 17 (.mov (.t 2)),
 oq 18 (.icmp .geq (.t 16) (.t 17))] false 0)
 (.cond (.t 18) (.exit 0)
 .skip))
 (.seq (.seq (.join [(.normal,{slots:=[(0, .hol 0),(2, .d lI),(3, .d lI),(4, .d (.one (.fn 64))),(10, .d lI),(11, .d lI),(40, .d lB)],objs:=[.hol lA0 (.agg [])],m:=1})] (.region [] [oq 19 (.mov (.t 11)),
 ⟨some 20, .ibin .add (.t 19) (.c lI [.int 1]),none,[0]⟩,
 oq 21 (.mov (.t 2)),
 ⟨some 22, .icmp .lss (.t 20) (.t 21),none,[0,1,2]⟩,
 ⟨some 23, .mov (.t 22),none,[0,1,2,3]⟩,
 ⟨some 24, .mov (.t 4),some (23,true),[0,1,2,3,4]⟩,
 ⟨some 25, .mov (.t 0),some (23,true),[0,1,2,3,4]⟩,
 ⟨some 26, .mov (.t 3),some (23,true),[0,1,2,3,4]⟩,
 ⟨some 27, .mov (.t 11),some (23,true),[0,1,2,3,4]⟩,
 ⟨some 28, .ibin .add (.t 26) (.t 27),some (23,true),[0,1,2,3,4,7,8]⟩,
 ⟨some 29, .iad 40 lA0 (.t 25) (.t 28),some (23,true),[0,1,2,3,4,6,7,8,9]⟩,
 ⟨some 30, .ldH false lA0 (.t 29),some (23,true),[0,1,2,3,4,6,7,8,9,10]⟩,
 ⟨some 31, .mov (.t 0),some (23,true),[0,1,2,3,4]⟩,
 ⟨some 32, .mov (.t 3),some (23,true),[0,1,2,3,4]⟩,
 ⟨some 33, .mov (.t 11),some (23,true),[0,1,2,3,4]⟩,
 ⟨some 34, .ibin .add (.t 32) (.t 33),some (23,true),[0,1,2,3,4,13,14]⟩,
 ⟨some 35, .ibin .add (.t 34) (.c lI [.int 1]),some (23,true),[0,1,2,3,4,13,14,15]⟩,
 ⟨some 36, .iad 40 lA0 (.t 31) (.t 35),some (23,true),[0,1,2,3,4,12,13,14,15,16]⟩,
 ⟨some 37, .ldH false lA0 (.t 36),some (23,true),[0,1,2,3,4,12,13,14,15,16,17]⟩,
 ⟨some 38, .callv 64 [lA0,lA0] [lI] (.t 24) [(.t 30),(.t 37)],some (23,true),[0,1,2,3,4,5,6,7,8,9,10,11,12,13,14,15,16,17,18]⟩,
 ⟨some 39, .icmp .lss (.t 38) (.c lI [.int 0]),some (23,true),[0,1,2,3,4,5,6,7,8,9,10,11,12,13,14,15,16,17,18,19]⟩,
 ⟨some 40, .pick (.t 23) (.t 39) (.c lB [.bool false]),none,[0,1,2,3,4,5,6,7,8,9,10,11,12,13,14,15,16,17,18,19,20]⟩] true 0))
 (.join [(.normal,{slots:=[(0, .hol 0),(2, .d lI),(3, .d lI),(4, .d (.one (.fn 64))),(10, .d lI),(11, .d lI)],objs:=[.hol lA0 (.agg [])],m:=1})] (.cond (.t 40) (.region [] [oq 41 (.mov (.t 11)),
 oq 42 (.ibin .add (.t 41) (.c lI [.int 1])),
 oq 11 (.mov (.t 42))] false 0)
 .skip)))
 (.seq (.seq (.region [] [oq 43 (.mov (.t 4)),
 oq 44 (.mov (.t 0)),
 oq 45 (.mov (.t 3)),
 oq 46 (.mov (.t 10)),
 ⟨some 47, .ibin .add (.t 45) (.t 46),none,[2,3]⟩,
 ⟨some 48, .iad 40 lA0 (.t 44) (.t 47),none,[1,2,3,4]⟩,
 ⟨some 49, .ldH false lA0 (.t 48),none,[1,2,3,4,5]⟩,
 oq 50 (.mov (.t 0)),
 oq 51 (.mov (.t 3)),
 oq 52 (.mov (.t 11)),
 ⟨some 53, .ibin .add (.t 51) (.t 52),none,[8,9]⟩,
 ⟨some 54, .iad 40 lA0 (.t 50) (.t 53),none,[7,8,9,10]⟩,
 ⟨some 55, .ldH false lA0 (.t 54),none,[7,8,9,10,11]⟩,
 ⟨some 56, .callv 64 [lA0,lA0] [lI] (.t 43) [(.t 49),(.t 55)],none,[0,1,2,3,4,5,6,7,8,9,10,11,12]⟩,
 ⟨some 57, .icmp .lss (.t 56) (.c lI [.int 0]),none,[0,1,2,3,4,5,6,7,8,9,10,11,12,13]⟩,
 ⟨some 58, .not (.t 57),none,[0,1,2,3,4,5,6,7,8,9,10,11,12,13,14]⟩] true 0)
 (.cond (.t 58) .ret
 .skip))
 (.seq (.region [] [oq 59 (.mov (.t 0)),
 oq 60 (.mov (.t 3)),
 oq 61 (.mov (.t 10)),
 ⟨some 62, .ibin .add (.t 60) (.t 61),none,[1,2]⟩,
 oq 63 (.mov (.t 0)),
 oq 64 (.mov (.t 3)),
 oq 65 (.mov (.t 11)),
 ⟨some 66, .ibin .add (.t 64) (.t 65),none,[5,6]⟩,
 oq 67 (.mov (.t 0)),
 oq 68 (.mov (.t 3)),
 oq 69 (.mov (.t 11)),
 ⟨some 70, .ibin .add (.t 68) (.t 69),none,[9,10]⟩,
 ⟨some 71, .iad 40 lA0 (.t 67) (.t 70),none,[8,9,10,11]⟩,
 ⟨some 72, .ldH false lA0 (.t 71),none,[8,9,10,11,12]⟩,
 oq 73 (.mov (.t 0)),
 oq 74 (.mov (.t 3)),
 oq 75 (.mov (.t 10)),
 ⟨some 76, .ibin .add (.t 74) (.t 75),none,[15,16]⟩,
 ⟨some 77, .iad 40 lA0 (.t 73) (.t 76),none,[14,15,16,17]⟩,
 ⟨some 78, .ldH false lA0 (.t 77),none,[14,15,16,17,18]⟩,
 ⟨some 79, .iad 40 lA0 (.t 59) (.t 62),none,[0,1,2,3,8,9,10,11,12,13,14,15,16,17,18,19]⟩,
 ⟨none, .stF lA0 (.t 79) (.t 72),none,[0,1,2,3,8,9,10,11,12,13,14,15,16,17,18,19,20]⟩,
 ⟨some 80, .iad 40 lA0 (.t 63) (.t 66),none,[0,1,2,3,4,5,6,7,8,9,10,11,12,13,14,15,16,17,18,19,20,21]⟩,
 ⟨none, .stF lA0 (.t 80) (.t 78),none,[0,1,2,3,4,5,6,7,8,9,10,11,12,13,14,15,16,17,18,19,20,21,22]⟩] true 0)
 (.region [] [oq 81 (.mov (.t 11)),
 oq 10 (.mov (.t 81))] false 0)))))))
noncomputable def slices_siftDownCmpFunc_2_api_Value_i7_l0 (E:Env) (v0:Int) (v1:Int) (v2:C) (v3:Int) (v4:Row):Option (Nat×List PV):=E.fix (stepOf E slices_siftDownCmpFunc_2_api_Value_i7_c0 slices_siftDownCmpFunc_2_api_Value_i7_h0 slices_siftDownCmpFunc_2_api_Value_i7_o0) [.r [.int v0], .r [.int v1], .r [v2], .r [.int v3], .r v4]
noncomputable def slices_siftDownCmpFunc_2_api_Value_i7_b0 (E:Env) (X:Int→Int→C→Int→Row→Option (Nat×List PV)) (v0:Int) (v1:Int) (v2:C) (v3:Int) (v4:Row):Option (Nat×List PV):=
 if (decide ((Go.IntKind.i64.wrap ((Go.IntKind.i64.wrap (2*v3))+1))≥v0))=true then
 some (0,[.r [at_ v4 0, .int ((((at_ v4 1).toI).toNat:Nat):Int)]])
 else
 (let K1:Bool→Option (Nat×List PV):=fun q2=>
 some (0,[.r [.int v0], .r [.int v1], .r [v2], .r [.int v3], .r [.int (Go.IntKind.i64.wrap ((Go.IntKind.i64.wrap (2*v3))+1))], .r [.bool q2], .r [at_ v4 0, .int ((((at_ v4 1).toI).toNat:Nat):Int)]])
 if (decide ((Go.IntKind.i64.wrap ((Go.IntKind.i64.wrap ((Go.IntKind.i64.wrap (2*v3))+1))+1))<v0))=true then
 if (0:Int)≤(Go.IntKind.i64.wrap (v1+(Go.IntKind.i64.wrap ((Go.IntKind.i64.wrap (2*v3))+1))))∧(Go.IntKind.i64.wrap (v1+(Go.IntKind.i64.wrap ((Go.IntKind.i64.wrap (2*v3))+1))))<(((at_ v4 0).rows).length:Int)then
 if ((Go.IntKind.i64.wrap (v1+(Go.IntKind.i64.wrap ((Go.IntKind.i64.wrap (2*v3))+1)))).toNat)<((at_ v4 0).rows).length∧((Go.IntKind.i64.wrap (v1+(Go.IntKind.i64.wrap ((Go.IntKind.i64.wrap (2*v3))+1)))).toNat)≠(((at_ v4 1).toI).toNat)then
 if (0:Int)≤(Go.IntKind.i64.wrap ((Go.IntKind.i64.wrap (v1+(Go.IntKind.i64.wrap ((Go.IntKind.i64.wrap (2*v3))+1))))+1))∧(Go.IntKind.i64.wrap ((Go.IntKind.i64.wrap (v1+(Go.IntKind.i64.wrap ((Go.IntKind.i64.wrap (2*v3))+1))))+1))<(((at_ v4 0).rows).length:Int)then
 if ((Go.IntKind.i64.wrap ((Go.IntKind.i64.wrap (v1+(Go.IntKind.i64.wrap ((Go.IntKind.i64.wrap (2*v3))+1))))+1)).toNat)<((at_ v4 0).rows).length∧((Go.IntKind.i64.wrap ((Go.IntKind.i64.wrap (v1+(Go.IntKind.i64.wrap ((Go.IntKind.i64.wrap (2*v3))+1))))+1)).toNat)≠(((at_ v4 1).toI).toNat)then
 (callC E v2 [rowsAt ((at_ v4 0).rows) ((Go.IntKind.i64.wrap (v1+(Go.IntKind.i64.wrap ((Go.IntKind.i64.wrap (2*v3))+1)))).toNat),rowsAt ((at_ v4 0).rows) ((Go.IntKind.i64.wrap ((Go.IntKind.i64.wrap (v1+(Go.IntKind.i64.wrap ((Go.IntKind.i64.wrap (2*v3))+1))))+1)).toNat)]).bind fun y3=>
 K1 (decide (((at_ (rowsAt y3 0) 0).toI)<0))
 else none
 else none
 else none
 else none
 else
 K1 false).bind fun x4=>
 (if (gB 5 x4.2)=true then
 some (0,[.r [.int (gI 0 x4.2)], .r [.int (gI 1 x4.2)], .r [gC 2 x4.2], .r [.int (gI 3 x4.2)], .r [.int (Go.IntKind.i64.wrap ((gI 4 x4.2)+1))], .r [gC 6 x4.2, .int ((((at_ (gR 6 x4.2) 1).toI).toNat:Nat):Int)]])
 else
 some (0,[.r [.int (gI 0 x4.2)], .r [.int (gI 1 x4.2)], .r [gC 2 x4.2], .r [.int (gI 3 x4.2)], .r [.int (gI 4 x4.2)], .r [gC 6 x4.2, .int ((((at_ (gR 6 x4.2) 1).toI).toNat:Nat):Int)]])).bind fun x5=>
 if (0:Int)≤(Go.IntKind.i64.wrap ((gI 1 x5.2)+(gI 3 x5.2)))∧(Go.IntKind.i64.wrap ((gI 1 x5.2)+(gI 3 x5.2)))<(((gC 5 x5.2).rows).length:Int)then
 if ((Go.IntKind.i64.wrap ((gI 1 x5.2)+(gI 3 x5.2))).toNat)<((gC 5 x5.2).rows).length∧((Go.IntKind.i64.wrap ((gI 1 x5.2)+(gI 3 x5.2))).toNat)≠(((at_ (gR 5 x5.2) 1).toI).toNat)then
 if (0:Int)≤(Go.IntKind.i64.wrap ((gI 1 x5.2)+(gI 4 x5.2)))∧(Go.IntKind.i64.wrap ((gI 1 x5.2)+(gI 4 x5.2)))<(((gC 5 x5.2).rows).length:Int)then
 if ((Go.IntKind.i64.wrap ((gI 1 x5.2)+(gI 4 x5.2))).toNat)<((gC 5 x5.2).rows).length∧((Go.IntKind.i64.wrap ((gI 1 x5.2)+(gI 4 x5.2))).toNat)≠(((at_ (gR 5 x5.2) 1).toI).toNat)then
 (callC E (gC 2 x5.2) [rowsAt ((gC 5 x5.2).rows) ((Go.IntKind.i64.wrap ((gI 1 x5.2)+(gI 3 x5.2))).toNat),rowsAt ((gC 5 x5.2).rows) ((Go.IntKind.i64.wrap ((gI 1 x5.2)+(gI 4 x5.2))).toNat)]).bind fun y6=>
 if (!(decide (((at_ (rowsAt y6 0) 0).toI)<0)))=true then
 some (1,[.r [gC 5 x5.2, .int ((((at_ (gR 5 x5.2) 1).toI).toNat:Nat):Int)]])
 else
 if (0:Int)≤(Go.IntKind.i64.wrap ((gI 1 x5.2)+(gI 4 x5.2)))∧(Go.IntKind.i64.wrap ((gI 1 x5.2)+(gI 4 x5.2)))<(((gC 5 x5.2).rows).length:Int)then
 if ((Go.IntKind.i64.wrap ((gI 1 x5.2)+(gI 4 x5.2))).toNat)<((gC 5 x5.2).rows).length∧((Go.IntKind.i64.wrap ((gI 1 x5.2)+(gI 4 x5.2))).toNat)≠(((at_ (gR 5 x5.2) 1).toI).toNat)then
 if (0:Int)≤(Go.IntKind.i64.wrap ((gI 1 x5.2)+(gI 3 x5.2)))∧(Go.IntKind.i64.wrap ((gI 1 x5.2)+(gI 3 x5.2)))<(((gC 5 x5.2).rows).length:Int)then
 if ((Go.IntKind.i64.wrap ((gI 1 x5.2)+(gI 3 x5.2))).toNat)<((gC 5 x5.2).rows).length∧((Go.IntKind.i64.wrap ((gI 1 x5.2)+(gI 3 x5.2))).toNat)≠(((at_ (gR 5 x5.2) 1).toI).toNat)then
 if (0:Int)≤(Go.IntKind.i64.wrap ((gI 1 x5.2)+(gI 3 x5.2)))∧(Go.IntKind.i64.wrap ((gI 1 x5.2)+(gI 3 x5.2)))<(((gC 5 x5.2).rows).length:Int)then
 if ((gC 5 x5.2).rows).length≤(((at_ (gR 5 x5.2) 1).toI).toNat)∧((Go.IntKind.i64.wrap ((gI 1 x5.2)+(gI 3 x5.2))).toNat)<((gC 5 x5.2).rows).length then
 if (0:Int)≤(Go.IntKind.i64.wrap ((gI 1 x5.2)+(gI 4 x5.2)))∧(Go.IntKind.i64.wrap ((gI 1 x5.2)+(gI 4 x5.2)))<((((gC 5 x5.2).rows).set ((Go.IntKind.i64.wrap ((gI 1 x5.2)+(gI 3 x5.2))).toNat) (rowsAt ((gC 5 x5.2).rows) ((Go.IntKind.i64.wrap ((gI 1 x5.2)+(gI 4 x5.2))).toNat))).length:Int)then
 if (((gC 5 x5.2).rows).set ((Go.IntKind.i64.wrap ((gI 1 x5.2)+(gI 3 x5.2))).toNat) (rowsAt ((gC 5 x5.2).rows) ((Go.IntKind.i64.wrap ((gI 1 x5.2)+(gI 4 x5.2))).toNat))).length≤(((at_ (gR 5 x5.2) 1).toI).toNat)∧((Go.IntKind.i64.wrap ((gI 1 x5.2)+(gI 4 x5.2))).toNat)<(((gC 5 x5.2).rows).set ((Go.IntKind.i64.wrap ((gI 1 x5.2)+(gI 3 x5.2))).toNat) (rowsAt ((gC 5 x5.2).rows) ((Go.IntKind.i64.wrap ((gI 1 x5.2)+(gI 4 x5.2))).toNat))).length then
 X (gI 0 x5.2) (gI 1 x5.2) (gC 2 x5.2) (gI 4 x5.2) [.sl ((((gC 5 x5.2).rows).set ((Go.IntKind.i64.wrap ((gI 1 x5.2)+(gI 3 x5.2))).toNat) (rowsAt ((gC 5 x5.2).rows) ((Go.IntKind.i64.wrap ((gI 1 x5.2)+(gI 4 x5.2))).toNat))).set ((Go.IntKind.i64.wrap ((gI 1 x5.2)+(gI 4 x5.2))).toNat) (rowsAt ((gC 5 x5.2).rows) ((Go.IntKind.i64.wrap ((gI 1 x5.2)+(gI 3 x5.2))).toNat))), .int ((((at_ (gR 5 x5.2) 1).toI).toNat:Nat):Int)]
 else none
 else none
 else none
 else none
 else none
 else none
 else none
 else none
 else none
 else none
 else none
 else none
theorem slices_siftDownCmpFunc_2_api_Value_i7_s0 (E:Env) (X:List PV→Option (Nat×List PV)) (v0:Int) (v1:Int) (v2:C) (v3:Int) (v4:Row):stepOf E slices_siftDownCmpFunc_2_api_Value_i7_c0 slices_siftDownCmpFunc_2_api_Value_i7_h0 slices_siftDownCmpFunc_2_api_Value_i7_o0 X [.r [.int v0], .r [.int v1], .r [v2], .r [.int v3], .r v4]=slices_siftDownCmpFunc_2_api_Value_i7_b0 E (fun (v0:Int) (v1:Int) (v2:C) (v3:Int) (v4:Row)=>X [.r [.int v0], .r [.int v1], .r [v2], .r [.int v3], .r v4]) v0 v1 v2 v3 v4:=by kernel_rfl
def slices_siftDownCmpFunc_2_api_Value_i7_a:AImp:={fn:=76,entry:=slices_siftDownCmpFunc_2_api_Value_i7_en,res:=[],exit:=slices_siftDownCmpFunc_2_api_Value_i7_ex,body:=(.seq (.region [] [oq 12 (.mov (.t 1)),
 oq 10 (.mov (.t 12))] false 0)
 (.block 0 (.loop slices_siftDownCmpFunc_2_api_Value_i7_h0 slices_siftDownCmpFunc_2_api_Value_i7_o0 slices_siftDownCmpFunc_2_api_Value_i7_c0)))}
noncomputable def slices_siftDownCmpFunc_2_api_Value_i7 (E:Env) (p0:Int) (p1:Int) (p2:Int) (p3:C) (p4:Row):Option (List PV):=
 (slices_siftDownCmpFunc_2_api_Value_i7_l0 E p1 p2 p3 p0 [at_ p4 0, .int ((((at_ p4 1).toI).toNat:Nat):Int)]).bind fun x7=>
 match x7.1 with
 |0=>
 some [.r [gC 0 x7.2, .int ((((at_ (gR 0 x7.2) 1).toI).toNat:Nat):Int)]]
 |i8+1=>
 some [.r [gC 0 x7.2, .int ((((at_ (gR 0 x7.2) 1).toI).toNat:Nat):Int)]]
theorem slices_siftDownCmpFunc_2_api_Value_i7_eq (E:Env) (p0:Int) (p1:Int) (p2:Int) (p3:C) (p4:Row):runI E slices_siftDownCmpFunc_2_api_Value_i7_a [.r [.int p0], .r [.int p1], .r [.int p2], .r [p3], .r p4]=slices_siftDownCmpFunc_2_api_Value_i7 E p0 p1 p2 p3 p4:=by kernel_rfl
def slices_heapSortCmpFunc_2_api_Value_i6_h0:Shape:={slots:=[(0, .hol 0),(3, .d (.one (.fn 64))),(8, .d lI),(9, .d lI),(10, .d lI),(11, .d lI)],objs:=[.hol lA0 (.agg [])],m:=1}
def slices_heapSortCmpFunc_2_api_Value_i6_o0:List (Exit'×Shape):=[(.exit 0,{slots:=[(0, .hol 0),(3, .d (.one (.fn 64))),(8, .d lI),(9, .d lI),(10, .d lI)],objs:=[.hol lA0 (.agg [])],m:=1})]
def slices_heapSortCmpFunc_2_api_Value_i6_c0:ACode:=(.seq (.seq (.region [] [oq 20 (.mov (.t 11)),
 oq 21 (.icmp .geq (.t 20) (.c lI [.int 0]))] false 0)
 (.cond (.t 21) .skip
 (.exit 0)))
 (.seq (.block 1 (.region [] [oq 24 (.mov (.t 0)),
 oq 25 (.mov (.t 11)),
 oq 26 (.mov (.t 10)),
 oq 27 (.mov (.t 8)),
 oq 28 (.mov (.t 3)),
 oq 29 (.icall 157 76 (slices_siftDownCmpFunc_2_api_Value_i7_en) (slices_siftDownCmpFunc_2_api_Value_i7_ex) [0] 0 none [(.t 24),(.t 25),(.t 26),(.t 27),(.t 28)])] false 0))
 (.region [] [oq 22 (.mov (.t 11)),
 oq 23 (.ibin .sub (.t 22) (.c lI [.int 1])),
 oq 11 (.mov (.t 23))] false 0)))
noncomputable def slices_heapSortCmpFunc_2_api_Value_i6_l0 (E:Env) (v0:C) (v1:Int) (v2:Int) (v3:Int) (v4:Int) (v5:Row):Option (Nat×List PV):=E.fix (stepOf E slices_heapSortCmpFunc_2_api_Value_i6_c0 slices_heapSortCmpFunc_2_api_Value_i6_h0 slices_heapSortCmpFunc_2_api_Value_i6_o0) [.r [v0], .r [.int v1], .r [.int v2], .r [.int v3], .r [.int v4], .r v5]
noncomputable def slices_heapSortCmpFunc_2_api_Value_i6_b0 (E:Env) (X:C→Int→Int→Int→Int→Row→Option (Nat×List PV)) (v0:C) (v1:Int) (v2:Int) (v3:Int) (v4:Int) (v5:Row):Option (Nat×List PV):=
 if (decide (v4≥0))=true then
 (E.ic slices_siftDownCmpFunc_2_api_Value_i7_n [.r [.int v4], .r [.int v3], .r [.int v1], .r [v0], .r [at_ v5 0, .int ((((at_ v5 1).toI).toNat:Nat):Int)]]).bind fun y1=>
 X v0 v1 v2 v3 (Go.IntKind.i64.wrap (v4 - 1)) [gC 0 y1, .int ((((at_ (gR 0 y1) 1).toI).toNat:Nat):Int)]
 else
 some (0,[.r [v0], .r [.int v1], .r [.int v2], .r [.int v3], .r [at_ v5 0, .int ((((at_ v5 1).toI).toNat:Nat):Int)]])
theorem slices_heapSortCmpFunc_2_api_Value_i6_s0 (E:Env) (X:List PV→Option (Nat×List PV)) (v0:C) (v1:Int) (v2:Int) (v3:Int) (v4:Int) (v5:Row):stepOf E slices_heapSortCmpFunc_2_api_Value_i6_c0 slices_heapSortCmpFunc_2_api_Value_i6_h0 slices_heapSortCmpFunc_2_api_Value_i6_o0 X [.r [v0], .r [.int v1], .r [.int v2], .r [.int v3], .r [.int v4], .r v5]=slices_heapSortCmpFunc_2_api_Value_i6_b0 E (fun (v0:C) (v1:Int) (v2:Int) (v3:Int) (v4:Int) (v5:Row)=>X [.r [v0], .r [.int v1], .r [.int v2], .r [.int v3], .r [.int v4], .r v5]) v0 v1 v2 v3 v4 v5:=by kernel_rfl
def slices_heapSortCmpFunc_2_api_Value_i6_h1:Shape:={slots:=[(0, .hol 0),(3, .d (.one (.fn 64))),(8, .d lI),(9, .d lI),(12, .d lI)],objs:=[.hol lA0 (.agg [])],m:=1}
def slices_heapSortCmpFunc_2_api_Value_i6_o1:List (Exit'×Shape):=[(.exit 2,{slots:=[],objs:=[.hol lA0 (.agg [])],m:=1})]
def slices_heapSortCmpFunc_2_api_Value_i6_c1:ACode:=(.seq (.seq (.region [] [oq 32 (.mov (.t 12)),
 oq 33 (.icmp .geq (.t 32) (.c lI [.int 0]))] false 0)
 (.cond (.t 33) .skip
 (.exit 2)))
 (.seq (.block 3 (.seq (.region [] [oq 36 (.mov (.t 0)),
 oq 37 (.mov (.t 8)),
 oq 38 (.mov (.t 0)),
 oq 39 (.mov (.t 8)),
 oq 40 (.mov (.t 12)),
 ⟨some 41, .ibin .add (.t 39) (.t 40),none,[3,4]⟩,
 oq 42 (.mov (.t 0)),
 oq 43 (.mov (.t 8)),
 oq 44 (.mov (.t 12)),
 ⟨some 45, .ibin .add (.t 43) (.t 44),none,[7,8]⟩,
 ⟨some 46, .iad 40 lA0 (.t 42) (.t 45),none,[6,7,8,9]⟩,
 ⟨some 47, .ldH false lA0 (.t 46),none,[6,7,8,9,10]⟩,
 oq 48 (.mov (.t 0)),
 oq 49 (.mov (.t 8)),
 ⟨some 50, .iad 40 lA0 (.t 48) (.t 49),none,[12,13]⟩,
 ⟨some 51, .ldH false lA0 (.t 50),none,[12,13,14]⟩,
 ⟨some 52, .iad 40 lA0 (.t 36) (.t 37),none,[0,1,6,7,8,9,10,11,12,13,14,15]⟩,
 ⟨none, .stF lA0 (.t 52) (.t 47),none,[0,1,6,7,8,9,10,11,12,13,14,15,16]⟩,
 ⟨some 53, .iad 40 lA0 (.t 38) (.t 41),none,[0,1,2,3,4,5,6,7,8,9,10,11,12,13,14,15,16,17]⟩,
 ⟨none, .stF lA0 (.t 53) (.t 51),none,[0,1,2,3,4,5,6,7,8,9,10,11,12,13,14,15,16,17,18]⟩] true 0)
 (.region [] [oq 54 (.mov (.t 0)),
 oq 55 (.mov (.t 9)),
 oq 56 (.mov (.t 12)),
 oq 57 (.mov (.t 8)),
 oq 58 (.mov (.t 3)),
 oq 59 (.icall 157 76 (slices_siftDownCmpFunc_2_api_Value_i7_en) (slices_siftDownCmpFunc_2_api_Value_i7_ex) [0] 0 none [(.t 54),(.t 55),(.t 56),(.t 57),(.t 58)])] false 0)))
 (.region [] [oq 34 (.mov (.t 12)),
 oq 35 (.ibin .sub (.t 34) (.c lI [.int 1])),
 oq 12 (.mov (.t 35))] false 0)))
noncomputable def slices_heapSortCmpFunc_2_api_Value_i6_l1 (E:Env) (v0:C) (v1:Int) (v2:Int) (v3:Int) (v4:Row):Option (Nat×List PV):=E.fix (stepOf E slices_heapSortCmpFunc_2_api_Value_i6_c1 slices_heapSortCmpFunc_2_api_Value_i6_h1 slices_heapSortCmpFunc_2_api_Value_i6_o1) [.r [v0], .r [.int v1], .r [.int v2], .r [.int v3], .r v4]
noncomputable def slices_heapSortCmpFunc_2_api_Value_i6_b1 (E:Env) (X:C→Int→Int→Int→Row→Option (Nat×List PV)) (v0:C) (v1:Int) (v2:Int) (v3:Int) (v4:Row):Option (Nat×List PV):=
 if (decide (v3≥0))=true then
 if (0:Int)≤(Go.IntKind.i64.wrap (v1+v3))∧(Go.IntKind.i64.wrap (v1+v3))<(((at_ v4 0).rows).length:Int)then
 if ((Go.IntKind.i64.wrap (v1+v3)).toNat)<((at_ v4 0).rows).length∧((Go.IntKind.i64.wrap (v1+v3)).toNat)≠(((at_ v4 1).toI).toNat)then
 if (0:Int)≤v1∧v1<(((at_ v4 0).rows).length:Int)then
 if v1.toNat<((at_ v4 0).rows).length∧v1.toNat≠(((at_ v4 1).toI).toNat)then
 if (0:Int)≤v1∧v1<(((at_ v4 0).rows).length:Int)then
 if ((at_ v4 0).rows).length≤(((at_ v4 1).toI).toNat)∧v1.toNat<((at_ v4 0).rows).length then
 if (0:Int)≤(Go.IntKind.i64.wrap (v1+v3))∧(Go.IntKind.i64.wrap (v1+v3))<((((at_ v4 0).rows).set v1.toNat (rowsAt ((at_ v4 0).rows) ((Go.IntKind.i64.wrap (v1+v3)).toNat))).length:Int)then
 if (((at_ v4 0).rows).set v1.toNat (rowsAt ((at_ v4 0).rows) ((Go.IntKind.i64.wrap (v1+v3)).toNat))).length≤(((at_ v4 1).toI).toNat)∧((Go.IntKind.i64.wrap (v1+v3)).toNat)<(((at_ v4 0).rows).set v1.toNat (rowsAt ((at_ v4 0).rows) ((Go.IntKind.i64.wrap (v1+v3)).toNat))).length then
 (E.ic slices_siftDownCmpFunc_2_api_Value_i7_n [.r [.int v2], .r [.int v3], .r [.int v1], .r [v0], .r [.sl ((((at_ v4 0).rows).set v1.toNat (rowsAt ((at_ v4 0).rows) ((Go.IntKind.i64.wrap (v1+v3)).toNat))).set ((Go.IntKind.i64.wrap (v1+v3)).toNat) (rowsAt ((at_ v4 0).rows) v1.toNat)), .int ((((at_ v4 1).toI).toNat:Nat):Int)]]).bind fun y3=>
 X v0 v1 v2 (Go.IntKind.i64.wrap (v3 - 1)) [gC 0 y3, .int ((((at_ (gR 0 y3) 1).toI).toNat:Nat):Int)]
 else none
 else none
 else none
 else none
 else none
 else none
 else none
 else none
 else
 some (0,[.r [at_ v4 0, .int ((((at_ v4 1).toI).toNat:Nat):Int)]])
theorem slices_heapSortCmpFunc_2_api_Value_i6_s1 (E:Env) (X:List PV→Option (Nat×List PV)) (v0:C) (v1:Int) (v2:Int) (v3:Int) (v4:Row):stepOf E slices_heapSortCmpFunc_2_api_Value_i6_c1 slices_heapSortCmpFunc_2_api_Value_i6_h1 slices_heapSortCmpFunc_2_api_Value_i6_o1 X [.r [v0], .r [.int v1], .r [.int v2], .r [.int v3], .r v4]=slices_heapSortCmpFunc_2_api_Value_i6_b1 E (fun (v0:C) (v1:Int) (v2:Int) (v3:Int) (v4:Row)=>X [.r [v0], .r [.int v1], .r [.int v2], .r [.int v3], .r v4]) v0 v1 v2 v3 v4:=by kernel_rfl
def slices_heapSortCmpFunc_2_api_Value_i6_a:AImp:={fn:=59,entry:=slices_heapSortCmpFunc_2_api_Value_i6_en,res:=[],exit:=slices_heapSortCmpFunc_2_api_Value_i6_ex,body:=(.seq (.region [] [oq 13 (.mov (.t 1)),
 oq 8 (.mov (.t 13))] false 0)
 (.seq (.region [] [oq 9 (.mov (.c lI [.int 0]))] false 0)
 (.seq (.region [] [oq 14 (.mov (.t 2)),
 oq 15 (.mov (.t 1)),
 oq 16 (.ibin .sub (.t 14) (.t 15)),
 oq 10 (.mov (.t 16))] false 0)
 (.seq (.seq (.region [] [oq 17 (.mov (.t 10)),
 oq 18 (.ibin .sub (.t 17) (.c lI [.int 1])),
 oq 19 (.idiv .quo (.t 18) (.c lI [.int 2])),
 oq 11 (.mov (.t 19))] false 0)
 (.block 0 (.loop slices_heapSortCmpFunc_2_api_Value_i6_h0 slices_heapSortCmpFunc_2_api_Value_i6_o0 slices_heapSortCmpFunc_2_api_Value_i6_c0)))
 (.seq (.region [] [oq 30 (.mov (.t 10)),
 oq 31 (.ibin .sub (.t 30) (.c lI [.int 1])),
 oq 12 (.mov (.t 31))] false 0)
 (.block 2 (.loop slices_heapSortCmpFunc_2_api_Value_i6_h1 slices_heapSortCmpFunc_2_api_Value_i6_o1 slices_heapSortCmpFunc_2_api_Value_i6_c1)))))))}
noncomputable def slices_heapSortCmpFunc_2_api_Value_i6 (E:Env) (p0:Int) (p1:Int) (p2:C) (p3:Row):Option (List PV):=
 (slices_heapSortCmpFunc_2_api_Value_i6_l0 E p2 p0 0 (Go.IntKind.i64.wrap (p1 - p0)) (Go.IntKind.i64.wrap ((Go.IntKind.i64.wrap ((Go.IntKind.i64.wrap (p1 - p0)) - 1)).tdiv 2)) [at_ p3 0, .int ((((at_ p3 1).toI).toNat:Nat):Int)]).bind fun x2=>
 (slices_heapSortCmpFunc_2_api_Value_i6_l1 E (gC 0 x2.2) (gI 1 x2.2) (gI 2 x2.2) (Go.IntKind.i64.wrap ((gI 3 x2.2) - 1)) [gC 4 x2.2, .int ((((at_ (gR 4 x2.2) 1).toI).toNat:Nat):Int)]).bind fun x4=>
 some [.r [gC 0 x4.2, .int ((((at_ (gR 0 x4.2) 1).toI).toNat:Nat):Int)]]
theorem slices_heapSortCmpFunc_2_api_Value_i6_eq (E:Env) (p0:Int) (p1:Int) (p2:C) (p3:Row):runI E slices_heapSortCmpFunc_2_api_Value_i6_a [.r [.int p0], .r [.int p1], .r [p2], .r p3]=slices_heapSortCmpFunc_2_api_Value_i6 E p0 p1 p2 p3:=by kernel_rfl
def slices_nextPowerOfTwo_a:AFun:={ps:=[lI],rs:=[lW],res:=[(false,2,none)],body:=(.seq (.region [] [oq 2 (.mov (.c lW [.int 0]))] false 0)
 (.seq (.region [] [oq 3 (.mov (.t 0)),
 oq 4 (.i2i .u64 (.t 3)),
 oq 5 (.call 50 [lW] [lI] [(.t 4)]),
 oq 6 (.shf .shl (.c lW [.int 1]) (.t 5)),
 oq 2 (.mov (.t 6))] false 0)
 .ret))}
noncomputable def slices_nextPowerOfTwo (E:Env) (p0:Int):Option (List Row):=
 (E.pc n_math_bits_Len [[.int (Go.IntKind.u64.wrap p0)]]).bind fun y1=>
 if (at_ (rowsAt y1 0) 0).toI<0 then none else some [[.int (Go.IntKind.u64.wrap (1*2^(min (((at_ (rowsAt y1 0) 0).toI).toNat) (Go.IntKind.bits .u64))))]]
def slices_xorshift_Next_i9_a:AImp:={fn:=78,entry:=slices_xorshift_Next_i9_en,res:=[.tmp 2],exit:=slices_xorshift_Next_i9_ex,body:=(.seq (.region [] [oq 2 (.mov (.c lW [.int 0]))] false 0)
 (.seq (.region [] [oq 3 (.mov (.t 0)),
 ⟨some 4, .nchk (.t 3),none,[0]⟩,
 ⟨some 5, .ld lW 106 (.t 4),none,[0,1]⟩,
 oq 6 (.mov (.t 0)),
 ⟨some 7, .nchk (.t 6),none,[3]⟩,
 ⟨some 8, .ld lW 106 (.t 7),none,[3,4]⟩,
 ⟨some 9, .shf .shl (.t 8) (.c lW [.int 13]),none,[3,4,5]⟩,
 ⟨some 10, .ibin .xor (.t 5) (.t 9),none,[0,1,2,3,4,5,6]⟩,
 ⟨some 11, .nchk (.t 3),none,[0,1,2,3,4,5,6,7]⟩,
 ⟨none, .st lW (.t 11) (.t 10),none,[0,1,2,3,4,5,6,7,8]⟩] true 0)
 (.seq (.region [] [oq 12 (.mov (.t 0)),
 ⟨some 13, .nchk (.t 12),none,[0]⟩,
 ⟨some 14, .ld lW 106 (.t 13),none,[0,1]⟩,
 oq 15 (.mov (.t 0)),
 ⟨some 16, .nchk (.t 15),none,[3]⟩,
 ⟨some 17, .ld lW 106 (.t 16),none,[3,4]⟩,
 ⟨some 18, .shf .shr (.t 17) (.c lW [.int 7]),none,[3,4,5]⟩,
 ⟨some 19, .ibin .xor (.t 14) (.t 18),none,[0,1,2,3,4,5,6]⟩,
 ⟨some 20, .nchk (.t 12),none,[0,1,2,3,4,5,6,7]⟩,
 ⟨none, .st lW (.t 20) (.t 19),none,[0,1,2,3,4,5,6,7,8]⟩] true 0)
 (.seq (.region [] [oq 21 (.mov (.t 0)),
 ⟨some 22, .nchk (.t 21),none,[0]⟩,
 ⟨some 23, .ld lW 106 (.t 22),none,[0,1]⟩,
 oq 24 (.mov (.t 0)),
 ⟨some 25, .nchk (.t 24),none,[3]⟩,
 ⟨some 26, .ld lW 106 (.t 25),none,[3,4]⟩,
 ⟨some 27, .shf .shl (.t 26) (.c lW [.int 17]),none,[3,4,5]⟩,
 ⟨some 28, .ibin .xor (.t 23) (.t 27),none,[0,1,2,3,4,5,6]⟩,
 ⟨some 29, .nchk (.t 21),none,[0,1,2,3,4,5,6,7]⟩,
 ⟨none, .st lW (.t 29) (.t 28),none,[0,1,2,3,4,5,6,7,8]⟩] true 0)
 (.seq (.region [] [oq 30 (.mov (.t 0)),
 oq 31 (.nchk (.t 30)),
 oq 32 (.ld lW 106 (.t 31)),
 oq 2 (.mov (.t 32))] false 0)
 .ret)))))}
noncomputable def slices_xorshift_Next_i9 (E:Env) (p0:Int):Option (List PV):=
 some [.r [.int (bitsOf .xor .u64 (bitsOf .xor .u64 (bitsOf .xor .u64 p0 (Go.IntKind.u64.wrap (p0*2^(min 13 (Go.IntKind.bits .u64))))) ((bitsOf .xor .u64 p0 (Go.IntKind.u64.wrap (p0*2^(min 13 (Go.IntKind.bits .u64))))).fdiv (2^(min 7 (Go.IntKind.bits .u64))))) (Go.IntKind.u64.wrap ((bitsOf .xor .u64 (bitsOf .xor .u64 p0 (Go.IntKind.u64.wrap (p0*2^(min 13 (Go.IntKind.bits .u64))))) ((bitsOf .xor .u64 p0 (Go.IntKind.u64.wrap (p0*2^(min 13 (Go.IntKind.bits .u64))))).fdiv (2^(min 7 (Go.IntKind.bits .u64)))))*2^(min 17 (Go.IntKind.bits .u64)))))], .r [.int (bitsOf .xor .u64 (bitsOf .xor .u64 (bitsOf .xor .u64 p0 (Go.IntKind.u64.wrap (p0*2^(min 13 (Go.IntKind.bits .u64))))) ((bitsOf .xor .u64 p0 (Go.IntKind.u64.wrap (p0*2^(min 13 (Go.IntKind.bits .u64))))).fdiv (2^(min 7 (Go.IntKind.bits .u64))))) (Go.IntKind.u64.wrap ((bitsOf .xor .u64 (bitsOf .xor .u64 p0 (Go.IntKind.u64.wrap (p0*2^(min 13 (Go.IntKind.bits .u64))))) ((bitsOf .xor .u64 p0 (Go.IntKind.u64.wrap (p0*2^(min 13 (Go.IntKind.bits .u64))))).fdiv (2^(min 7 (Go.IntKind.bits .u64)))))*2^(min 17 (Go.IntKind.bits .u64)))))]]
theorem slices_xorshift_Next_i9_eq (E:Env) (p0:Int):runI E slices_xorshift_Next_i9_a [.r [.int p0]]=slices_xorshift_Next_i9 E p0:=by kernel_rfl
def slices_breakPatternsCmpFunc_2_api_Value_i8_h0:Shape:={slots:=[(0, .hol 0),(1, .d lI),(8, .d lI),(9, .ptr 1 0),(10, .d lW),(11, .d lI)],objs:=[.hol lA0 (.agg []), .var lW],m:=1}
def slices_breakPatternsCmpFunc_2_api_Value_i8_o0:List (Exit'×Shape):=[(.exit 0,{slots:=[],objs:=[.hol lA0 (.agg [])],m:=1})]
def slices_breakPatternsCmpFunc_2_api_Value_i8_c0:ACode:=(.seq (.seq (.region [] [oq 28 (.mov (.t 11)),
 oq 29 (.mov (.t 1)),
 oq 30 (.mov (.t 8)),
 oq 31 (.idiv .quo (.t 30) (.c lI [.int 4])),
 oq 32 (.ibin .mul (.t 31) (.c lI [.int 2])),
 oq 33 (.ibin .add (.t 29) (.t 32)),
 oq 34 (.ibin .add (.t 33) (.c lI [.int 1])),
 oq 35 (.icmp .leq (.t 28) (.t 34))] false 0)
 (.cond (.t 35) .skip
 (.exit 0)))
 (.seq (.block 1 (.seq (.region [] [oq 38 (.icall 159 78 (slices_xorshift_Next_i9_en) (slices_xorshift_Next_i9_ex) [1] 0 none [(.t 9)]),
 oq 39 (.mov (.t 10)),
 oq 40 (.ibin .sub (.t 39) (.c lW [.int 1])),
 oq 41 (.ibin .and (.t 38) (.t 40)),
 oq 42 (.i2i .i64 (.t 41)),
 oq 12 (.mov (.t 42))] false 0)
 (.seq (.seq (.region [] [oq 43 (.mov (.t 12)),
 oq 44 (.mov (.t 8)),
 oq 45 (.icmp .geq (.t 43) (.t 44))] false 0)
 (.join [(.normal,{slots:=[(0, .hol 0),(1, .d lI),(8, .d lI),(9, .ptr 1 0),(10, .d lW),(11, .d lI),(12, .d lI)],objs:=[.hol lA0 (.agg []), .var lW],m:=1})] (.cond (.t 45) (.region [] [oq 46 (.mov (.t 12)),
 oq 47 (.mov (.t 8)),
 oq 48 (.ibin .sub (.t 46) (.t 47)),
 oq 12 (.mov (.t 48))] false 0)
 .skip)))
 (.region [] [oq 49 (.mov (.t 0)),
 oq 50 (.mov (.t 11)),
 oq 51 (.mov (.t 0)),
 oq 52 (.mov (.t 1)),
 oq 53 (.mov (.t 12)),
 ⟨some 54, .ibin .add (.t 52) (.t 53),none,[3,4]⟩,
 oq 55 (.mov (.t 0)),
 oq 56 (.mov (.t 1)),
 oq 57 (.mov (.t 12)),
 ⟨some 58, .ibin .add (.t 56) (.t 57),none,[7,8]⟩,
 ⟨some 59, .iad 40 lA0 (.t 55) (.t 58),none,[6,7,8,9]⟩,
 ⟨some 60, .ldH false lA0 (.t 59),none,[6,7,8,9,10]⟩,
 oq 61 (.mov (.t 0)),
 oq 62 (.mov (.t 11)),
 ⟨some 63, .iad 40 lA0 (.t 61) (.t 62),none,[12,13]⟩,
 ⟨some 64, .ldH false lA0 (.t 63),none,[12,13,14]⟩,
 ⟨some 65, .iad 40 lA0 (.t 49) (.t 50),none,[0,1,6,7,8,9,10,11,12,13,14,15]⟩,
 ⟨none, .stF lA0 (.t 65) (.t 60),none,[0,1,6,7,8,9,10,11,12,13,14,15,16]⟩,
 ⟨some 66, .iad 40 lA0 (.t 51) (.t 54),none,[0,1,2,3,4,5,6,7,8,9,10,11,12,13,14,15,16,17]⟩,
 ⟨none, .stF lA0 (.t 66) (.t 64),none,[0,1,2,3,4,5,6,7,8,9,10,11,12,13,14,15,16,17,18]⟩] true 0))))
 (.region [] [oq 36 (.mov (.t 11)),
 oq 37 (.ibin .add (.t 36) (.c lI [.int 1])),
 oq 11 (.mov (.t 37))] false 0)))
noncomputable def slices_breakPatternsCmpFunc_2_api_Value_i8_l0 (E:Env) (v0:Int) (v1:Int) (v2:Int) (v3:Int) (v4:Row) (v5:Int):Option (Nat×List PV):=E.fix (stepOf E slices_breakPatternsCmpFunc_2_api_Value_i8_c0 slices_breakPatternsCmpFunc_2_api_Value_i8_h0 slices_breakPatternsCmpFunc_2_api_Value_i8_o0) [.r [.int v0], .r [.int v1], .r [.int v2], .r [.int v3], .r v4, .r [.int v5]]
noncomputable def slices_breakPatternsCmpFunc_2_api_Value_i8_b0 (E:Env) (X:Int→Int→Int→Int→Row→Int→Option (Nat×List PV)) (v0:Int) (v1:Int) (v2:Int) (v3:Int) (v4:Row) (v5:Int):Option (Nat×List PV):=
 if (decide (v3≤(Go.IntKind.i64.wrap ((Go.IntKind.i64.wrap (v0+(Go.IntKind.i64.wrap ((Go.IntKind.i64.wrap (v1.tdiv 4))*2))))+1))))=true then
 (E.ic slices_xorshift_Next_i9_n [.r [.int v5]]).bind fun y2=>
 (if (decide ((Go.IntKind.i64.wrap (bitsOf .and .u64 (gI 0 y2) (Go.IntKind.u64.wrap (v2 - 1))))≥v1))=true then
 some (0,[.r [.int v0], .r [.int v1], .r [.int v2], .r [.int v3], .r [.int (Go.IntKind.i64.wrap ((Go.IntKind.i64.wrap (bitsOf .and .u64 (gI 0 y2) (Go.IntKind.u64.wrap (v2 - 1)))) - v1))], .r [at_ v4 0, .int ((((at_ v4 1).toI).toNat:Nat):Int)], .r [.int (gI 1 y2)]])
 else
 some (0,[.r [.int v0], .r [.int v1], .r [.int v2], .r [.int v3], .r [.int (Go.IntKind.i64.wrap (bitsOf .and .u64 (gI 0 y2) (Go.IntKind.u64.wrap (v2 - 1))))], .r [at_ v4 0, .int ((((at_ v4 1).toI).toNat:Nat):Int)], .r [.int (gI 1 y2)]])).bind fun x3=>
 if (0:Int)≤(Go.IntKind.i64.wrap ((gI 0 x3.2)+(gI 4 x3.2)))∧(Go.IntKind.i64.wrap ((gI 0 x3.2)+(gI 4 x3.2)))<(((gC 5 x3.2).rows).length:Int)then
 if ((Go.IntKind.i64.wrap ((gI 0 x3.2)+(gI 4 x3.2))).toNat)<((gC 5 x3.2).rows).length∧((Go.IntKind.i64.wrap ((gI 0 x3.2)+(gI 4 x3.2))).toNat)≠(((at_ (gR 5 x3.2) 1).toI).toNat)then
 if (0:Int)≤(gI 3 x3.2)∧(gI 3 x3.2)<(((gC 5 x3.2).rows).length:Int)then
 if ((gI 3 x3.2).toNat)<((gC 5 x3.2).rows).length∧((gI 3 x3.2).toNat)≠(((at_ (gR 5 x3.2) 1).toI).toNat)then
 if (0:Int)≤(gI 3 x3.2)∧(gI 3 x3.2)<(((gC 5 x3.2).rows).length:Int)then
 if ((gC 5 x3.2).rows).length≤(((at_ (gR 5 x3.2) 1).toI).toNat)∧((gI 3 x3.2).toNat)<((gC 5 x3.2).rows).length then
 if (0:Int)≤(Go.IntKind.i64.wrap ((gI 0 x3.2)+(gI 4 x3.2)))∧(Go.IntKind.i64.wrap ((gI 0 x3.2)+(gI 4 x3.2)))<((((gC 5 x3.2).rows).set ((gI 3 x3.2).toNat) (rowsAt ((gC 5 x3.2).rows) ((Go.IntKind.i64.wrap ((gI 0 x3.2)+(gI 4 x3.2))).toNat))).length:Int)then
 if (((gC 5 x3.2).rows).set ((gI 3 x3.2).toNat) (rowsAt ((gC 5 x3.2).rows) ((Go.IntKind.i64.wrap ((gI 0 x3.2)+(gI 4 x3.2))).toNat))).length≤(((at_ (gR 5 x3.2) 1).toI).toNat)∧((Go.IntKind.i64.wrap ((gI 0 x3.2)+(gI 4 x3.2))).toNat)<(((gC 5 x3.2).rows).set ((gI 3 x3.2).toNat) (rowsAt ((gC 5 x3.2).rows) ((Go.IntKind.i64.wrap ((gI 0 x3.2)+(gI 4 x3.2))).toNat))).length then
 X (gI 0 x3.2) (gI 1 x3.2) (gI 2 x3.2) (Go.IntKind.i64.wrap ((gI 3 x3.2)+1)) [.sl ((((gC 5 x3.2).rows).set ((gI 3 x3.2).toNat) (rowsAt ((gC 5 x3.2).rows) ((Go.IntKind.i64.wrap ((gI 0 x3.2)+(gI 4 x3.2))).toNat))).set ((Go.IntKind.i64.wrap ((gI 0 x3.2)+(gI 4 x3.2))).toNat) (rowsAt ((gC 5 x3.2).rows) ((gI 3 x3.2).toNat))), .int ((((at_ (gR 5 x3.2) 1).toI).toNat:Nat):Int)] (gI 6 x3.2)
 else none
 else none
 else none
 else none
 else none
 else none
 else none
 else none
 else
 some (0,[.r [at_ v4 0, .int ((((at_ v4 1).toI).toNat:Nat):Int)]])
theorem slices_breakPatternsCmpFunc_2_api_Value_i8_s0 (E:Env) (X:List PV→Option (Nat×List PV)) (v0:Int) (v1:Int) (v2:Int) (v3:Int) (v4:Row) (v5:Int):stepOf E slices_breakPatternsCmpFunc_2_api_Value_i8_c0 slices_breakPatternsCmpFunc_2_api_Value_i8_h0 slices_breakPatternsCmpFunc_2_api_Value_i8_o0 X [.r [.int v0], .r [.int v1], .r [.int v2], .r [.int v3], .r v4, .r [.int v5]]=slices_breakPatternsCmpFunc_2_api_Value_i8_b0 E (fun (v0:Int) (v1:Int) (v2:Int) (v3:Int) (v4:Row) (v5:Int)=>X [.r [.int v0], .r [.int v1], .r [.int v2], .r [.int v3], .r v4, .r [.int v5]]) v0 v1 v2 v3 v4 v5:=by kernel_rfl
def slices_breakPatternsCmpFunc_2_api_Value_i8_a:AImp:={fn:=60,entry:=slices_breakPatternsCmpFunc_2_api_Value_i8_en,res:=[],exit:=slices_breakPatternsCmpFunc_2_api_Value_i8_ex,body:=(.seq (.region [] [oq 13 (.mov (.t 2)),
 oq 14 (.mov (.t 1)),
 oq 15 (.ibin .sub (.t 13) (.t 14)),
 oq 8 (.mov (.t 15))] false 0)
 (.seq (.region [] [oq 16 (.mov (.t 8)),
 oq 17 (.icmp .geq (.t 16) (.c lI [.int 8]))] false 0)
 (.cond (.t 17) (.seq (.region [] [oq 18 (.mov (.t 8)),
 oq 19 (.i2i .u64 (.t 18)),
 oq 9 (.allocO 0 lW [.int 0]),
 ⟨none, .st lW (.t 9) (.t 19),none,[]⟩] false 1)
 (.seq (.region [] [oq 20 (.mov (.t 8)),
 oq 21 (.call 77 [lI] [lW] [(.t 20)]),
 oq 10 (.mov (.t 21))] false 0)
 (.seq (.region [] [oq 22 (.mov (.t 1)),
 oq 23 (.mov (.t 8)),
 oq 24 (.idiv .quo (.t 23) (.c lI [.int 4])),
 oq 25 (.ibin .mul (.t 24) (.c lI [.int 2])),
 oq 26 (.ibin .add (.t 22) (.t 25)),
 oq 27 (.ibin .sub (.t 26) (.c lI [.int 1])),
 oq 11 (.mov (.t 27))] false 0)
 (.block 0 (.loop slices_breakPatternsCmpFunc_2_api_Value_i8_h0 slices_breakPatternsCmpFunc_2_api_Value_i8_o0 slices_breakPatternsCmpFunc_2_api_Value_i8_c0)))))
 .skip)))}
noncomputable def slices_breakPatternsCmpFunc_2_api_Value_i8 (E:Env) (p0:Int) (p1:Int) (p2:C) (p3:Row):Option (List PV):=
 if (decide ((Go.IntKind.i64.wrap (p1 - p0))≥8))=true then
 (E.pc n_slices_nextPowerOfTwo [[.int (Go.IntKind.i64.wrap (p1 - p0))]]).bind fun y1=>
 (slices_breakPatternsCmpFunc_2_api_Value_i8_l0 E p0 (Go.IntKind.i64.wrap (p1 - p0)) ((at_ (rowsAt y1 0) 0).toI) (Go.IntKind.i64.wrap ((Go.IntKind.i64.wrap (p0+(Go.IntKind.i64.wrap ((Go.IntKind.i64.wrap ((Go.IntKind.i64.wrap (p1 - p0)).tdiv 4))*2)))) - 1)) [at_ p3 0, .int ((((at_ p3 1).toI).toNat:Nat):Int)] (Go.IntKind.u64.wrap (Go.IntKind.i64.wrap (p1 - p0)))).bind fun x4=>
 some [.r [gC 0 x4.2, .int ((((at_ (gR 0 x4.2) 1).toI).toNat:Nat):Int)]]
 else
 some [.r [at_ p3 0, .int ((((at_ p3 1).toI).toNat:Nat):Int)]]
theorem slices_breakPatternsCmpFunc_2_api_Value_i8_eq (E:Env) (p0:Int) (p1:Int) (p2:C) (p3:Row):runI E slices_breakPatternsCmpFunc_2_api_Value_i8_a [.r [.int p0], .r [.int p1], .r [p2], .r p3]=slices_breakPatternsCmpFunc_2_api_Value_i8 E p0 p1 p2 p3:=by kernel_rfl
def slices_order2CmpFunc_2_api_Value_i12_a:AImp:={fn:=92,entry:=slices_order2CmpFunc_2_api_Value_i12_en,res:=[.tmp 10, .tmp 11],exit:=slices_order2CmpFunc_2_api_Value_i12_ex,body:=(.seq (.region [] [oq 10 (.mov (.c lI [.int 0])),
 oq 11 (.mov (.c lI [.int 0]))] false 0)
 (.seq (.seq (.region [] [oq 12 (.mov (.t 4)),
 oq 13 (.mov (.t 0)),
 oq 14 (.mov (.t 2)),
 ⟨some 15, .iad 40 lA0 (.t 13) (.t 14),none,[1,2]⟩,
 ⟨some 16, .ldH false lA0 (.t 15),none,[1,2,3]⟩,
 oq 17 (.mov (.t 0)),
 oq 18 (.mov (.t 1)),
 ⟨some 19, .iad 40 lA0 (.t 17) (.t 18),none,[5,6]⟩,
 ⟨some 20, .ldH false lA0 (.t 19),none,[5,6,7]⟩,
 ⟨some 21, .callv 64 [lA0,lA0] [lI] (.t 12) [(.t 16),(.t 20)],none,[0,1,2,3,4,5,6,7,8]⟩,
 ⟨some 22, .icmp .lss (.t 21) (.c lI [.int 0]),none,[0,1,2,3,4,5,6,7,8,9]⟩] true 0)
 (.cond (.t 22) (.seq (.region [] [oq 23 (.mov (.t 3)),
 oq 24 (.nchk (.t 23)),
 oq 25 (.ld lI 3 (.t 24)),
 oq 26 (.ibin .add (.t 25) (.c lI [.int 1])),
 oq 27 (.nchk (.t 23)),
 ⟨none, .st lI (.t 27) (.t 26),none,[]⟩] false 0)
 (.seq (.region [] [oq 28 (.mov (.t 2)),
 oq 29 (.mov (.t 1)),
 oq 10 (.mov (.t 28)),
 oq 11 (.mov (.t 29))] false 0)
 .ret))
 .skip))
 (.seq (.region [] [oq 30 (.mov (.t 1)),
 oq 31 (.mov (.t 2)),
 oq 10 (.mov (.t 30)),
 oq 11 (.mov (.t 31))] false 0)
 .ret)))}
noncomputable def slices_order2CmpFunc_2_api_Value_i12 (E:Env) (p0:Int) (p1:Int) (p2:C) (p3:Row) (p4:Int):Option (List PV):=
 if (0:Int)≤p1∧p1<(((at_ p3 0).rows).length:Int)then
 if p1.toNat<((at_ p3 0).rows).length∧p1.toNat≠(((at_ p3 1).toI).toNat)then
 if (0:Int)≤p0∧p0<(((at_ p3 0).rows).length:Int)then
 if p0.toNat<((at_ p3 0).rows).length∧p0.toNat≠(((at_ p3 1).toI).toNat)then
 (callC E p2 [rowsAt ((at_ p3 0).rows) p1.toNat,rowsAt ((at_ p3 0).rows) p0.toNat]).bind fun y1=>
 if (decide (((at_ (rowsAt y1 0) 0).toI)<0))=true then
 some [.r [.int p1], .r [.int p0], .r [at_ p3 0, .int ((((at_ p3 1).toI).toNat:Nat):Int)], .r [.int (Go.IntKind.i64.wrap (p4+1))]]
 else
 some [.r [.int p0], .r [.int p1], .r [at_ p3 0, .int ((((at_ p3 1).toI).toNat:Nat):Int)], .r [.int p4]]
 else none
 else none
 else none
 else none
theorem slices_order2CmpFunc_2_api_Value_i12_eq (E:Env) (p0:Int) (p1:Int) (p2:C) (p3:Row) (p4:Int):runI E slices_order2CmpFunc_2_api_Value_i12_a [.r [.int p0], .r [.int p1], .r [p2], .r p3, .r [.int p4]]=slices_order2CmpFunc_2_api_Value_i12 E p0 p1 p2 p3 p4:=by kernel_rfl
def slices_medianCmpFunc_2_api_Value_i11_a:AImp:={fn:=80,entry:=slices_medianCmpFunc_2_api_Value_i11_en,res:=[.tmp 12],exit:=slices_medianCmpFunc_2_api_Value_i11_ex,body:=(.seq (.region [] [oq 12 (.mov (.c lI [.int 0]))] false 0)
 (.seq (.region [] [oq 14 (.mov (.t 0)),
 oq 15 (.mov (.t 1)),
 oq 16 (.mov (.t 2)),
 oq 17 (.mov (.t 4)),
 oq 18 (.mov (.t 5)),
 oq 19 (.icall 162 92 (slices_order2CmpFunc_2_api_Value_i12_en) (slices_order2CmpFunc_2_api_Value_i12_ex) [0,1] 0 none [(.t 14),(.t 15),(.t 16),(.t 17),(.t 18)]),
 oq 13 (.mov (.t 19)),
 oq 20 (.ext 0 (.t 13)),
 oq 21 (.ext 1 (.t 13)),
 oq 1 (.mov (.t 20)),
 oq 2 (.mov (.t 21))] false 0)
 (.seq (.region [] [oq 23 (.mov (.t 0)),
 oq 24 (.mov (.t 2)),
 oq 25 (.mov (.t 3)),
 oq 26 (.mov (.t 4)),
 oq 27 (.mov (.t 5)),
 oq 28 (.icall 162 92 (slices_order2CmpFunc_2_api_Value_i12_en) (slices_order2CmpFunc_2_api_Value_i12_ex) [0,1] 0 none [(.t 23),(.t 24),(.t 25),(.t 26),(.t 27)]),
 oq 22 (.mov (.t 28)),
 oq 29 (.ext 0 (.t 22)),
 oq 30 (.ext 1 (.t 22)),
 oq 2 (.mov (.t 29)),
 oq 3 (.mov (.t 30))] false 0)
 (.seq (.region [] [oq 32 (.mov (.t 0)),
 oq 33 (.mov (.t 1)),
 oq 34 (.mov (.t 2)),
 oq 35 (.mov (.t 4)),
 oq 36 (.mov (.t 5)),
 oq 37 (.icall 162 92 (slices_order2CmpFunc_2_api_Value_i12_en) (slices_order2CmpFunc_2_api_Value_i12_ex) [0,1] 0 none [(.t 32),(.t 33),(.t 34),(.t 35),(.t 36)]),
 oq 31 (.mov (.t 37)),
 oq 38 (.ext 0 (.t 31)),
 oq 39 (.ext 1 (.t 31)),
 oq 1 (.mov (.t 38)),
 oq 2 (.mov (.t 39))] false 0)
 (.seq (.region [] [oq 40 (.mov (.t 2)),
 oq 12 (.mov (.t 40))] false 0)
 .ret)))))}
noncomputable def slices_medianCmpFunc_2_api_Value_i11 (E:Env) (p0:Int) (p1:Int) (p2:Int) (p3:C) (p4:Row) (p5:Int):Option (List PV):=
 (E.ic slices_order2CmpFunc_2_api_Value_i12_n [.r [.int p0], .r [.int p1], .r [p3], .r [at_ p4 0, .int ((((at_ p4 1).toI).toNat:Nat):Int)], .r [.int p5]]).bind fun y1=>
 (E.ic slices_order2CmpFunc_2_api_Value_i12_n [.r [.int (gI 1 y1)], .r [.int p2], .r [p3], .r [gC 2 y1, .int ((((at_ (gR 2 y1) 1).toI).toNat:Nat):Int)], .r [.int (gI 3 y1)]]).bind fun y2=>
 (E.ic slices_order2CmpFunc_2_api_Value_i12_n [.r [.int (gI 0 y1)], .r [.int (gI 0 y2)], .r [p3], .r [gC 2 y2, .int ((((at_ (gR 2 y2) 1).toI).toNat:Nat):Int)], .r [.int (gI 3 y2)]]).bind fun y3=>
 some [.r [.int (gI 1 y3)], .r [gC 2 y3, .int ((((at_ (gR 2 y3) 1).toI).toNat:Nat):Int)], .r [.int (gI 3 y3)]]
theorem slices_medianCmpFunc_2_api_Value_i11_eq (E:Env) (p0:Int) (p1:Int) (p2:Int) (p3:C) (p4:Row) (p5:Int):runI E slices_medianCmpFunc_2_api_Value_i11_a [.r [.int p0], .r [.int p1], .r [.int p2], .r [p3], .r p4, .r [.int p5]]=slices_medianCmpFunc_2_api_Value_i11 E p0 p1 p2 p3 p4 p5:=by kernel_rfl
def slices_choosePivotCmpFunc_2_api_Value_i10_a:AImp:={fn:=61,entry:=slices_choosePivotCmpFunc_2_api_Value_i10_en,res:=[.tmp 8, .tmp 9],exit:=slices_choosePivotCmpFunc_2_api_Value_i10_ex,body:=(.seq (.region [] [oq 8 (.mov (.c lI [.int 0])),
 oq 9 (.mov (.c lI [.int 0]))] false 0)
 (.seq (.region [] [oq 15 (.mov (.t 2)),
 oq 16 (.mov (.t 1)),
 oq 17 (.ibin .sub (.t 15) (.t 16)),
 oq 10 (.mov (.t 17))] false 0)
 (.seq (.region [] [oq 11 (.allocO 0 lI [.int 0])] false 1)
 (.seq (.region [] [oq 18 (.mov (.t 1)),
 oq 19 (.mov (.t 10)),
 oq 20 (.idiv .quo (.t 19) (.c lI [.int 4])),
 oq 21 (.ibin .mul (.t 20) (.c lI [.int 1])),
 oq 22 (.ibin .add (.t 18) (.t 21)),
 oq 12 (.mov (.t 22))] false 0)
 (.seq (.region [] [oq 23 (.mov (.t 1)),
 oq 24 (.mov (.t 10)),
 oq 25 (.idiv .quo (.t 24) (.c lI [.int 4])),
 oq 26 (.ibin .mul (.t 25) (.c lI [.int 2])),
 oq 27 (.ibin .add (.t 23) (.t 26)),
 oq 13 (.mov (.t 27))] false 0)
 (.seq (.region [] [oq 28 (.mov (.t 1)),
 oq 29 (.mov (.t 10)),
 oq 30 (.idiv .quo (.t 29) (.c lI [.int 4])),
 oq 31 (.ibin .mul (.t 30) (.c lI [.int 3])),
 oq 32 (.ibin .add (.t 28) (.t 31)),
 oq 14 (.mov (.t 32))] false 0)
 (.seq (.seq (.region [] [oq 33 (.mov (.t 10)),
 oq 34 (.icmp .geq (.t 33) (.c lI [.int 8]))] false 0)
 (.join [(.normal,{slots:=[(11, .ptr 1 0),(13, .d lI)],objs:=[.hol lA0 (.agg []), .var lI],m:=1})] (.cond (.t 34) (.seq (.seq (.region [] [oq 35 (.mov (.t 10)),
 oq 36 (.icmp .geq (.t 35) (.c lI [.int 50]))] false 0)
 (.cond (.t 36) (.seq (.region [] [oq 37 (.mov (.t 0)),
 oq 38 (.mov (.t 12)),
 oq 39 (.mov (.t 3)),
 oq 40 (.bad),
 oq 12 (.bad)] false 0)
 (.seq .bad
 .bad))
 .skip))
 (.region [] [oq 49 (.mov (.t 0)),
 oq 50 (.mov (.t 12)),
 oq 51 (.mov (.t 13)),
 oq 52 (.mov (.t 14)),
 oq 53 (.mov (.t 3)),
 oq 54 (.icall 161 80 (slices_medianCmpFunc_2_api_Value_i11_en) (slices_medianCmpFunc_2_api_Value_i11_ex) [0,1] 0 none [(.t 49),(.t 50),(.t 51),(.t 52),(.t 11),(.t 53)]),
 oq 13 (.mov (.t 54))] false 0))
 .skip)))
 (.seq (.region [] [oq 55 (.ld lI 3 (.t 11))] false 0)
 (.block 0 (.seq (.region [] [oq 58 (.icmp .eql (.t 55) (.c lI [.int 0])),
 oq 57 (.mov (.t 58))] false 0)
 (.cond (.t 57) (.seq (.region [] [oq 59 (.mov (.t 13)),
 oq 8 (.mov (.t 59)),
 oq 9 (.mov (.c lI [.int 1]))] false 0)
 .ret)
 (.seq (.region [] [oq 61 (.icmp .eql (.t 55) (.c lI [.int 12])),
 oq 60 (.mov (.t 61))] false 0)
 (.cond (.t 60) (.seq (.region [] [oq 62 (.mov (.t 13)),
 oq 8 (.mov (.t 62)),
 oq 9 (.mov (.c lI [.int 2]))] false 0)
 .ret)
 (.seq (.region [] [oq 56 (.mov (.t 13)),
 oq 8 (.mov (.t 56)),
 oq 9 (.mov (.c lI [.int 0]))] false 0)
 .ret))))))))))))))}
noncomputable def slices_choosePivotCmpFunc_2_api_Value_i10 (E:Env) (p0:Int) (p1:Int) (p2:C) (p3:Row):Option (List PV):=
 (if (decide ((Go.IntKind.i64.wrap (p1 - p0))≥8))=true then
 if (decide ((Go.IntKind.i64.wrap (p1 - p0))≥50))=true then
 none
 else
 (E.ic slices_medianCmpFunc_2_api_Value_i11_n [.r [.int (Go.IntKind.i64.wrap (p0+(Go.IntKind.i64.wrap ((Go.IntKind.i64.wrap ((Go.IntKind.i64.wrap (p1 - p0)).tdiv 4))*1))))], .r [.int (Go.IntKind.i64.wrap (p0+(Go.IntKind.i64.wrap ((Go.IntKind.i64.wrap ((Go.IntKind.i64.wrap (p1 - p0)).tdiv 4))*2))))], .r [.int (Go.IntKind.i64.wrap (p0+(Go.IntKind.i64.wrap ((Go.IntKind.i64.wrap ((Go.IntKind.i64.wrap (p1 - p0)).tdiv 4))*3))))], .r [p2], .r [at_ p3 0, .int ((((at_ p3 1).toI).toNat:Nat):Int)], .r [.int 0]]).bind fun y1=>
 some (0,[.r [.int (gI 0 y1)], .r [gC 1 y1, .int ((((at_ (gR 1 y1) 1).toI).toNat:Nat):Int)], .r [.int (gI 2 y1)]])
 else
 some (0,[.r [.int (Go.IntKind.i64.wrap (p0+(Go.IntKind.i64.wrap ((Go.IntKind.i64.wrap ((Go.IntKind.i64.wrap (p1 - p0)).tdiv 4))*2))))], .r [at_ p3 0, .int ((((at_ p3 1).toI).toNat:Nat):Int)], .r [.int 0]])).bind fun x2=>
 if ((gI 2 x2.2)==0)=true then
 some [.r [.int (gI 0 x2.2)], .r [.int 1], .r [gC 1 x2.2, .int ((((at_ (gR 1 x2.2) 1).toI).toNat:Nat):Int)]]
 else
 if ((gI 2 x2.2)==12)=true then
 some [.r [.int (gI 0 x2.2)], .r [.int 2], .r [gC 1 x2.2, .int ((((at_ (gR 1 x2.2) 1).toI).toNat:Nat):Int)]]
 else
 some [.r [.int (gI 0 x2.2)], .r [.int 0], .r [gC 1 x2.2, .int ((((at_ (gR 1 x2.2) 1).toI).toNat:Nat):Int)]]
theorem slices_choosePivotCmpFunc_2_api_Value_i10_eq (E:Env) (p0:Int) (p1:Int) (p2:C) (p3:Row):runI E slices_choosePivotCmpFunc_2_api_Value_i10_a [.r [.int p0], .r [.int p1], .r [p2], .r p3]=slices_choosePivotCmpFunc_2_api_Value_i10 E p0 p1 p2 p3:=by kernel_rfl
def slices_reverseRangeCmpFunc_2_api_Value_i13_h0:Shape:={slots:=[(0, .hol 0),(8, .d lI),(9, .d lI)],objs:=[.hol lA0 (.agg [])],m:=1}
def slices_reverseRangeCmpFunc_2_api_Value_i13_o0:List (Exit'×Shape):=[(.exit 0,{slots:=[],objs:=[.hol lA0 (.agg [])],m:=1})]
def slices_reverseRangeCmpFunc_2_api_Value_i13_c0:ACode:=(.seq (.seq (.region [] [oq 13 (.mov (.t 8)),
 oq 14 (.mov (.t 9)),
 oq 15 (.icmp .lss (.t 13) (.t 14))] false 0)
 (.cond (.t 15) .skip
 (.exit 0)))
 (.block 1 (.seq (.region [] [oq 16 (.mov (.t 0)),
 oq 17 (.mov (.t 8)),
 oq 18 (.mov (.t 0)),
 oq 19 (.mov (.t 9)),
 oq 20 (.mov (.t 0)),
 oq 21 (.mov (.t 9)),
 ⟨some 22, .iad 40 lA0 (.t 20) (.t 21),none,[4,5]⟩,
 ⟨some 23, .ldH false lA0 (.t 22),none,[4,5,6]⟩,
 oq 24 (.mov (.t 0)),
 oq 25 (.mov (.t 8)),
 ⟨some 26, .iad 40 lA0 (.t 24) (.t 25),none,[8,9]⟩,
 ⟨some 27, .ldH false lA0 (.t 26),none,[8,9,10]⟩,
 ⟨some 28, .iad 40 lA0 (.t 16) (.t 17),none,[0,1,4,5,6,7,8,9,10,11]⟩,
 ⟨none, .stF lA0 (.t 28) (.t 23),none,[0,1,4,5,6,7,8,9,10,11,12]⟩,
 ⟨some 29, .iad 40 lA0 (.t 18) (.t 19),none,[0,1,2,3,4,5,6,7,8,9,10,11,12,13]⟩,
 ⟨none, .stF lA0 (.t 29) (.t 27),none,[0,1,2,3,4,5,6,7,8,9,10,11,12,13,14]⟩] true 0)
 (.seq (.region [] [oq 30 (.mov (.t 8)),
 oq 31 (.ibin .add (.t 30) (.c lI [.int 1])),
 oq 8 (.mov (.t 31))] false 0)
 (.region [] [oq 32 (.mov (.t 9)),
 oq 33 (.ibin .sub (.t 32) (.c lI [.int 1])),
 oq 9 (.mov (.t 33))] false 0)))))
noncomputable def slices_reverseRangeCmpFunc_2_api_Value_i13_l0 (E:Env) (v0:Int) (v1:Int) (v2:Row):Option (Nat×List PV):=E.fix (stepOf E slices_reverseRangeCmpFunc_2_api_Value_i13_c0 slices_reverseRangeCmpFunc_2_api_Value_i13_h0 slices_reverseRangeCmpFunc_2_api_Value_i13_o0) [.r [.int v0], .r [.int v1], .r v2]
noncomputable def slices_reverseRangeCmpFunc_2_api_Value_i13_b0 (E:Env) (X:Int→Int→Row→Option (Nat×List PV)) (v0:Int) (v1:Int) (v2:Row):Option (Nat×List PV):=
 if (decide (v0<v1))=true then
 if (0:Int)≤v1∧v1<(((at_ v2 0).rows).length:Int)then
 if v1.toNat<((at_ v2 0).rows).length∧v1.toNat≠(((at_ v2 1).toI).toNat)then
 if (0:Int)≤v0∧v0<(((at_ v2 0).rows).length:Int)then
 if v0.toNat<((at_ v2 0).rows).length∧v0.toNat≠(((at_ v2 1).toI).toNat)then
 if (0:Int)≤v0∧v0<(((at_ v2 0).rows).length:Int)then
 if ((at_ v2 0).rows).length≤(((at_ v2 1).toI).toNat)∧v0.toNat<((at_ v2 0).rows).length then
 if (0:Int)≤v1∧v1<((((at_ v2 0).rows).set v0.toNat (rowsAt ((at_ v2 0).rows) v1.toNat)).length:Int)then
 if (((at_ v2 0).rows).set v0.toNat (rowsAt ((at_ v2 0).rows) v1.toNat)).length≤(((at_ v2 1).toI).toNat)∧v1.toNat<(((at_ v2 0).rows).set v0.toNat (rowsAt ((at_ v2 0).rows) v1.toNat)).length then
 X (Go.IntKind.i64.wrap (v0+1)) (Go.IntKind.i64.wrap (v1 - 1)) [.sl ((((at_ v2 0).rows).set v0.toNat (rowsAt ((at_ v2 0).rows) v1.toNat)).set v1.toNat (rowsAt ((at_ v2 0).rows) v0.toNat)), .int ((((at_ v2 1).toI).toNat:Nat):Int)]
 else none
 else none
 else none
 else none
 else none
 else none
 else none
 else none
 else
 some (0,[.r [at_ v2 0, .int ((((at_ v2 1).toI).toNat:Nat):Int)]])
theorem slices_reverseRangeCmpFunc_2_api_Value_i13_s0 (E:Env) (X:List PV→Option (Nat×List PV)) (v0:Int) (v1:Int) (v2:Row):stepOf E slices_reverseRangeCmpFunc_2_api_Value_i13_c0 slices_reverseRangeCmpFunc_2_api_Value_i13_h0 slices_reverseRangeCmpFunc_2_api_Value_i13_o0 X [.r [.int v0], .r [.int v1], .r v2]=slices_reverseRangeCmpFunc_2_api_Value_i13_b0 E (fun (v0:Int) (v1:Int) (v2:Row)=>X [.r [.int v0], .r [.int v1], .r v2]) v0 v1 v2:=by kernel_rfl
def slices_reverseRangeCmpFunc_2_api_Value_i13_a:AImp:={fn:=62,entry:=slices_reverseRangeCmpFunc_2_api_Value_i13_en,res:=[],exit:=slices_reverseRangeCmpFunc_2_api_Value_i13_ex,body:=(.seq (.region [] [oq 10 (.mov (.t 1)),
 oq 8 (.mov (.t 10))] false 0)
 (.seq (.region [] [oq 11 (.mov (.t 2)),
 oq 12 (.ibin .sub (.t 11) (.c lI [.int 1])),
 oq 9 (.mov (.t 12))] false 0)
 (.block 0 (.loop slices_reverseRangeCmpFunc_2_api_Value_i13_h0 slices_reverseRangeCmpFunc_2_api_Value_i13_o0 slices_reverseRangeCmpFunc_2_api_Value_i13_c0))))}
noncomputable def slices_reverseRangeCmpFunc_2_api_Value_i13 (E:Env) (p0:Int) (p1:Int) (p2:C) (p3:Row):Option (List PV):=
 (slices_reverseRangeCmpFunc_2_api_Value_i13_l0 E p0 (Go.IntKind.i64.wrap (p1 - 1)) [at_ p3 0, .int ((((at_ p3 1).toI).toNat:Nat):Int)]).bind fun x1=>
 some [.r [gC 0 x1.2, .int ((((at_ (gR 0 x1.2) 1).toI).toNat:Nat):Int)]]
theorem slices_reverseRangeCmpFunc_2_api_Value_i13_eq (E:Env) (p0:Int) (p1:Int) (p2:C) (p3:Row):runI E slices_reverseRangeCmpFunc_2_api_Value_i13_a [.r [.int p0], .r [.int p1], .r [p2], .r p3]=slices_reverseRangeCmpFunc_2_api_Value_i13 E p0 p1 p2 p3:=by kernel_rfl
end Go.Ev
