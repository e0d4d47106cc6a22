/-
  A part of the proof: what the functions of the program compute.
-/
import Derived.Test.YtgiibefjiloafaaGreatDoorZNum
set_option linter.all false
set_option maxRecDepth 100000
namespace Go.Ev
def types_Size_h0:Shape:={slots:=[(3, .d lI),(7, .d (.one (.sl 55))),(8, .d lI),(9, .d lI)],objs:=[]}
def types_Size_o0:List (Exit'×Shape):=[(.exit 0,{slots:=[(3, .d lI)],objs:=[]})]
def types_Size_c0:ACode:=(.seq (.region [] [oq 10 (.icmp .lss (.t 9) (.t 8))] false 0)
 (.seq (.cond (.t 10) .skip
 (.exit 0))
 (.seq (.block 1 (.seq (.region [] [oq 11 (.iad 55 lA0 (.t 7) (.t 9)),
 oq 12 (.ld lA0 55 (.t 11)),
 oq 5 (.allocO 0 lA0 [.str [], .int 0, .str [], .int 0, .int 0, .str [], .nils]),
 ⟨none, .st lA0 (.t 5) (.t 12),none,[]⟩] false 1)
 (.region [] [oq 13 (.mov (.t 3)),
 oq 14 (.fad 1 6 55 26 (.t 5)),
 oq 15 (.ld lA1 26 (.t 14)),
 oq 16 (.call 41 [lA1] [lI] [(.t 15)]),
 oq 17 (.ibin .add (.t 13) (.t 16)),
 oq 3 (.mov (.t 17))] false 0)))
 (.region [] [oq 18 (.ibin .add (.t 9) (.c lI [.int 1])),
 oq 9 (.mov (.t 18))] false 0))))
noncomputable def types_Size_l0 (E:Env) (v0:Int) (v1:C) (v2:Int) (v3:Int):Option (Nat×List PV):=E.fix (stepOf E types_Size_c0 types_Size_h0 types_Size_o0) [.r [.int v0], .r [v1], .r [.int v2], .r [.int v3]]
noncomputable def types_Size_b0 (E:Env) (X:Int→C→Int→Int→Option (Nat×List PV)) (v0:Int) (v1:C) (v2:Int) (v3:Int):Option (Nat×List PV):=
 if (decide (v3<v2))=true then
 if (0:Int)≤v3∧v3<(v1.rows.length:Int)then
 (E.pc n_types_Size [[at_ (rowsAt v1.rows v3.toNat) 1,at_ (rowsAt v1.rows v3.toNat) 2,at_ (rowsAt v1.rows v3.toNat) 3,at_ (rowsAt v1.rows v3.toNat) 4,at_ (rowsAt v1.rows v3.toNat) 5,at_ (rowsAt v1.rows v3.toNat) 6]]).bind fun y1=>
 X (Go.IntKind.i64.wrap (v0+((at_ (rowsAt y1 0) 0).toI))) v1 v2 (Go.IntKind.i64.wrap (v3+1))
 else none
 else
 some (0,[.r [.int v0]])
theorem types_Size_s0 (E:Env) (X:List PV→Option (Nat×List PV)) (v0:Int) (v1:C) (v2:Int) (v3:Int):stepOf E types_Size_c0 types_Size_h0 types_Size_o0 X [.r [.int v0], .r [v1], .r [.int v2], .r [.int v3]]=types_Size_b0 E (fun (v0:Int) (v1:C) (v2:Int) (v3:Int)=>X [.r [.int v0], .r [v1], .r [.int v2], .r [.int v3]]) v0 v1 v2 v3:=by kernel_rfl
def types_Size_a:AFun:={ps:=[lA1],rs:=[lI],res:=[(false,2,none)],body:=(.seq (.region [] [oq 1 (.boxP lA1 26 (.t 0)),
 oq 2 (.mov (.c lI [.int 0]))] false 0)
 (.seq (.region [] [oq 3 (.mov (.c lI [.int 1]))] false 0)
 (.seq (.seq (.region [] [oq 6 (.fad 5 1 26 24 (.t 1)),
 oq 7 (.ld (.one (.sl 55)) 24 (.t 6)),
 oq 8 (.lenL (.t 7)),
 oq 9 (.mov (.c lI [.int 0]))] false 0)
 (.block 0 (.loop types_Size_h0 types_Size_o0 types_Size_c0)))
 (.seq (.region [] [oq 19 (.mov (.t 3)),
 oq 2 (.mov (.t 19))] false 0)
 .ret))))}
noncomputable def types_Size (E:Env) (p0:Row):Option (List Row):=
 (types_Size_l0 E 1 (at_ p0 5) (((at_ p0 5).rows).length:Int) 0).bind fun x2=>
 some [[.int (gI 0 x2.2)]]
theorem types_Size_eq (E:Env) (p0:Row):runP E types_Size_a [p0]=types_Size E p0:=by kernel_rfl
def types_Deep_h0:Shape:={slots:=[(3, .d lI),(7, .d (.one (.sl 55))),(8, .d lI),(9, .d lI)],objs:=[]}
def types_Deep_o0:List (Exit'×Shape):=[(.exit 0,{slots:=[(3, .d lI)],objs:=[]})]
def types_Deep_c0:ACode:=(.seq (.region [] [oq 10 (.icmp .lss (.t 9) (.t 8))] false 0)
 (.seq (.cond (.t 10) .skip
 (.exit 0))
 (.seq (.block 1 (.seq (.region [] [oq 11 (.iad 55 lA0 (.t 7) (.t 9)),
 oq 12 (.ld lA0 55 (.t 11)),
 oq 5 (.allocO 0 lA0 [.str [], .int 0, .str [], .int 0, .int 0, .str [], .nils]),
 ⟨none, .st lA0 (.t 5) (.t 12),none,[]⟩] false 1)
 (.region [] [oq 13 (.mov (.t 3)),
 oq 14 (.fad 1 6 55 26 (.t 5)),
 oq 15 (.ld lA1 26 (.t 14)),
 oq 16 (.call 42 [lA1] [lI] [(.t 15)]),
 oq 17 (.imin true [(.t 13),(.t 16)]),
 oq 3 (.mov (.t 17))] false 0)))
 (.region [] [oq 18 (.ibin .add (.t 9) (.c lI [.int 1])),
 oq 9 (.mov (.t 18))] false 0))))
noncomputable def types_Deep_l0 (E:Env) (v0:Int) (v1:C) (v2:Int) (v3:Int):Option (Nat×List PV):=E.fix (stepOf E types_Deep_c0 types_Deep_h0 types_Deep_o0) [.r [.int v0], .r [v1], .r [.int v2], .r [.int v3]]
noncomputable def types_Deep_b0 (E:Env) (X:Int→C→Int→Int→Option (Nat×List PV)) (v0:Int) (v1:C) (v2:Int) (v3:Int):Option (Nat×List PV):=
 if (decide (v3<v2))=true then
 if (0:Int)≤v3∧v3<(v1.rows.length:Int)then
 (E.pc n_types_Deep [[at_ (rowsAt v1.rows v3.toNat) 1,at_ (rowsAt v1.rows v3.toNat) 2,at_ (rowsAt v1.rows v3.toNat) 3,at_ (rowsAt v1.rows v3.toNat) 4,at_ (rowsAt v1.rows v3.toNat) 5,at_ (rowsAt v1.rows v3.toNat) 6]]).bind fun y1=>
 X (if ((at_ (rowsAt y1 0) 0).toI)>v0 then (at_ (rowsAt y1 0) 0).toI else v0) v1 v2 (Go.IntKind.i64.wrap (v3+1))
 else none
 else
 some (0,[.r [.int v0]])
theorem types_Deep_s0 (E:Env) (X:List PV→Option (Nat×List PV)) (v0:Int) (v1:C) (v2:Int) (v3:Int):stepOf E types_Deep_c0 types_Deep_h0 types_Deep_o0 X [.r [.int v0], .r [v1], .r [.int v2], .r [.int v3]]=types_Deep_b0 E (fun (v0:Int) (v1:C) (v2:Int) (v3:Int)=>X [.r [.int v0], .r [v1], .r [.int v2], .r [.int v3]]) v0 v1 v2 v3:=by kernel_rfl
def types_Deep_a:AFun:={ps:=[lA1],rs:=[lI],res:=[(false,2,none)],body:=(.seq (.region [] [oq 1 (.boxP lA1 26 (.t 0)),
 oq 2 (.mov (.c lI [.int 0]))] false 0)
 (.seq (.region [] [oq 3 (.mov (.c lI [.int 0]))] false 0)
 (.seq (.seq (.region [] [oq 6 (.fad 5 1 26 24 (.t 1)),
 oq 7 (.ld (.one (.sl 55)) 24 (.t 6)),
 oq 8 (.lenL (.t 7)),
 oq 9 (.mov (.c lI [.int 0]))] false 0)
 (.block 0 (.loop types_Deep_h0 types_Deep_o0 types_Deep_c0)))
 (.seq (.region [] [oq 19 (.mov (.t 3)),
 oq 20 (.ibin .add (.t 19) (.c lI [.int 1])),
 oq 2 (.mov (.t 20))] false 0)
 .ret))))}
noncomputable def types_Deep (E:Env) (p0:Row):Option (List Row):=
 (types_Deep_l0 E 0 (at_ p0 5) (((at_ p0 5).rows).length:Int) 0).bind fun x2=>
 some [[.int (Go.IntKind.i64.wrap ((gI 0 x2.2)+1))]]
theorem types_Deep_eq (E:Env) (p0:Row):runP E types_Deep_a [p0]=types_Deep E p0:=by kernel_rfl
def slices_IndexFunc_api_Def_h0:Shape:={slots:=[(0, .d (.one (.sl 64))),(1, .d (.one (.fn 82))),(7, .d lI),(8, .d lI)],objs:=[]}
def slices_IndexFunc_api_Def_o0:List (Exit'×Shape):=[(.exit 0,{slots:=[],objs:=[]}),(.ret,{slots:=[(4, .d lI)],objs:=[]})]
def slices_IndexFunc_api_Def_c0:ACode:=(.seq (.region [] [oq 9 (.icmp .lss (.t 8) (.t 7))] false 0)
 (.seq (.cond (.t 9) .skip
 (.exit 0))
 (.seq (.block 1 (.seq (.region [] [oq 10 (.mov (.t 8)),
 oq 5 (.mov (.t 10))] false 0)
 (.seq (.region [] [oq 11 (.mov (.t 1)),
 oq 12 (.mov (.t 0)),
 oq 13 (.mov (.t 5)),
 oq 14 (.iad 64 lA0 (.t 12) (.t 13)),
 oq 15 (.ld lA0 64 (.t 14)),
 oq 16 (.callv 82 [lA0] [lB] (.t 11) [(.t 15)])] false 0)
 (.cond (.t 16) (.seq (.region [] [oq 17 (.mov (.t 5)),
 oq 4 (.mov (.t 17))] false 0)
 .ret)
 .skip))))
 (.region [] [oq 18 (.ibin .add (.t 8) (.c lI [.int 1])),
 oq 8 (.mov (.t 18))] false 0))))
noncomputable def slices_IndexFunc_api_Def_l0 (E:Env) (v0:C) (v1:C) (v2:Int) (v3:Int):Option (Nat×List PV):=E.fix (stepOf E slices_IndexFunc_api_Def_c0 slices_IndexFunc_api_Def_h0 slices_IndexFunc_api_Def_o0) [.r [v0], .r [v1], .r [.int v2], .r [.int v3]]
noncomputable def slices_IndexFunc_api_Def_b0 (E:Env) (X:C→C→Int→Int→Option (Nat×List PV)) (v0:C) (v1:C) (v2:Int) (v3:Int):Option (Nat×List PV):=
 if (decide (v3<v2))=true then
 if (0:Int)≤v3∧v3<(v0.rows.length:Int)then
 (callC E v1 [rowsAt v0.rows v3.toNat]).bind fun y1=>
 if ((at_ (rowsAt y1 0) 0).toB)=true then
 some (1,[.r [.int v3]])
 else
 X v0 v1 v2 (Go.IntKind.i64.wrap (v3+1))
 else none
 else
 some (0,[])
theorem slices_IndexFunc_api_Def_s0 (E:Env) (X:List PV→Option (Nat×List PV)) (v0:C) (v1:C) (v2:Int) (v3:Int):stepOf E slices_IndexFunc_api_Def_c0 slices_IndexFunc_api_Def_h0 slices_IndexFunc_api_Def_o0 X [.r [v0], .r [v1], .r [.int v2], .r [.int v3]]=slices_IndexFunc_api_Def_b0 E (fun (v0:C) (v1:C) (v2:Int) (v3:Int)=>X [.r [v0], .r [v1], .r [.int v2], .r [.int v3]]) v0 v1 v2 v3:=by kernel_rfl
def slices_IndexFunc_api_Def_a:AFun:={ps:=[(.one (.sl 64)),(.one (.fn 82))],rs:=[lI],res:=[(false,4,none)],body:=(.seq (.region [] [oq 4 (.mov (.c lI [.int 0]))] false 0)
 (.seq (.seq (.region [] [oq 6 (.mov (.t 0)),
 oq 7 (.lenL (.t 6)),
 oq 8 (.mov (.c lI [.int 0]))] false 0)
 (.block 0 (.loop slices_IndexFunc_api_Def_h0 slices_IndexFunc_api_Def_o0 slices_IndexFunc_api_Def_c0)))
 (.seq (.region [] [oq 4 (.mov (.c lI [.int (-1)]))] false 0)
 .ret)))}
noncomputable def slices_IndexFunc_api_Def (E:Env) (p0:C) (p1:C):Option (List Row):=
 (slices_IndexFunc_api_Def_l0 E p0 p1 (p0.rows.length:Int) 0).bind fun x2=>
 match x2.1 with
 |0=>
 some [[.int (-1)]]
 |i3+1=>
 some [[.int (gI 0 x2.2)]]
theorem slices_IndexFunc_api_Def_eq (E:Env) (p0:C) (p1:C):runP E slices_IndexFunc_api_Def_a [[p0],[p1]]=slices_IndexFunc_api_Def E p0 p1:=by kernel_rfl
def types_find_1_a:AFun:={ps:=[lA0,(.one (.ref 9))],rs:=[lB],res:=[(false,3,none)],body:=(.seq (.region [] [oq 2 (.boxP lA0 64 (.t 0)),
 oq 3 (.mov (.c lB [.bool false]))] false 0)
 (.seq (.region [] [oq 4 (.fad 0 1 64 9 (.t 2)),
 oq 5 (.ld lS 9 (.t 4)),
 oq 6 (.ld lS 9 (.t 1)),
 oq 7 (.scmp .eql (.t 5) (.t 6)),
 oq 3 (.mov (.t 7))] false 0)
 .ret))}
noncomputable def types_find_1 (E:Env) (p0:Row) (p1:C):Option (List Row):=
 if p1.isDp=true then
 some [[.bool (((at_ p0 0).toS)==((at_ p1.dpRow 0).toS))]]
 else none
theorem types_find_1_eq (E:Env) (p0:Row) (p1:C):runP E types_find_1_a [p0,[p1]]=types_find_1 E p0 p1:=by kernel_rfl
def types_find_a:AFun:={ps:=[(.one (.sl 64)),lS],rs:=[lI],res:=[(false,4,none)],body:=(.seq (.region [] [oq 3 (.boxP lS 9 (.t 1)),
 oq 4 (.mov (.c lI [.int 0]))] false 0)
 (.seq (.region [] [oq 5 (.mov (.t 0)),
 oq 6 (.mkf 59 82 [.ref 9] [(.t 3)]),
 oq 7 (.call 58 [(.one (.sl 64)),(.one (.fn 82))] [lI] [(.t 5),(.t 6)]),
 oq 4 (.mov (.t 7))] false 0)
 .ret))}
noncomputable def types_find (E:Env) (p0:C) (p1:List UInt8):Option (List Row):=
 (E.pc n_slices_IndexFunc_api_Def [[p0],[.fn n_types_find_1 [.dp [.str p1]]]]).bind fun y1=>
 some [[.int ((at_ (rowsAt y1 0) 0).toI)]]
theorem types_find_eq (E:Env) (p0:C) (p1:List UInt8):runP E types_find_a [[p0],[.str p1]]=types_find E p0 p1:=by kernel_rfl
def pattern_reader_more_i3_a:AImp:={fn:=182,entry:=pattern_reader_more_i3_en,res:=[.tmp 2],exit:=pattern_reader_more_i3_ex,body:=(.seq (.region [] [oq 2 (.mov (.c lB [.bool false]))] false 0)
 (.seq (.region [] [oq 3 (.mov (.t 0)),
 ⟨some 4, .nchk (.t 3),none,[0]⟩,
 ⟨some 5, .fad 13 1 211 4 (.t 4),none,[0,1]⟩,
 ⟨some 6, .ldC (.t 5),none,[0,1,2]⟩,
 ⟨some 7, .not (.t 6),none,[0,1,2,3]⟩,
 ⟨some 8, .mov (.t 7),none,[0,1,2,3,4]⟩,
 ⟨some 9, .mov (.t 0),some (8,true),[0,1,2,3,4,5]⟩,
 ⟨some 10, .nchk (.t 9),some (8,true),[0,1,2,3,4,5,6]⟩,
 ⟨some 11, .fad 1 1 211 3 (.t 10),some (8,true),[0,1,2,3,4,5,6,7]⟩,
 ⟨some 12, .ldC (.t 11),some (8,true),[0,1,2,3,4,5,6,7,8]⟩,
 ⟨some 13, .mov (.t 0),some (8,true),[0,1,2,3,4,5]⟩,
 ⟨some 14, .nchk (.t 13),some (8,true),[0,1,2,3,4,5,10]⟩,
 ⟨some 15, .fad 0 1 211 9 (.t 14),some (8,true),[0,1,2,3,4,5,10,11]⟩,
 ⟨some 16, .ldC (.t 15),some (8,true),[0,1,2,3,4,5,10,11,12]⟩,
 ⟨some 17, .lenS (.t 16),some (8,true),[0,1,2,3,4,5,10,11,12,13]⟩,
 ⟨some 18, .icmp .lss (.t 12) (.t 17),some (8,true),[0,1,2,3,4,5,6,7,8,9,10,11,12,13,14]⟩,
 ⟨some 19, .pick (.t 8) (.t 18) (.c lB [.bool false]),none,[0,1,2,3,4,5,6,7,8,9,10,11,12,13,14,15]⟩,
 ⟨some 2, .mov (.t 19),none,[0,1,2,3,4,5,6,7,8,9,10,11,12,13,14,15,16]⟩] true 0)
 .ret))}
noncomputable def pattern_reader_more_i3 (E:Env) (p0:List UInt8) (p1:Int) (p2:Bool) (p3:Int) (p4:Int) (p5:Int) (p6:Int) (p7:Int) (p8:Int) (p9:Int) (p10:Int) (p11:Bool) (p12:C) (p13:C):Option (List PV):=
 let K1:Bool→Option (List PV):=fun q2=>
 some [.r [.bool q2], .r [.str p0], .r [.int p1], .r [.bool p2], .r [.int p3], .r [.int p4], .r [.int p5], .r [.int p6], .r [.int p7], .r [.int p8], .r [.int p9], .r [.int p10], .r [.bool p11], .r [p12], .r [p13]]
 if (!p11)=true then
 K1 (decide (p1<(p0.length:Int)))
 else
 K1 false
theorem pattern_reader_more_i3_eq (E:Env) (p0:List UInt8) (p1:Int) (p2:Bool) (p3:Int) (p4:Int) (p5:Int) (p6:Int) (p7:Int) (p8:Int) (p9:Int) (p10:Int) (p11:Bool) (p12:C) (p13:C):runI E pattern_reader_more_i3_a [.r [.str p0], .r [.int p1], .r [.bool p2], .r [.int p3], .r [.int p4], .r [.int p5], .r [.int p6], .r [.int p7], .r [.int p8], .r [.int p9], .r [.int p10], .r [.bool p11], .r [p12], .r [p13]]=pattern_reader_more_i3 E p0 p1 p2 p3 p4 p5 p6 p7 p8 p9 p10 p11 p12 p13:=by kernel_rfl
def pattern_reader_peek_i4_a:AImp:={fn:=183,entry:=pattern_reader_peek_i4_en,res:=[.tmp 2],exit:=pattern_reader_peek_i4_ex,body:=(.seq (.region [] [oq 2 (.mov (.c lU [.int 0]))] false 0)
 (.seq (.seq (.region [] [oq 3 (.mov (.t 0)),
 ⟨some 4, .nchk (.t 3),none,[0]⟩,
 ⟨some 5, .fad 1 1 211 3 (.t 4),none,[0,1]⟩,
 ⟨some 6, .ldC (.t 5),none,[0,1,2]⟩,
 oq 7 (.mov (.t 0)),
 ⟨some 8, .nchk (.t 7),none,[4]⟩,
 ⟨some 9, .fad 0 1 211 9 (.t 8),none,[4,5]⟩,
 ⟨some 10, .ldC (.t 9),none,[4,5,6]⟩,
 ⟨some 11, .lenS (.t 10),none,[4,5,6,7]⟩,
 ⟨some 12, .icmp .geq (.t 6) (.t 11),none,[0,1,2,3,4,5,6,7,8]⟩] true 0)
 (.cond (.t 12) (.seq (.region [] [oq 2 (.mov (.c lU [.int 0]))] false 0)
 .ret)
 .skip))
 (.seq (.region [] [oq 13 (.mov (.t 0)),
 ⟨some 14, .nchk (.t 13),none,[0]⟩,
 ⟨some 15, .fad 0 1 211 9 (.t 14),none,[0,1]⟩,
 ⟨some 16, .ldC (.t 15),none,[0,1,2]⟩,
 oq 17 (.mov (.t 0)),
 ⟨some 18, .nchk (.t 17),none,[4]⟩,
 ⟨some 19, .fad 1 1 211 3 (.t 18),none,[4,5]⟩,
 ⟨some 20, .ldC (.t 19),none,[4,5,6]⟩,
 ⟨some 21, .idxS (.t 16) (.t 20),none,[0,1,2,3,4,5,6,7]⟩,
 ⟨some 2, .mov (.t 21),none,[0,1,2,3,4,5,6,7,8]⟩] true 0)
 .ret)))}
noncomputable def pattern_reader_peek_i4 (E:Env) (p0:List UInt8) (p1:Int) (p2:Bool) (p3:Int) (p4:Int) (p5:Int) (p6:Int) (p7:Int) (p8:Int) (p9:Int) (p10:Int) (p11:Bool) (p12:C) (p13:C):Option (List PV):=
 if (decide (p1≥(p0.length:Int)))=true then
 some [.r [.int 0], .r [.str p0], .r [.int p1], .r [.bool p2], .r [.int p3], .r [.int p4], .r [.int p5], .r [.int p6], .r [.int p7], .r [.int p8], .r [.int p9], .r [.int p10], .r [.bool p11], .r [p12], .r [p13]]
 else
 if (0:Int)≤p1∧p1<(p0.length:Int)then
 some [.r [.int ((p0.getD p1.toNat 0).toNat:Int)], .r [.str p0], .r [.int p1], .r [.bool p2], .r [.int p3], .r [.int p4], .r [.int p5], .r [.int p6], .r [.int p7], .r [.int p8], .r [.int p9], .r [.int p10], .r [.bool p11], .r [p12], .r [p13]]
 else none
theorem pattern_reader_peek_i4_eq (E:Env) (p0:List UInt8) (p1:Int) (p2:Bool) (p3:Int) (p4:Int) (p5:Int) (p6:Int) (p7:Int) (p8:Int) (p9:Int) (p10:Int) (p11:Bool) (p12:C) (p13:C):runI E pattern_reader_peek_i4_a [.r [.str p0], .r [.int p1], .r [.bool p2], .r [.int p3], .r [.int p4], .r [.int p5], .r [.int p6], .r [.int p7], .r [.int p8], .r [.int p9], .r [.int p10], .r [.bool p11], .r [p12], .r [p13]]=pattern_reader_peek_i4 E p0 p1 p2 p3 p4 p5 p6 p7 p8 p9 p10 p11 p12 p13:=by kernel_rfl
def internal_stringslite_IndexByte_a:AFun:={ps:=[lS,lU],rs:=[lI],res:=[(false,4,none)],body:=(.seq (.region [] [oq 4 (.mov (.c lI [.int 0]))] false 0)
 (.seq (.region [] [oq 5 (.mov (.t 0)),
 oq 6 (.mov (.t 1)),
 oq 7 (.ixbS 180 (.t 5) (.t 6)),
 oq 4 (.mov (.t 7))] false 0)
 .ret))}
noncomputable def internal_stringslite_IndexByte (E:Env) (p0:List UInt8) (p1:Int):Option (List Row):=
 some [[.int (idxBy p0 (p1).toNat.toUInt8)]]
theorem internal_stringslite_IndexByte_eq (E:Env) (p0:List UInt8) (p1:Int):runP E internal_stringslite_IndexByte_a [[.str p0],[.int p1]]=internal_stringslite_IndexByte E p0 p1:=by kernel_rfl
def strings_IndexByte_a:AFun:={ps:=[lS,lU],rs:=[lI],res:=[(false,4,none)],body:=(.seq (.region [] [oq 4 (.mov (.c lI [.int 0]))] false 0)
 (.seq (.region [] [oq 5 (.mov (.t 0)),
 oq 6 (.mov (.t 1)),
 oq 7 (.call 158 [lS,lU] [lI] [(.t 5),(.t 6)]),
 oq 4 (.mov (.t 7))] false 0)
 .ret))}
noncomputable def strings_IndexByte (E:Env) (p0:List UInt8) (p1:Int):Option (List Row):=
 (E.pc n_internal_stringslite_IndexByte [[.str p0],[.int p1]]).bind fun y1=>
 some [[.int ((at_ (rowsAt y1 0) 0).toI)]]
theorem strings_IndexByte_eq (E:Env) (p0:List UInt8) (p1:Int):runP E strings_IndexByte_a [[.str p0],[.int p1]]=strings_IndexByte E p0 p1:=by kernel_rfl
def pattern_class_turn_i7_h0:Shape:={slots:=[(0, .ptr 0 0),(3, .d lI)],objs:=[.var lA3],m:=1}
def pattern_class_turn_i7_o0:List (Exit'×Shape):=[(.exit 0,{slots:=[],objs:=[.var lA3],m:=1})]
def pattern_class_turn_i7_c0:ACode:=(.seq (.region [] [oq 4 (.icmp .lss (.t 3) (.c lI [.int 4]))] false 0)
 (.seq (.cond (.t 4) .skip
 (.exit 0))
 (.seq (.block 1 (.seq (.region [] [oq 5 (.mov (.t 3)),
 oq 2 (.mov (.t 5))] false 0)
 (.region [] [oq 6 (.mov (.t 0)),
 oq 7 (.mov (.t 2)),
 oq 8 (.mov (.t 0)),
 oq 9 (.mov (.t 2)),
 ⟨some 10, .nchk (.t 8),none,[2]⟩,
 ⟨some 11, .iadA 4 209 135 lW (.t 10) (.t 9),none,[2,3,4]⟩,
 ⟨some 12, .ld lW 135 (.t 11),none,[2,3,4,5]⟩,
 ⟨some 13, .icpl (.t 12),none,[2,3,4,5,6]⟩,
 ⟨some 14, .nchk (.t 6),none,[0]⟩,
 ⟨some 15, .iadA 4 209 135 lW (.t 14) (.t 7),none,[0,1,2,3,4,5,6,7,8]⟩,
 ⟨none, .st lW (.t 15) (.t 13),none,[0,1,2,3,4,5,6,7,8,9]⟩] true 0)))
 (.region [] [oq 16 (.ibin .add (.t 3) (.c lI [.int 1])),
 oq 3 (.mov (.t 16))] false 0))))
noncomputable def pattern_class_turn_i7_l0 (E:Env) (v0:Int) (v1:Row):Option (Nat×List PV):=E.fix (stepOf E pattern_class_turn_i7_c0 pattern_class_turn_i7_h0 pattern_class_turn_i7_o0) [.r [.int v0], .r v1]
noncomputable def pattern_class_turn_i7_b0 (E:Env) (X:Int→Row→Option (Nat×List PV)) (v0:Int) (v1:Row):Option (Nat×List PV):=
 if (decide (v0<4))=true then
 if (0:Int)≤v0∧v0<(4:Int)then
 part lW lA3 (0+(v0.toNat*1)) v1 fun y1=>
 if (0:Int)≤v0∧v0<(4:Int)then
 turn lW lA3 (0+(v0.toNat*1)) v1 [.int (bitsOf .xor .u64 (if Go.IntKind.signed .u64 then -1 else Go.IntKind.max .u64) ((at_ y1 0).toI))] fun r2=>
 X (Go.IntKind.i64.wrap (v0+1)) r2
 else none
 else none
 else
 some (0,[.r v1])
theorem pattern_class_turn_i7_s0 (E:Env) (X:List PV→Option (Nat×List PV)) (v0:Int) (v1:Row):stepOf E pattern_class_turn_i7_c0 pattern_class_turn_i7_h0 pattern_class_turn_i7_o0 X [.r [.int v0], .r v1]=pattern_class_turn_i7_b0 E (fun (v0:Int) (v1:Row)=>X [.r [.int v0], .r v1]) v0 v1:=by kernel_rfl
def pattern_class_turn_i7_a:AImp:={fn:=189,entry:=pattern_class_turn_i7_en,res:=[],exit:=pattern_class_turn_i7_ex,body:=(.seq (.region [] [oq 3 (.mov (.c lI [.int 0]))] false 0)
 (.block 0 (.loop pattern_class_turn_i7_h0 pattern_class_turn_i7_o0 pattern_class_turn_i7_c0)))}
noncomputable def pattern_class_turn_i7 (E:Env) (p0:Row):Option (List PV):=
 (pattern_class_turn_i7_l0 E 0 p0).bind fun x3=>
 some [.r (gR 0 x3.2)]
theorem pattern_class_turn_i7_eq (E:Env) (p0:Row):runI E pattern_class_turn_i7_a [.r p0]=pattern_class_turn_i7 E p0:=by kernel_rfl
def pattern_reader_single_i9_a:AImp:={fn:=193,entry:=pattern_reader_single_i9_en,res:=[.tmp 2],exit:=pattern_reader_single_i9_ex,body:=(.seq (.region [] [oq 2 (.mov (.c lU [.int 0]))] false 0)
 (.seq (.seq (.region [] [oq 4 (.mov (.t 0)),
 ⟨some 5, .nchk (.t 4),none,[0]⟩,
 ⟨some 6, .fad 1 1 211 3 (.t 5),none,[0,1]⟩,
 ⟨some 7, .ldC (.t 6),none,[0,1,2]⟩,
 oq 8 (.mov (.t 0)),
 ⟨some 9, .nchk (.t 8),none,[4]⟩,
 ⟨some 10, .fad 0 1 211 9 (.t 9),none,[4,5]⟩,
 ⟨some 11, .ldC (.t 10),none,[4,5,6]⟩,
 ⟨some 12, .lenS (.t 11),none,[4,5,6,7]⟩,
 ⟨some 13, .icmp .geq (.t 7) (.t 12),none,[0,1,2,3,4,5,6,7,8]⟩] true 0)
 (.cond (.t 13) (.seq (.region [] [oq 14 (.mov (.t 0)),
 oq 15 (.nchk (.t 14)),
 oq 16 (.fad 13 1 211 4 (.t 15)),
 ⟨none, .stC (.t 16) (.c lB [.bool true]),none,[]⟩] false 0)
 (.seq (.region [] [oq 2 (.mov (.c lU [.int 0]))] false 0)
 .ret))
 .skip))
 (.seq (.region [] [oq 17 (.mov (.t 0)),
 ⟨some 18, .nchk (.t 17),none,[0]⟩,
 ⟨some 19, .fad 0 1 211 9 (.t 18),none,[0,1]⟩,
 ⟨some 20, .ldC (.t 19),none,[0,1,2]⟩,
 oq 21 (.mov (.t 0)),
 ⟨some 22, .nchk (.t 21),none,[4]⟩,
 ⟨some 23, .fad 1 1 211 3 (.t 22),none,[4,5]⟩,
 ⟨some 24, .ldC (.t 23),none,[4,5,6]⟩,
 ⟨some 25, .idxS (.t 20) (.t 24),none,[0,1,2,3,4,5,6,7]⟩,
 ⟨some 3, .mov (.t 25),none,[0,1,2,3,4,5,6,7,8]⟩] true 0)
 (.seq (.region [] [oq 26 (.mov (.t 0)),
 oq 27 (.nchk (.t 26)),
 oq 28 (.fad 1 1 211 3 (.t 27)),
 oq 29 (.ldC (.t 28)),
 oq 30 (.ibin .add (.t 29) (.c lI [.int 1])),
 oq 31 (.nchk (.t 26)),
 oq 32 (.fad 1 1 211 3 (.t 31)),
 ⟨none, .stC (.t 32) (.t 30),none,[]⟩] false 0)
 (.seq (.seq (.join [(.normal,{slots:=[(0, .ptr 0 0),(3, .d lU),(42, .d lB)],objs:=bS1,m:=3})] (.region [] [oq 33 (.mov (.t 3)),
 oq 34 (.icmp .eql (.t 33) (.c lU [.int 93])),
 oq 35 (.mov (.t 34)),
 ⟨some 36, .mov (.t 3),some (35,false),[]⟩,
 ⟨some 37, .icmp .eql (.t 36) (.c lU [.int 94]),some (35,false),[]⟩,
 oq 38 (.pick (.t 35) (.c lB [.bool true]) (.t 37)),
 oq 39 (.mov (.t 38)),
 ⟨some 40, .mov (.t 3),some (39,false),[]⟩,
 ⟨some 41, .icmp .eql (.t 40) (.c lU [.int 45]),some (39,false),[]⟩,
 oq 42 (.pick (.t 39) (.c lB [.bool true]) (.t 41))] false 0))
 (.join [(.normal,{slots:=[(0, .ptr 0 0),(3, .d lU)],objs:=bS1,m:=3})] (.cond (.t 42) (.region [] [oq 43 (.mov (.t 0)),
 oq 44 (.nchk (.t 43)),
 oq 45 (.fad 13 1 211 4 (.t 44)),
 ⟨none, .stC (.t 45) (.c lB [.bool true]),none,[]⟩] false 0)
 .skip)))
 (.seq (.seq (.region [] [oq 46 (.mov (.t 3)),
 oq 47 (.icmp .eql (.t 46) (.c lU [.int 92]))] false 0)
 (.cond (.t 47) (.seq (.seq (.region [] [oq 48 (.mov (.t 0)),
 ⟨some 49, .nchk (.t 48),none,[0]⟩,
 ⟨some 50, .fad 1 1 211 3 (.t 49),none,[0,1]⟩,
 ⟨some 51, .ldC (.t 50),none,[0,1,2]⟩,
 oq 52 (.mov (.t 0)),
 ⟨some 53, .nchk (.t 52),none,[4]⟩,
 ⟨some 54, .fad 0 1 211 9 (.t 53),none,[4,5]⟩,
 ⟨some 55, .ldC (.t 54),none,[4,5,6]⟩,
 ⟨some 56, .lenS (.t 55),none,[4,5,6,7]⟩,
 ⟨some 57, .icmp .geq (.t 51) (.t 56),none,[0,1,2,3,4,5,6,7,8]⟩] true 0)
 (.cond (.t 57) (.seq (.region [] [oq 58 (.mov (.t 0)),
 oq 59 (.nchk (.t 58)),
 oq 60 (.fad 13 1 211 4 (.t 59)),
 ⟨none, .stC (.t 60) (.c lB [.bool true]),none,[]⟩] false 0)
 (.seq (.region [] [oq 2 (.mov (.c lU [.int 0]))] false 0)
 .ret))
 .skip))
 (.seq (.region [] [oq 61 (.mov (.t 0)),
 ⟨some 62, .nchk (.t 61),none,[0]⟩,
 ⟨some 63, .fad 0 1 211 9 (.t 62),none,[0,1]⟩,
 ⟨some 64, .ldC (.t 63),none,[0,1,2]⟩,
 oq 65 (.mov (.t 0)),
 ⟨some 66, .nchk (.t 65),none,[4]⟩,
 ⟨some 67, .fad 1 1 211 3 (.t 66),none,[4,5]⟩,
 ⟨some 68, .ldC (.t 67),none,[4,5,6]⟩,
 ⟨some 69, .idxS (.t 64) (.t 68),none,[0,1,2,3,4,5,6,7]⟩,
 ⟨some 3, .mov (.t 69),none,[0,1,2,3,4,5,6,7,8]⟩] true 0)
 (.region [] [oq 70 (.mov (.t 0)),
 oq 71 (.nchk (.t 70)),
 oq 72 (.fad 1 1 211 3 (.t 71)),
 oq 73 (.ldC (.t 72)),
 oq 74 (.ibin .add (.t 73) (.c lI [.int 1])),
 oq 75 (.nchk (.t 70)),
 oq 76 (.fad 1 1 211 3 (.t 75)),
 ⟨none, .stC (.t 76) (.t 74),none,[]⟩] false 0)))
 .skip))
 (.seq (.region [] [oq 77 (.mov (.t 3)),
 oq 2 (.mov (.t 77))] false 0)
 .ret)))))))}
noncomputable def pattern_reader_single_i9 (E:Env) (p0:List UInt8) (p1:Int) (p2:Bool) (p3:Int) (p4:Int) (p5:Int) (p6:Int) (p7:Int) (p8:Int) (p9:Int) (p10:Int) (p11:Bool) (p12:C) (p13:C):Option (List PV):=
 if (decide (p1≥(p0.length:Int)))=true then
 some [.r [.int 0], .r [.str p0], .r [.int p1], .r [.bool p2], .r [.int p3], .r [.int p4], .r [.int p5], .r [.int p6], .r [.int p7], .r [.int p8], .r [.int p9], .r [.int p10], .r [.bool true], .r [p12], .r [p13]]
 else
 if (0:Int)≤p1∧p1<(p0.length:Int)then
 (let K1:Bool→Option (Nat×List PV):=fun q2=>
 let K3:Bool→Option (Nat×List PV):=fun q4=>
 some (0,[.r [.int ((p0.getD p1.toNat 0).toNat:Int)], .r [.bool q4], .r [.str p0], .r [.int (Go.IntKind.i64.wrap (p1+1))], .r [.bool p2], .r [.int p3], .r [.int p4], .r [.int p5], .r [.int p6], .r [.int p7], .r [.int p8], .r [.int p9], .r [.int p10], .r [.bool p11], .r [p12], .r [p13]])
 if q2=true then
 K3 true
 else
 K3 (((p0.getD p1.toNat 0).toNat:Int)==45)
 if (((p0.getD p1.toNat 0).toNat:Int)==93)=true then
 K1 true
 else
 K1 (((p0.getD p1.toNat 0).toNat:Int)==94)).bind fun x5=>
 (if (gB 1 x5.2)=true then
 some (0,[.r [.int (gI 0 x5.2)], .r [.str (gS 2 x5.2)], .r [.int (gI 3 x5.2)], .r [.bool (gB 4 x5.2)], .r [.int (gI 5 x5.2)], .r [.int (gI 6 x5.2)], .r [.int (gI 7 x5.2)], .r [.int (gI 8 x5.2)], .r [.int (gI 9 x5.2)], .r [.int (gI 10 x5.2)], .r [.int (gI 11 x5.2)], .r [.int (gI 12 x5.2)], .r [.bool true], .r [gC 14 x5.2], .r [gC 15 x5.2]])
 else
 some (0,[.r [.int (gI 0 x5.2)], .r [.str (gS 2 x5.2)], .r [.int (gI 3 x5.2)], .r [.bool (gB 4 x5.2)], .r [.int (gI 5 x5.2)], .r [.int (gI 6 x5.2)], .r [.int (gI 7 x5.2)], .r [.int (gI 8 x5.2)], .r [.int (gI 9 x5.2)], .r [.int (gI 10 x5.2)], .r [.int (gI 11 x5.2)], .r [.int (gI 12 x5.2)], .r [.bool (gB 13 x5.2)], .r [gC 14 x5.2], .r [gC 15 x5.2]])).bind fun x6=>
 if ((gI 0 x6.2)==92)=true then
 if (decide ((gI 2 x6.2)≥((gS 1 x6.2).length:Int)))=true then
 some [.r [.int 0], .r [.str (gS 1 x6.2)], .r [.int (gI 2 x6.2)], .r [.bool (gB 3 x6.2)], .r [.int (gI 4 x6.2)], .r [.int (gI 5 x6.2)], .r [.int (gI 6 x6.2)], .r [.int (gI 7 x6.2)], .r [.int (gI 8 x6.2)], .r [.int (gI 9 x6.2)], .r [.int (gI 10 x6.2)], .r [.int (gI 11 x6.2)], .r [.bool true], .r [gC 13 x6.2], .r [gC 14 x6.2]]
 else
 if (0:Int)≤(gI 2 x6.2)∧(gI 2 x6.2)<((gS 1 x6.2).length:Int)then
 some [.r [.int (((gS 1 x6.2).getD ((gI 2 x6.2).toNat) 0).toNat:Int)], .r [.str (gS 1 x6.2)], .r [.int (Go.IntKind.i64.wrap ((gI 2 x6.2)+1))], .r [.bool (gB 3 x6.2)], .r [.int (gI 4 x6.2)], .r [.int (gI 5 x6.2)], .r [.int (gI 6 x6.2)], .r [.int (gI 7 x6.2)], .r [.int (gI 8 x6.2)], .r [.int (gI 9 x6.2)], .r [.int (gI 10 x6.2)], .r [.int (gI 11 x6.2)], .r [.bool (gB 12 x6.2)], .r [gC 13 x6.2], .r [gC 14 x6.2]]
 else none
 else
 some [.r [.int (gI 0 x6.2)], .r [.str (gS 1 x6.2)], .r [.int (gI 2 x6.2)], .r [.bool (gB 3 x6.2)], .r [.int (gI 4 x6.2)], .r [.int (gI 5 x6.2)], .r [.int (gI 6 x6.2)], .r [.int (gI 7 x6.2)], .r [.int (gI 8 x6.2)], .r [.int (gI 9 x6.2)], .r [.int (gI 10 x6.2)], .r [.int (gI 11 x6.2)], .r [.bool (gB 12 x6.2)], .r [gC 13 x6.2], .r [gC 14 x6.2]]
 else none
theorem pattern_reader_single_i9_eq (E:Env) (p0:List UInt8) (p1:Int) (p2:Bool) (p3:Int) (p4:Int) (p5:Int) (p6:Int) (p7:Int) (p8:Int) (p9:Int) (p10:Int) (p11:Bool) (p12:C) (p13:C):runI E pattern_reader_single_i9_a [.r [.str p0], .r [.int p1], .r [.bool p2], .r [.int p3], .r [.int p4], .r [.int p5], .r [.int p6], .r [.int p7], .r [.int p8], .r [.int p9], .r [.int p10], .r [.bool p11], .r [p12], .r [p13]]=pattern_reader_single_i9 E p0 p1 p2 p3 p4 p5 p6 p7 p8 p9 p10 p11 p12 p13:=by kernel_rfl
def pattern_class_add_i10_a:AImp:={fn:=191,entry:=pattern_class_add_i10_en,res:=[],exit:=pattern_class_add_i10_ex,body:=(.region [] [oq 4 (.mov (.t 0)),
 oq 5 (.mov (.t 1)),
 ⟨some 6, .idiv .quo (.t 5) (.c lU [.int 64]),none,[1]⟩,
 ⟨some 7, .nchk (.t 4),none,[0]⟩,
 ⟨some 8, .iadA 4 209 135 lW (.t 7) (.t 6),none,[0,1,2,3]⟩,
 ⟨some 9, .ld lW 135 (.t 8),none,[0,1,2,3,4]⟩,
 oq 10 (.mov (.t 1)),
 ⟨some 11, .idiv .rem (.t 10) (.c lU [.int 64]),none,[6]⟩,
 ⟨some 12, .shf .shl (.c lW [.int 1]) (.t 11),none,[6,7]⟩,
 ⟨some 13, .ibin .or (.t 9) (.t 12),none,[0,1,2,3,4,5,6,7,8]⟩,
 ⟨some 14, .nchk (.t 4),none,[0]⟩,
 ⟨some 15, .iadA 4 209 135 lW (.t 14) (.t 6),none,[0,1,2,3,4,5,6,7,8,9,10]⟩,
 ⟨none, .st lW (.t 15) (.t 13),none,[0,1,2,3,4,5,6,7,8,9,10,11]⟩] true 0)}
noncomputable def pattern_class_add_i10 (E:Env) (p0:Int) (p1:Row):Option (List PV):=
 if (0:Int)≤(Go.IntKind.u8.wrap (p0.tdiv 64))∧(Go.IntKind.u8.wrap (p0.tdiv 64))<(4:Int)then
 part lW lA3 (0+(((Go.IntKind.u8.wrap (p0.tdiv 64)).toNat)*1)) p1 fun y1=>
 if p0.tmod 64<0 then none else if (0:Int)≤(Go.IntKind.u8.wrap (p0.tdiv 64))∧(Go.IntKind.u8.wrap (p0.tdiv 64))<(4:Int)then
 turn lW lA3 (0+(((Go.IntKind.u8.wrap (p0.tdiv 64)).toNat)*1)) p1 [.int (bitsOf .or .u64 ((at_ y1 0).toI) (Go.IntKind.u64.wrap (1*2^(min ((p0.tmod 64).toNat) (Go.IntKind.bits .u64)))))] fun r2=>
 some [.r r2]
 else none
 else none
theorem pattern_class_add_i10_eq (E:Env) (p0:Int) (p1:Row):runI E pattern_class_add_i10_a [.r [.int p0], .r p1]=pattern_class_add_i10 E p0 p1:=by kernel_rfl
def pattern_reader_bytes_i8_h1:Shape:={slots:=[(0, .ptr 0 0),(2, .ptr 3 0),(3, .ptr 4 0),(4, .d lB),(6, .d lU),(7, .d lI)],objs:=bS2,m:=3}
def pattern_reader_bytes_i8_o1:List (Exit'×Shape):=[(.exit 2,{slots:=[(0, .ptr 0 0),(2, .ptr 3 0),(3, .ptr 4 0),(4, .d lB)],objs:=bS2,m:=3})]
def pattern_reader_bytes_i8_c1:ACode:=(.seq (.seq (.region [] [oq 71 (.mov (.t 7)),
 oq 72 (.mov (.t 6)),
 oq 73 (.i2i .i64 (.t 72)),
 oq 74 (.icmp .leq (.t 71) (.t 73)),
 oq 75 (.mov (.t 74)),
 ⟨some 76, .mov (.t 0),some (75,true),[]⟩,
 ⟨some 77, .nchk (.t 76),some (75,true),[]⟩,
 ⟨some 78, .fad 13 1 211 4 (.t 77),some (75,true),[]⟩,
 ⟨some 79, .ldC (.t 78),some (75,true),[]⟩,
 ⟨some 80, .not (.t 79),some (75,true),[]⟩,
 oq 81 (.pick (.t 75) (.t 80) (.c lB [.bool false]))] false 0)
 (.cond (.t 81) .skip
 (.exit 2)))
 (.seq (.block 3 (.region [] [oq 84 (.mov (.t 7)),
 oq 85 (.i2i .u8 (.t 84)),
 oq 86 (.icall 227 191 (pattern_class_add_i10_en) (pattern_class_add_i10_ex) [4] 0 none [(.t 3),(.t 85)])] false 0))
 (.region [] [oq 82 (.mov (.t 7)),
 oq 83 (.ibin .add (.t 82) (.c lI [.int 1])),
 oq 7 (.mov (.t 83))] false 0)))
noncomputable def pattern_reader_bytes_i8_l1 (E:Env) (v0:Bool) (v1:Int) (v2:Int) (v3:List UInt8) (v4:Int) (v5:Bool) (v6:Int) (v7:Int) (v8:Int) (v9:Int) (v10:Int) (v11:Int) (v12:Int) (v13:Int) (v14:Bool) (v15:C) (v16:C) (v17:Row) (v18:Row):Option (Nat×List PV):=E.fix (stepOf E pattern_reader_bytes_i8_c1 pattern_reader_bytes_i8_h1 pattern_reader_bytes_i8_o1) [.r [.bool v0], .r [.int v1], .r [.int v2], .r [.str v3], .r [.int v4], .r [.bool v5], .r [.int v6], .r [.int v7], .r [.int v8], .r [.int v9], .r [.int v10], .r [.int v11], .r [.int v12], .r [.int v13], .r [.bool v14], .r [v15], .r [v16], .r v17, .r v18]
noncomputable def pattern_reader_bytes_i8_b1 (E:Env) (X:Bool→Int→Int→List UInt8→Int→Bool→Int→Int→Int→Int→Int→Int→Int→Int→Bool→C→C→Row→Row→Option (Nat×List PV)) (v0:Bool) (v1:Int) (v2:Int) (v3:List UInt8) (v4:Int) (v5:Bool) (v6:Int) (v7:Int) (v8:Int) (v9:Int) (v10:Int) (v11:Int) (v12:Int) (v13:Int) (v14:Bool) (v15:C) (v16:C) (v17:Row) (v18:Row):Option (Nat×List PV):=
 let K24:Bool→Option (Nat×List PV):=fun q25=>
 if q25=true then
 (E.ic pattern_class_add_i10_n [.r [.int (Go.IntKind.u8.wrap v2)], .r v18]).bind fun y26=>
 X v0 v1 (Go.IntKind.i64.wrap (v2+1)) v3 v4 v5 v6 v7 v8 v9 v10 v11 v12 v13 v14 v15 v16 v17 (gR 0 y26)
 else
 some (0,[.r [.bool v0], .r [.str v3], .r [.int v4], .r [.bool v5], .r [.int v6], .r [.int v7], .r [.int v8], .r [.int v9], .r [.int v10], .r [.int v11], .r [.int v12], .r [.int v13], .r [.bool v14], .r [v15], .r [v16], .r v17, .r v18])
 if (decide (v2≤(Go.IntKind.i64.wrap v1)))=true then
 K24 (!v14)
 else
 K24 false
theorem pattern_reader_bytes_i8_s1 (E:Env) (X:List PV→Option (Nat×List PV)) (v0:Bool) (v1:Int) (v2:Int) (v3:List UInt8) (v4:Int) (v5:Bool) (v6:Int) (v7:Int) (v8:Int) (v9:Int) (v10:Int) (v11:Int) (v12:Int) (v13:Int) (v14:Bool) (v15:C) (v16:C) (v17:Row) (v18:Row):stepOf E pattern_reader_bytes_i8_c1 pattern_reader_bytes_i8_h1 pattern_reader_bytes_i8_o1 X [.r [.bool v0], .r [.int v1], .r [.int v2], .r [.str v3], .r [.int v4], .r [.bool v5], .r [.int v6], .r [.int v7], .r [.int v8], .r [.int v9], .r [.int v10], .r [.int v11], .r [.int v12], .r [.int v13], .r [.bool v14], .r [v15], .r [v16], .r v17, .r v18]=pattern_reader_bytes_i8_b1 E (fun (v0:Bool) (v1:Int) (v2:Int) (v3:List UInt8) (v4:Int) (v5:Bool) (v6:Int) (v7:Int) (v8:Int) (v9:Int) (v10:Int) (v11:Int) (v12:Int) (v13:Int) (v14:Bool) (v15:C) (v16:C) (v17:Row) (v18:Row)=>X [.r [.bool v0], .r [.int v1], .r [.int v2], .r [.str v3], .r [.int v4], .r [.bool v5], .r [.int v6], .r [.int v7], .r [.int v8], .r [.int v9], .r [.int v10], .r [.int v11], .r [.int v12], .r [.int v13], .r [.bool v14], .r [v15], .r [v16], .r v17, .r v18]) v0 v1 v2 v3 v4 v5 v6 v7 v8 v9 v10 v11 v12 v13 v14 v15 v16 v17 v18:=by kernel_rfl
def pattern_reader_bytes_i8_h0:Shape:={slots:=[(0, .ptr 0 0),(2, .ptr 3 0),(3, .ptr 4 0),(4, .d lB)],objs:=bS2,m:=3}
def pattern_reader_bytes_i8_o0:List (Exit'×Shape):=[(.exit 0,{slots:=[(0, .ptr 0 0),(2, .ptr 3 0),(3, .ptr 4 0),(4, .d lB)],objs:=bS2,m:=3})]
def pattern_reader_bytes_i8_c0:ACode:=(.seq (.seq (.join [(.normal,{slots:=[(0, .ptr 0 0),(2, .ptr 3 0),(3, .ptr 4 0),(4, .d lB),(37, .d lB)],objs:=bS2,m:=3})] (.region [] [oq 31 (.mov (.t 0)),
 oq 32 (.icall 220 182 (pattern_reader_more_i3_en) (pattern_reader_more_i3_ex) [0,1,2] 0 none [(.t 31)]),
 oq 33 (.mov (.t 32)),
 ⟨some 34, .mov (.t 0),some (33,true),[]⟩,
 ⟨some 35, .icall 221 183 (pattern_reader_peek_i4_en) (pattern_reader_peek_i4_ex) [0,1,2] 0 none [(.t 34)],some (33,true),[]⟩,
 ⟨some 36, .icmp .neq (.t 35) (.c lU [.int 93]),some (33,true),[]⟩,
 oq 37 (.pick (.t 33) (.t 36) (.c lB [.bool false]))] false 0))
 (.cond (.t 37) .skip
 (.exit 0)))
 (.block 1 (.seq (.region [] [oq 38 (.mov (.t 0)),
 oq 39 (.icall 226 193 (pattern_reader_single_i9_en) (pattern_reader_single_i9_ex) [0,1,2] 0 none [(.t 38)]),
 oq 5 (.mov (.t 39))] false 0)
 (.seq (.region [] [oq 40 (.mov (.t 5)),
 oq 6 (.mov (.t 40))] false 0)
 (.seq (.seq (.join [(.normal,{slots:=[(0, .ptr 0 0),(2, .ptr 3 0),(3, .ptr 4 0),(4, .d lB),(5, .d lU),(6, .d lU),(47, .d lB)],objs:=bS2,m:=3})] (.region [] [oq 41 (.mov (.t 0)),
 oq 42 (.icall 220 182 (pattern_reader_more_i3_en) (pattern_reader_more_i3_ex) [0,1,2] 0 none [(.t 41)]),
 oq 43 (.mov (.t 42)),
 ⟨some 44, .mov (.t 0),some (43,true),[]⟩,
 ⟨some 45, .icall 221 183 (pattern_reader_peek_i4_en) (pattern_reader_peek_i4_ex) [0,1,2] 0 none [(.t 44)],some (43,true),[]⟩,
 ⟨some 46, .icmp .eql (.t 45) (.c lU [.int 45]),some (43,true),[]⟩,
 oq 47 (.pick (.t 43) (.t 46) (.c lB [.bool false]))] false 0))
 (.join [(.normal,{slots:=[(0, .ptr 0 0),(2, .ptr 3 0),(3, .ptr 4 0),(4, .d lB),(5, .d lU),(6, .d lU)],objs:=bS2,m:=3})] (.cond (.t 47) (.seq (.region [] [oq 48 (.mov (.t 0)),
 oq 49 (.nchk (.t 48)),
 oq 50 (.fad 1 1 211 3 (.t 49)),
 oq 51 (.ldC (.t 50)),
 oq 52 (.ibin .add (.t 51) (.c lI [.int 1])),
 oq 53 (.nchk (.t 48)),
 oq 54 (.fad 1 1 211 3 (.t 53)),
 ⟨none, .stC (.t 54) (.t 52),none,[]⟩] false 0)
 (.region [] [oq 55 (.mov (.t 0)),
 oq 56 (.icall 226 193 (pattern_reader_single_i9_en) (pattern_reader_single_i9_ex) [0,1,2] 0 none [(.t 55)]),
 oq 6 (.mov (.t 56))] false 0))
 .skip)))
 (.seq (.join [(.normal,{slots:=[(0, .ptr 0 0),(2, .ptr 3 0),(3, .ptr 4 0),(4, .d lB),(5, .d lU),(6, .d lU)],objs:=bS2,m:=3})] (.region [] [oq 57 (.mov (.t 0)),
 oq 58 (.mov (.t 0)),
 oq 59 (.nchk (.t 58)),
 oq 60 (.fad 13 1 211 4 (.t 59)),
 oq 61 (.ldC (.t 60)),
 oq 62 (.mov (.t 61)),
 ⟨some 63, .mov (.t 6),some (62,false),[]⟩,
 ⟨some 64, .mov (.t 5),some (62,false),[]⟩,
 ⟨some 65, .icmp .lss (.t 63) (.t 64),some (62,false),[]⟩,
 oq 66 (.pick (.t 62) (.c lB [.bool true]) (.t 65)),
 oq 67 (.nchk (.t 57)),
 oq 68 (.fad 13 1 211 4 (.t 67)),
 ⟨none, .stC (.t 68) (.t 66),none,[]⟩] false 0))
 (.seq (.region [] [oq 69 (.mov (.t 5)),
 oq 70 (.i2i .i64 (.t 69)),
 oq 7 (.mov (.t 70))] false 0)
 (.block 2 (.loop pattern_reader_bytes_i8_h1 pattern_reader_bytes_i8_o1 pattern_reader_bytes_i8_c1)))))))))
noncomputable def pattern_reader_bytes_i8_l0 (E:Env) (v0:Bool) (v1:List UInt8) (v2:Int) (v3:Bool) (v4:Int) (v5:Int) (v6:Int) (v7:Int) (v8:Int) (v9:Int) (v10:Int) (v11:Int) (v12:Bool) (v13:C) (v14:C) (v15:Row) (v16:Row):Option (Nat×List PV):=E.fix (stepOf E pattern_reader_bytes_i8_c0 pattern_reader_bytes_i8_h0 pattern_reader_bytes_i8_o0) [.r [.bool v0], .r [.str v1], .r [.int v2], .r [.bool v3], .r [.int v4], .r [.int v5], .r [.int v6], .r [.int v7], .r [.int v8], .r [.int v9], .r [.int v10], .r [.int v11], .r [.bool v12], .r [v13], .r [v14], .r v15, .r v16]
noncomputable def pattern_reader_bytes_i8_b0 (E:Env) (X:Bool→List UInt8→Int→Bool→Int→Int→Int→Int→Int→Int→Int→Int→Bool→C→C→Row→Row→Option (Nat×List PV)) (v0:Bool) (v1:List UInt8) (v2:Int) (v3:Bool) (v4:Int) (v5:Int) (v6:Int) (v7:Int) (v8:Int) (v9:Int) (v10:Int) (v11:Int) (v12:Bool) (v13:C) (v14:C) (v15:Row) (v16:Row):Option (Nat×List PV):=
 ((E.ic pattern_reader_more_i3_n [.r [.str v1], .r [.int v2], .r [.bool v3], .r [.int v4], .r [.int v5], .r [.int v6], .r [.int v7], .r [.int v8], .r [.int v9], .r [.int v10], .r [.int v11], .r [.bool v12], .r [v13], .r [v14]]).bind fun y6=>
 if (gB 0 y6)=true then
 (E.ic pattern_reader_peek_i4_n [.r [.str (gS 1 y6)], .r [.int (gI 2 y6)], .r [.bool (gB 3 y6)], .r [.int (gI 4 y6)], .r [.int (gI 5 y6)], .r [.int (gI 6 y6)], .r [.int (gI 7 y6)], .r [.int (gI 8 y6)], .r [.int (gI 9 y6)], .r [.int (gI 10 y6)], .r [.int (gI 11 y6)], .r [.bool (gB 12 y6)], .r [gC 13 y6], .r [gC 14 y6]]).bind fun y10=>
 some (0,[.r [.bool v0], .r [.bool ((gI 0 y10) !=93)], .r [.str (gS 1 y10)], .r [.int (gI 2 y10)], .r [.bool (gB 3 y10)], .r [.int (gI 4 y10)], .r [.int (gI 5 y10)], .r [.int (gI 6 y10)], .r [.int (gI 7 y10)], .r [.int (gI 8 y10)], .r [.int (gI 9 y10)], .r [.int (gI 10 y10)], .r [.int (gI 11 y10)], .r [.bool (gB 12 y10)], .r [gC 13 y10], .r [gC 14 y10], .r v15, .r v16])
 else
 some (0,[.r [.bool v0], .r [.bool false], .r [.str (gS 1 y6)], .r [.int (gI 2 y6)], .r [.bool (gB 3 y6)], .r [.int (gI 4 y6)], .r [.int (gI 5 y6)], .r [.int (gI 6 y6)], .r [.int (gI 7 y6)], .r [.int (gI 8 y6)], .r [.int (gI 9 y6)], .r [.int (gI 10 y6)], .r [.int (gI 11 y6)], .r [.bool (gB 12 y6)], .r [gC 13 y6], .r [gC 14 y6], .r v15, .r v16])).bind fun x11=>
 if (gB 1 x11.2)=true then
 (E.ic pattern_reader_single_i9_n [.r [.str (gS 2 x11.2)], .r [.int (gI 3 x11.2)], .r [.bool (gB 4 x11.2)], .r [.int (gI 5 x11.2)], .r [.int (gI 6 x11.2)], .r [.int (gI 7 x11.2)], .r [.int (gI 8 x11.2)], .r [.int (gI 9 x11.2)], .r [.int (gI 10 x11.2)], .r [.int (gI 11 x11.2)], .r [.int (gI 12 x11.2)], .r [.bool (gB 13 x11.2)], .r [gC 14 x11.2], .r [gC 15 x11.2]]).bind fun y12=>
 ((E.ic pattern_reader_more_i3_n [.r [.str (gS 1 y12)], .r [.int (gI 2 y12)], .r [.bool (gB 3 y12)], .r [.int (gI 4 y12)], .r [.int (gI 5 y12)], .r [.int (gI 6 y12)], .r [.int (gI 7 y12)], .r [.int (gI 8 y12)], .r [.int (gI 9 y12)], .r [.int (gI 10 y12)], .r [.int (gI 11 y12)], .r [.bool (gB 12 y12)], .r [gC 13 y12], .r [gC 14 y12]]).bind fun y13=>
 if (gB 0 y13)=true then
 (E.ic pattern_reader_peek_i4_n [.r [.str (gS 1 y13)], .r [.int (gI 2 y13)], .r [.bool (gB 3 y13)], .r [.int (gI 4 y13)], .r [.int (gI 5 y13)], .r [.int (gI 6 y13)], .r [.int (gI 7 y13)], .r [.int (gI 8 y13)], .r [.int (gI 9 y13)], .r [.int (gI 10 y13)], .r [.int (gI 11 y13)], .r [.bool (gB 12 y13)], .r [gC 13 y13], .r [gC 14 y13]]).bind fun y17=>
 some (0,[.r [.bool (gB 0 x11.2)], .r [.int (gI 0 y12)], .r [.int (gI 0 y12)], .r [.bool ((gI 0 y17)==45)], .r [.str (gS 1 y17)], .r [.int (gI 2 y17)], .r [.bool (gB 3 y17)], .r [.int (gI 4 y17)], .r [.int (gI 5 y17)], .r [.int (gI 6 y17)], .r [.int (gI 7 y17)], .r [.int (gI 8 y17)], .r [.int (gI 9 y17)], .r [.int (gI 10 y17)], .r [.int (gI 11 y17)], .r [.bool (gB 12 y17)], .r [gC 13 y17], .r [gC 14 y17], .r (gR 16 x11.2), .r (gR 17 x11.2)])
 else
 some (0,[.r [.bool (gB 0 x11.2)], .r [.int (gI 0 y12)], .r [.int (gI 0 y12)], .r [.bool false], .r [.str (gS 1 y13)], .r [.int (gI 2 y13)], .r [.bool (gB 3 y13)], .r [.int (gI 4 y13)], .r [.int (gI 5 y13)], .r [.int (gI 6 y13)], .r [.int (gI 7 y13)], .r [.int (gI 8 y13)], .r [.int (gI 9 y13)], .r [.int (gI 10 y13)], .r [.int (gI 11 y13)], .r [.bool (gB 12 y13)], .r [gC 13 y13], .r [gC 14 y13], .r (gR 16 x11.2), .r (gR 17 x11.2)])).bind fun x18=>
 (if (gB 3 x18.2)=true then
 (E.ic pattern_reader_single_i9_n [.r [.str (gS 4 x18.2)], .r [.int (Go.IntKind.i64.wrap ((gI 5 x18.2)+1))], .r [.bool (gB 6 x18.2)], .r [.int (gI 7 x18.2)], .r [.int (gI 8 x18.2)], .r [.int (gI 9 x18.2)], .r [.int (gI 10 x18.2)], .r [.int (gI 11 x18.2)], .r [.int (gI 12 x18.2)], .r [.int (gI 13 x18.2)], .r [.int (gI 14 x18.2)], .r [.bool (gB 15 x18.2)], .r [gC 16 x18.2], .r [gC 17 x18.2]]).bind fun y19=>
 some (0,[.r [.bool (gB 0 x18.2)], .r [.int (gI 1 x18.2)], .r [.int (gI 0 y19)], .r [.str (gS 1 y19)], .r [.int (gI 2 y19)], .r [.bool (gB 3 y19)], .r [.int (gI 4 y19)], .r [.int (gI 5 y19)], .r [.int (gI 6 y19)], .r [.int (gI 7 y19)], .r [.int (gI 8 y19)], .r [.int (gI 9 y19)], .r [.int (gI 10 y19)], .r [.int (gI 11 y19)], .r [.bool (gB 12 y19)], .r [gC 13 y19], .r [gC 14 y19], .r (gR 18 x18.2), .r (gR 19 x18.2)])
 else
 some (0,[.r [.bool (gB 0 x18.2)], .r [.int (gI 1 x18.2)], .r [.int (gI 2 x18.2)], .r [.str (gS 4 x18.2)], .r [.int (gI 5 x18.2)], .r [.bool (gB 6 x18.2)], .r [.int (gI 7 x18.2)], .r [.int (gI 8 x18.2)], .r [.int (gI 9 x18.2)], .r [.int (gI 10 x18.2)], .r [.int (gI 11 x18.2)], .r [.int (gI 12 x18.2)], .r [.int (gI 13 x18.2)], .r [.int (gI 14 x18.2)], .r [.bool (gB 15 x18.2)], .r [gC 16 x18.2], .r [gC 17 x18.2], .r (gR 18 x18.2), .r (gR 19 x18.2)])).bind fun x20=>
 (let K21:Bool→Option (Nat×List PV):=fun q22=>
 some (0,[.r [.bool (gB 0 x20.2)], .r [.int (gI 1 x20.2)], .r [.int (gI 2 x20.2)], .r [.str (gS 3 x20.2)], .r [.int (gI 4 x20.2)], .r [.bool (gB 5 x20.2)], .r [.int (gI 6 x20.2)], .r [.int (gI 7 x20.2)], .r [.int (gI 8 x20.2)], .r [.int (gI 9 x20.2)], .r [.int (gI 10 x20.2)], .r [.int (gI 11 x20.2)], .r [.int (gI 12 x20.2)], .r [.int (gI 13 x20.2)], .r [.bool q22], .r [gC 15 x20.2], .r [gC 16 x20.2], .r (gR 17 x20.2), .r (gR 18 x20.2)])
 if (gB 14 x20.2)=true then
 K21 true
 else
 K21 (decide ((gI 2 x20.2)<(gI 1 x20.2)))).bind fun x23=>
 (pattern_reader_bytes_i8_l1 E (gB 0 x23.2) (gI 2 x23.2) (Go.IntKind.i64.wrap (gI 1 x23.2)) (gS 3 x23.2) (gI 4 x23.2) (gB 5 x23.2) (gI 6 x23.2) (gI 7 x23.2) (gI 8 x23.2) (gI 9 x23.2) (gI 10 x23.2) (gI 11 x23.2) (gI 12 x23.2) (gI 13 x23.2) (gB 14 x23.2) (gC 15 x23.2) (gC 16 x23.2) (gR 17 x23.2) (gR 18 x23.2)).bind fun x27=>
 X (gB 0 x27.2) (gS 1 x27.2) (gI 2 x27.2) (gB 3 x27.2) (gI 4 x27.2) (gI 5 x27.2) (gI 6 x27.2) (gI 7 x27.2) (gI 8 x27.2) (gI 9 x27.2) (gI 10 x27.2) (gI 11 x27.2) (gB 12 x27.2) (gC 13 x27.2) (gC 14 x27.2) (gR 15 x27.2) (gR 16 x27.2)
 else
 some (0,[.r [.bool (gB 0 x11.2)], .r [.str (gS 2 x11.2)], .r [.int (gI 3 x11.2)], .r [.bool (gB 4 x11.2)], .r [.int (gI 5 x11.2)], .r [.int (gI 6 x11.2)], .r [.int (gI 7 x11.2)], .r [.int (gI 8 x11.2)], .r [.int (gI 9 x11.2)], .r [.int (gI 10 x11.2)], .r [.int (gI 11 x11.2)], .r [.int (gI 12 x11.2)], .r [.bool (gB 13 x11.2)], .r [gC 14 x11.2], .r [gC 15 x11.2], .r (gR 16 x11.2), .r (gR 17 x11.2)])
theorem pattern_reader_bytes_i8_s0 (E:Env) (X:List PV→Option (Nat×List PV)) (v0:Bool) (v1:List UInt8) (v2:Int) (v3:Bool) (v4:Int) (v5:Int) (v6:Int) (v7:Int) (v8:Int) (v9:Int) (v10:Int) (v11:Int) (v12:Bool) (v13:C) (v14:C) (v15:Row) (v16:Row):stepOf E pattern_reader_bytes_i8_c0 pattern_reader_bytes_i8_h0 pattern_reader_bytes_i8_o0 X [.r [.bool v0], .r [.str v1], .r [.int v2], .r [.bool v3], .r [.int v4], .r [.int v5], .r [.int v6], .r [.int v7], .r [.int v8], .r [.int v9], .r [.int v10], .r [.int v11], .r [.bool v12], .r [v13], .r [v14], .r v15, .r v16]=pattern_reader_bytes_i8_b0 E (fun (v0:Bool) (v1:List UInt8) (v2:Int) (v3:Bool) (v4:Int) (v5:Int) (v6:Int) (v7:Int) (v8:Int) (v9:Int) (v10:Int) (v11:Int) (v12:Bool) (v13:C) (v14:C) (v15:Row) (v16:Row)=>X [.r [.bool v0], .r [.str v1], .r [.int v2], .r [.bool v3], .r [.int v4], .r [.int v5], .r [.int v6], .r [.int v7], .r [.int v8], .r [.int v9], .r [.int v10], .r [.int v11], .r [.bool v12], .r [v13], .r [v14], .r v15, .r v16]) v0 v1 v2 v3 v4 v5 v6 v7 v8 v9 v10 v11 v12 v13 v14 v15 v16:=by kernel_rfl
def pattern_reader_bytes_i8_a:AImp:={fn:=190,entry:=pattern_reader_bytes_i8_en,res:=[.var 2 lA3],exit:=pattern_reader_bytes_i8_ex,body:=(.seq (.region [] [oq 2 (.allocO 0 lA3 [.int 0, .int 0, .int 0, .int 0])] false 1)
 (.seq (.region [] [oq 3 (.allocO 0 lA3 [.int 0, .int 0, .int 0, .int 0])] false 1)
 (.seq (.join [(.normal,{slots:=[(0, .ptr 0 0),(2, .ptr 3 0),(3, .ptr 4 0),(4, .d lB)],objs:=bS2,m:=3})] (.region [] [oq 8 (.mov (.t 0)),
 ⟨some 9, .icall 221 183 (pattern_reader_peek_i4_en) (pattern_reader_peek_i4_ex) [0,1,2] 0 none [(.t 8)],none,[0]⟩,
 ⟨some 10, .icmp .eql (.t 9) (.c lU [.int 94]),none,[0,1]⟩,
 ⟨some 11, .mov (.t 10),none,[0,1,2]⟩,
 ⟨some 12, .mov (.t 0),some (11,true),[0,1,2,3]⟩,
 ⟨some 13, .nchk (.t 12),some (11,true),[0,1,2,3,4]⟩,
 ⟨some 14, .fad 1 1 211 3 (.t 13),some (11,true),[0,1,2,3,4,5]⟩,
 ⟨some 15, .ldC (.t 14),some (11,true),[0,1,2,3,4,5,6]⟩,
 ⟨some 16, .mov (.t 0),some (11,true),[0,1,2,3]⟩,
 ⟨some 17, .nchk (.t 16),some (11,true),[0,1,2,3,8]⟩,
 ⟨some 18, .fad 0 1 211 9 (.t 17),some (11,true),[0,1,2,3,8,9]⟩,
 ⟨some 19, .ldC (.t 18),some (11,true),[0,1,2,3,8,9,10]⟩,
 ⟨some 20, .lenS (.t 19),some (11,true),[0,1,2,3,8,9,10,11]⟩,
 ⟨some 21, .icmp .lss (.t 15) (.t 20),some (11,true),[0,1,2,3,4,5,6,7,8,9,10,11,12]⟩,
 ⟨some 22, .pick (.t 11) (.t 21) (.c lB [.bool false]),none,[0,1,2,3,4,5,6,7,8,9,10,11,12,13]⟩,
 ⟨some 4, .mov (.t 22),none,[0,1,2,3,4,5,6,7,8,9,10,11,12,13,14]⟩] true 0))
 (.seq (.seq (.region [] [oq 23 (.mov (.t 4))] false 0)
 (.join [(.normal,{slots:=[(0, .ptr 0 0),(2, .ptr 3 0),(3, .ptr 4 0),(4, .d lB)],objs:=bS2,m:=3})] (.cond (.t 23) (.region [] [oq 24 (.mov (.t 0)),
 oq 25 (.nchk (.t 24)),
 oq 26 (.fad 1 1 211 3 (.t 25)),
 oq 27 (.ldC (.t 26)),
 oq 28 (.ibin .add (.t 27) (.c lI [.int 1])),
 oq 29 (.nchk (.t 24)),
 oq 30 (.fad 1 1 211 3 (.t 29)),
 ⟨none, .stC (.t 30) (.t 28),none,[]⟩] false 0)
 .skip)))
 (.seq (.block 0 (.loop pattern_reader_bytes_i8_h0 pattern_reader_bytes_i8_o0 pattern_reader_bytes_i8_c0))
 (.seq (.seq (.join [(.normal,{slots:=[(0, .ptr 0 0),(2, .ptr 3 0),(3, .ptr 4 0),(4, .d lB)],objs:=bS2,m:=3})] (.region [] [oq 87 (.mov (.t 0)),
 oq 88 (.mov (.t 0)),
 ⟨some 89, .nchk (.t 88),none,[1]⟩,
 ⟨some 90, .fad 13 1 211 4 (.t 89),none,[1,2]⟩,
 ⟨some 91, .ldC (.t 90),none,[1,2,3]⟩,
 ⟨some 92, .mov (.t 91),none,[1,2,3,4]⟩,
 ⟨some 93, .mov (.t 0),some (92,false),[1,2,3,4,5]⟩,
 ⟨some 94, .nchk (.t 93),some (92,false),[1,2,3,4,5,6]⟩,
 ⟨some 95, .fad 1 1 211 3 (.t 94),some (92,false),[1,2,3,4,5,6,7]⟩,
 ⟨some 96, .ldC (.t 95),some (92,false),[1,2,3,4,5,6,7,8]⟩,
 ⟨some 97, .mov (.t 0),some (92,false),[1,2,3,4,5]⟩,
 ⟨some 98, .nchk (.t 97),some (92,false),[1,2,3,4,5,10]⟩,
 ⟨some 99, .fad 0 1 211 9 (.t 98),some (92,false),[1,2,3,4,5,10,11]⟩,
 ⟨some 100, .ldC (.t 99),some (92,false),[1,2,3,4,5,10,11,12]⟩,
 ⟨some 101, .lenS (.t 100),some (92,false),[1,2,3,4,5,10,11,12,13]⟩,
 ⟨some 102, .icmp .geq (.t 96) (.t 101),some (92,false),[1,2,3,4,5,6,7,8,9,10,11,12,13,14]⟩,
 ⟨some 103, .pick (.t 92) (.c lB [.bool true]) (.t 102),none,[1,2,3,4,5,6,7,8,9,10,11,12,13,14,15]⟩,
 ⟨some 104, .nchk (.t 87),none,[0,1,2,3,4,5,6,7,8,9,10,11,12,13,14,15,16]⟩,
 ⟨some 105, .fad 13 1 211 4 (.t 104),none,[0,1,2,3,4,5,6,7,8,9,10,11,12,13,14,15,16,17]⟩,
 ⟨none, .stC (.t 105) (.t 103),none,[0,1,2,3,4,5,6,7,8,9,10,11,12,13,14,15,16,17,18]⟩] true 0))
 (.seq (.region [] [oq 106 (.mov (.t 0)),
 oq 107 (.nchk (.t 106)),
 oq 108 (.fad 13 1 211 4 (.t 107)),
 oq 109 (.ldC (.t 108))] false 0)
 (.cond (.t 109) (.seq (.region [] [oq 110 (.ld lA3 209 (.t 3)),
 ⟨none, .st lA3 (.t 2) (.t 110),none,[]⟩] false 0)
 .ret)
 .skip)))
 (.seq (.region [] [oq 111 (.mov (.t 0)),
 oq 112 (.nchk (.t 111)),
 oq 113 (.fad 1 1 211 3 (.t 112)),
 oq 114 (.ldC (.t 113)),
 oq 115 (.ibin .add (.t 114) (.c lI [.int 1])),
 oq 116 (.nchk (.t 111)),
 oq 117 (.fad 1 1 211 3 (.t 116)),
 ⟨none, .stC (.t 117) (.t 115),none,[]⟩] false 0)
 (.seq (.seq (.region [] [oq 118 (.mov (.t 4))] false 0)
 (.cond (.t 118) (.region [] [oq 119 (.icall 224 189 (pattern_class_turn_i7_en) (pattern_class_turn_i7_ex) [4] 0 none [(.t 3)])] false 0)
 .skip))
 (.seq (.region [] [oq 120 (.mov (.t 0)),
 oq 121 (.ld lA3 209 (.t 3)),
 oq 122 (.bld lA3 [.int 0, .int 0, .int 0, .int 0] []),
 oq 123 (.aeq false lA3 (.t 121) (.t 122)),
 oq 124 (.nchk (.t 120)),
 oq 125 (.fad 13 1 211 4 (.t 124)),
 ⟨none, .stC (.t 125) (.t 123),none,[]⟩] false 0)
 (.seq (.region [] [oq 126 (.ld lA3 209 (.t 3)),
 ⟨none, .st lA3 (.t 2) (.t 126),none,[]⟩] false 0)
 .ret))))))))))}
noncomputable def pattern_reader_bytes_i8 (E:Env) (p0:List UInt8) (p1:Int) (p2:Bool) (p3:Int) (p4:Int) (p5:Int) (p6:Int) (p7:Int) (p8:Int) (p9:Int) (p10:Int) (p11:Bool) (p12:C) (p13:C):Option (List PV):=
 ((E.ic pattern_reader_peek_i4_n [.r [.str p0], .r [.int p1], .r [.bool p2], .r [.int p3], .r [.int p4], .r [.int p5], .r [.int p6], .r [.int p7], .r [.int p8], .r [.int p9], .r [.int p10], .r [.bool p11], .r [p12], .r [p13]]).bind fun y1=>
 let K2:Bool→Option (Nat×List PV):=fun q3=>
 some (0,[.r [.bool q3], .r [.str (gS 1 y1)], .r [.int (gI 2 y1)], .r [.bool (gB 3 y1)], .r [.int (gI 4 y1)], .r [.int (gI 5 y1)], .r [.int (gI 6 y1)], .r [.int (gI 7 y1)], .r [.int (gI 8 y1)], .r [.int (gI 9 y1)], .r [.int (gI 10 y1)], .r [.int (gI 11 y1)], .r [.bool (gB 12 y1)], .r [gC 13 y1], .r [gC 14 y1], .r [.int 0, .int 0, .int 0, .int 0], .r [.int 0, .int 0, .int 0, .int 0]])
 if ((gI 0 y1)==94)=true then
 K2 (decide ((gI 2 y1)<((gS 1 y1).length:Int)))
 else
 K2 false).bind fun x4=>
 (if (gB 0 x4.2)=true then
 some (0,[.r [.bool (gB 0 x4.2)], .r [.str (gS 1 x4.2)], .r [.int (Go.IntKind.i64.wrap ((gI 2 x4.2)+1))], .r [.bool (gB 3 x4.2)], .r [.int (gI 4 x4.2)], .r [.int (gI 5 x4.2)], .r [.int (gI 6 x4.2)], .r [.int (gI 7 x4.2)], .r [.int (gI 8 x4.2)], .r [.int (gI 9 x4.2)], .r [.int (gI 10 x4.2)], .r [.int (gI 11 x4.2)], .r [.bool (gB 12 x4.2)], .r [gC 13 x4.2], .r [gC 14 x4.2], .r (gR 15 x4.2), .r (gR 16 x4.2)])
 else
 some (0,[.r [.bool (gB 0 x4.2)], .r [.str (gS 1 x4.2)], .r [.int (gI 2 x4.2)], .r [.bool (gB 3 x4.2)], .r [.int (gI 4 x4.2)], .r [.int (gI 5 x4.2)], .r [.int (gI 6 x4.2)], .r [.int (gI 7 x4.2)], .r [.int (gI 8 x4.2)], .r [.int (gI 9 x4.2)], .r [.int (gI 10 x4.2)], .r [.int (gI 11 x4.2)], .r [.bool (gB 12 x4.2)], .r [gC 13 x4.2], .r [gC 14 x4.2], .r (gR 15 x4.2), .r (gR 16 x4.2)])).bind fun x5=>
 (pattern_reader_bytes_i8_l0 E (gB 0 x5.2) (gS 1 x5.2) (gI 2 x5.2) (gB 3 x5.2) (gI 4 x5.2) (gI 5 x5.2) (gI 6 x5.2) (gI 7 x5.2) (gI 8 x5.2) (gI 9 x5.2) (gI 10 x5.2) (gI 11 x5.2) (gB 12 x5.2) (gC 13 x5.2) (gC 14 x5.2) (gR 15 x5.2) (gR 16 x5.2)).bind fun x28=>
 (let K29:Bool→Option (Nat×List PV):=fun q30=>
 some (0,[.r [.bool (gB 0 x28.2)], .r [.str (gS 1 x28.2)], .r [.int (gI 2 x28.2)], .r [.bool (gB 3 x28.2)], .r [.int (gI 4 x28.2)], .r [.int (gI 5 x28.2)], .r [.int (gI 6 x28.2)], .r [.int (gI 7 x28.2)], .r [.int (gI 8 x28.2)], .r [.int (gI 9 x28.2)], .r [.int (gI 10 x28.2)], .r [.int (gI 11 x28.2)], .r [.bool q30], .r [gC 13 x28.2], .r [gC 14 x28.2], .r (gR 15 x28.2), .r (gR 16 x28.2)])
 if (gB 12 x28.2)=true then
 K29 true
 else
 K29 (decide ((gI 2 x28.2)≥((gS 1 x28.2).length:Int)))).bind fun x31=>
 if (gB 12 x31.2)=true then
 some [.r (gR 16 x31.2), .r [.str (gS 1 x31.2)], .r [.int (gI 2 x31.2)], .r [.bool (gB 3 x31.2)], .r [.int (gI 4 x31.2)], .r [.int (gI 5 x31.2)], .r [.int (gI 6 x31.2)], .r [.int (gI 7 x31.2)], .r [.int (gI 8 x31.2)], .r [.int (gI 9 x31.2)], .r [.int (gI 10 x31.2)], .r [.int (gI 11 x31.2)], .r [.bool (gB 12 x31.2)], .r [gC 13 x31.2], .r [gC 14 x31.2]]
 else
 if (gB 0 x31.2)=true then
 (E.ic pattern_class_turn_i7_n [.r (gR 16 x31.2)]).bind fun y32=>
 some [.r (gR 0 y32), .r [.str (gS 1 x31.2)], .r [.int (Go.IntKind.i64.wrap ((gI 2 x31.2)+1))], .r [.bool (gB 3 x31.2)], .r [.int (gI 4 x31.2)], .r [.int (gI 5 x31.2)], .r [.int (gI 6 x31.2)], .r [.int (gI 7 x31.2)], .r [.int (gI 8 x31.2)], .r [.int (gI 9 x31.2)], .r [.int (gI 10 x31.2)], .r [.int (gI 11 x31.2)], .r [.bool (ceq [.int .u64, .int .u64, .int .u64, .int .u64] (gR 0 y32) [.int 0, .int 0, .int 0, .int 0])], .r [gC 13 x31.2], .r [gC 14 x31.2]]
 else
 some [.r (gR 16 x31.2), .r [.str (gS 1 x31.2)], .r [.int (Go.IntKind.i64.wrap ((gI 2 x31.2)+1))], .r [.bool (gB 3 x31.2)], .r [.int (gI 4 x31.2)], .r [.int (gI 5 x31.2)], .r [.int (gI 6 x31.2)], .r [.int (gI 7 x31.2)], .r [.int (gI 8 x31.2)], .r [.int (gI 9 x31.2)], .r [.int (gI 10 x31.2)], .r [.int (gI 11 x31.2)], .r [.bool (ceq [.int .u64, .int .u64, .int .u64, .int .u64] (gR 16 x31.2) [.int 0, .int 0, .int 0, .int 0])], .r [gC 13 x31.2], .r [gC 14 x31.2]]
theorem pattern_reader_bytes_i8_eq (E:Env) (p0:List UInt8) (p1:Int) (p2:Bool) (p3:Int) (p4:Int) (p5:Int) (p6:Int) (p7:Int) (p8:Int) (p9:Int) (p10:Int) (p11:Bool) (p12:C) (p13:C):runI E pattern_reader_bytes_i8_a [.r [.str p0], .r [.int p1], .r [.bool p2], .r [.int p3], .r [.int p4], .r [.int p5], .r [.int p6], .r [.int p7], .r [.int p8], .r [.int p9], .r [.int p10], .r [.bool p11], .r [p12], .r [p13]]=pattern_reader_bytes_i8 E p0 p1 p2 p3 p4 p5 p6 p7 p8 p9 p10 p11 p12 p13:=by kernel_rfl
def pattern_set_add_i12_a:AImp:={fn:=127,entry:=pattern_set_add_i12_en,res:=[],exit:=pattern_set_add_i12_ex,body:=(.region [] [oq 4 (.mov (.t 0)),
 oq 5 (.mov (.t 1)),
 ⟨some 6, .idiv .quo (.t 5) (.c lI [.int 64]),none,[1]⟩,
 ⟨some 7, .nchk (.t 4),none,[0]⟩,
 ⟨some 8, .iadA 4 170 135 lW (.t 7) (.t 6),none,[0,1,2,3]⟩,
 ⟨some 9, .ld lW 135 (.t 8),none,[0,1,2,3,4]⟩,
 oq 10 (.mov (.t 1)),
 ⟨some 11, .idiv .rem (.t 10) (.c lI [.int 64]),none,[6]⟩,
 ⟨some 12, .shf .shl (.c lW [.int 1]) (.t 11),none,[6,7]⟩,
 ⟨some 13, .ibin .or (.t 9) (.t 12),none,[0,1,2,3,4,5,6,7,8]⟩,
 ⟨some 14, .nchk (.t 4),none,[0]⟩,
 ⟨some 15, .iadA 4 170 135 lW (.t 14) (.t 6),none,[0,1,2,3,4,5,6,7,8,9,10]⟩,
 ⟨none, .st lW (.t 15) (.t 13),none,[0,1,2,3,4,5,6,7,8,9,10,11]⟩] true 0)}
noncomputable def pattern_set_add_i12 (E:Env) (p0:Int) (p1:Row):Option (List PV):=
 if (0:Int)≤(Go.IntKind.i64.wrap (p0.tdiv 64))∧(Go.IntKind.i64.wrap (p0.tdiv 64))<(4:Int)then
 part lW lA4 (1+(((Go.IntKind.i64.wrap (p0.tdiv 64)).toNat)*1)) p1 fun y1=>
 if p0.tmod 64<0 then none else if (0:Int)≤(Go.IntKind.i64.wrap (p0.tdiv 64))∧(Go.IntKind.i64.wrap (p0.tdiv 64))<(4:Int)then
 turn lW lA4 (1+(((Go.IntKind.i64.wrap (p0.tdiv 64)).toNat)*1)) p1 [.int (bitsOf .or .u64 ((at_ y1 0).toI) (Go.IntKind.u64.wrap (1*2^(min ((p0.tmod 64).toNat) (Go.IntKind.bits .u64)))))] fun r2=>
 some [.r r2]
 else none
 else none
theorem pattern_set_add_i12_eq (E:Env) (p0:Int) (p1:Row):runI E pattern_set_add_i12_a [.r [.int p0], .r p1]=pattern_set_add_i12 E p0 p1:=by kernel_rfl
end Go.Ev
