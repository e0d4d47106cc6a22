/-
  A part of the proof: what the functions of the program compute.
-/
import Derived.Test.YtgiibefjiloafaaGreatDoorZNum
set_option linter.all false
set_option maxRecDepth 100000
namespace Go.Ev
def types_Resolve_i21_a:AImp:={fn:=36,entry:=types_Resolve_i21_en,res:=[.var 4 lA1, .tmp 5],exit:=types_Resolve_i21_ex,body:=(.seq (.region [] [oq 3 (.boxA 0 (.t 1)),
 oq 4 (.allocO 1 lA1 [.int 0, .str [], .int 0, .int 0, .str [], .nils]),
 oq 5 (.mov (.c lI [.int 0]))] false 2)
 (.seq (.seq (.region [] [oq 8 (.mov (.t 0)),
 oq 9 (.ldA 6 (.t 3)),
 oq 10 (.call 13 [(.one (.sl 64)),lA1] [lI] [(.t 8),(.t 9)]),
 oq 6 (.mov (.t 10))] false 0)
 (.seq (.region [] [oq 11 (.mov (.t 6)),
 oq 12 (.icmp .neq (.t 11) (.c lI [.int 0]))] false 0)
 (.cond (.t 12) (.seq (.region [] [oq 13 (.bld lA1 [.int 0, .str [], .int 0, .int 0, .str [], .nils] []),
 oq 14 (.mov (.t 6)),
 ⟨none, .st lA1 (.t 4) (.t 13),none,[]⟩,
 oq 5 (.mov (.t 14))] false 0)
 .ret)
 .skip)))
 (.seq (.region [] [oq 16 (.mov (.t 0)),
 oq 17 (.ldA 6 (.t 3)),
 oq 18 (.call 23 [(.one (.sl 64)),lA1] [lA1,lI] [(.t 16),(.t 17)]),
 oq 15 (.mov (.t 18)),
 oq 19 (.ext 0 (.t 15)),
 oq 20 (.ext 1 (.t 15)),
 ⟨none, .stA 6 (.t 3) (.t 19),none,[]⟩,
 oq 7 (.mov (.t 20))] false 0)
 (.seq (.region [] [oq 21 (.ldA 6 (.t 3)),
 oq 22 (.icall 239 53 (types_Copy_i22_en) (types_Copy_i22_ex) [] 0 none [(.t 21)]),
 oq 23 (.mov (.t 7)),
 ⟨none, .st lA1 (.t 4) (.t 22),none,[]⟩,
 oq 5 (.mov (.t 23))] false 0)
 .ret))))}
def pattern_Match_h0:Shape:={slots:=[(6, .ptr 0 0),(8, .d (.one (.int .i16))),(20, .d (.one (.sl 5))),(21, .d lI),(22, .d lI)],objs:=[.var lA5]}
def pattern_Match_o0:List (Exit'×Shape):=[(.exit 0,{slots:=[(6, .ptr 0 0),(8, .d (.one (.int .i16)))],objs:=[.var lA5]})]
def pattern_Match_c0:ACode:=(.seq (.region [] [oq 23 (.icmp .lss (.t 22) (.t 21))] false 0)
 (.seq (.cond (.t 23) .skip
 (.exit 0))
 (.seq (.block 1 (.seq (.region [] [oq 24 (.iad 5 lU (.t 20) (.t 22)),
 oq 25 (.ld lU 5 (.t 24)),
 oq 10 (.mov (.t 25))] false 0)
 (.region [] [oq 26 (.fad 0 1 113 110 (.t 6)),
 oq 27 (.ld (.one (.sl 133)) 110 (.t 26)),
 oq 28 (.mov (.t 8)),
 oq 29 (.mov (.t 10)),
 oq 30 (.iad 133 (.agg (List.replicate 256 (.int .i16))) (.t 27) (.t 28)),
 oq 31 (.iadA 256 133 132 (.one (.int .i16)) (.t 30) (.t 29)),
 oq 32 (.ld (.one (.int .i16)) 132 (.t 31)),
 oq 8 (.mov (.t 32))] false 0)))
 (.region [] [oq 33 (.ibin .add (.t 22) (.c lI [.int 1])),
 oq 22 (.mov (.t 33))] false 0))))
noncomputable def pattern_Match_l0 (E:Env) (v0:Int) (v1:C) (v2:Int) (v3:Int) (v4:Row):Option (Nat×List PV):=E.fix (stepOf E pattern_Match_c0 pattern_Match_h0 pattern_Match_o0) [.r [.int v0], .r [v1], .r [.int v2], .r [.int v3], .r v4]
noncomputable def pattern_Match_b0 (E:Env) (X:Int→C→Int→Int→Row→Option (Nat×List PV)) (v0:Int) (v1:C) (v2:Int) (v3:Int) (v4:Row):Option (Nat×List PV):=
 if (decide (v3<v2))=true then
 if (0:Int)≤v3∧v3<(v1.rows.length:Int)then
 if (0:Int)≤v0∧v0<(((at_ v4 0).rows).length:Int)then
 if (0:Int)≤((at_ (rowsAt v1.rows v3.toNat) 0).toI)∧((at_ (rowsAt v1.rows v3.toNat) 0).toI)<(256:Int)∧(C.dp (rowsAt ((at_ v4 0).rows) v0.toNat)).isDp=true then
 X ((at_ (rowsAt ((at_ v4 0).rows) v0.toNat) ((((at_ (rowsAt v1.rows v3.toNat) 0).toI).toNat)*1)).toI) v1 v2 (Go.IntKind.i64.wrap (v3+1)) v4
 else none
 else none
 else none
 else
 some (0,[.r [.int v0], .r v4])
theorem pattern_Match_s0 (E:Env) (X:List PV→Option (Nat×List PV)) (v0:Int) (v1:C) (v2:Int) (v3:Int) (v4:Row):stepOf E pattern_Match_c0 pattern_Match_h0 pattern_Match_o0 X [.r [.int v0], .r [v1], .r [.int v2], .r [.int v3], .r v4]=pattern_Match_b0 E (fun (v0:Int) (v1:C) (v2:Int) (v3:Int) (v4:Row)=>X [.r [.int v0], .r [v1], .r [.int v2], .r [.int v3], .r v4]) v0 v1 v2 v3 v4:=by kernel_rfl
def pattern_Match_a:AFun:={ps:=[lS,lS],rs:=[lB,lI],res:=[(false,4,none),(false,5,none)],body:=(.seq (.region [] [oq 4 (.mov (.c lB [.bool false])),
 oq 5 (.mov (.c lI [.int 0]))] false 0)
 (.seq (.region [] [oq 12 (.mov (.t 0)),
 oq 13 (.call 104 [lS] [lA5,lI] [(.t 12)]),
 oq 11 (.mov (.t 13)),
 oq 14 (.ext 0 (.t 11)),
 oq 15 (.ext 1 (.t 11)),
 oq 6 (.allocO 0 lA5 [.nils, .nils]),
 ⟨none, .st lA5 (.t 6) (.t 14),none,[]⟩,
 oq 7 (.mov (.t 15))] false 1)
 (.seq (.seq (.region [] [oq 16 (.mov (.t 7)),
 oq 17 (.icmp .neq (.t 16) (.c lI [.int 0]))] false 0)
 (.cond (.t 17) (.seq (.region [] [oq 18 (.mov (.t 7)),
 oq 4 (.mov (.c lB [.bool false])),
 oq 5 (.mov (.t 18))] false 0)
 .ret)
 .skip))
 (.seq (.region [] [oq 8 (.mov (.c (.one (.int .i16)) [.int 0]))] false 0)
 (.seq (.seq (.region [] [oq 19 (.mov (.t 1)),
 oq 20 (.s2b 5 (.t 19)),
 oq 21 (.lenL (.t 20)),
 oq 22 (.mov (.c lI [.int 0]))] false 0)
 (.block 0 (.loop pattern_Match_h0 pattern_Match_o0 pattern_Match_c0)))
 (.seq (.region [] [oq 34 (.fad 1 1 113 111 (.t 6)),
 oq 35 (.ld (.one (.sl 4)) 111 (.t 34)),
 oq 36 (.mov (.t 8)),
 oq 37 (.iad 4 lB (.t 35) (.t 36)),
 oq 38 (.ld lB 4 (.t 37)),
 oq 4 (.mov (.t 38)),
 oq 5 (.mov (.c lI [.int 0]))] false 0)
 .ret))))))}
noncomputable def pattern_Match (E:Env) (p0:List UInt8) (p1:List UInt8):Option (List Row):=
 (E.pc n_pattern_build [[.str p0]]).bind fun y1=>
 if (((at_ (rowsAt y1 1) 0).toI) !=0)=true then
 some [[.bool false],[.int ((at_ (rowsAt y1 1) 0).toI)]]
 else
 (pattern_Match_l0 E 0 (.sl (p1.map byteRow)) ((p1.map byteRow).length:Int) 0 (rowsAt y1 0)).bind fun x2=>
 if (0:Int)≤(gI 0 x2.2)∧(gI 0 x2.2)<(((at_ (gR 1 x2.2) 1).rows).length:Int)then
 some [[.bool ((at_ (rowsAt ((at_ (gR 1 x2.2) 1).rows) ((gI 0 x2.2).toNat)) 0).toB)],[.int 0]]
 else none
theorem pattern_Match_eq (E:Env) (p0:List UInt8) (p1:List UInt8):runP E pattern_Match_a [[.str p0],[.str p1]]=pattern_Match E p0 p1:=by kernel_rfl
def types_matches_a:AFun:={ps:=[lS,lS],rs:=[lB],res:=[(false,4,none)],body:=(.seq (.region [] [oq 4 (.mov (.c lB [.bool false]))] false 0)
 (.seq (.region [] [oq 8 (.mov (.t 0)),
 oq 9 (.mov (.t 1)),
 oq 10 (.call 76 [lS,lS] [lB,lI] [(.t 8),(.t 9)]),
 oq 7 (.mov (.t 10)),
 oq 11 (.ext 0 (.t 7)),
 oq 12 (.ext 1 (.t 7)),
 oq 5 (.mov (.t 11)),
 oq 6 (.mov (.t 12))] false 0)
 (.seq (.region [] [oq 13 (.mov (.t 5)),
 oq 4 (.mov (.t 13))] false 0)
 .ret)))}
noncomputable def types_matches (E:Env) (p0:List UInt8) (p1:List UInt8):Option (List Row):=
 (E.pc n_pattern_Match [[.str p0],[.str p1]]).bind fun y1=>
 some [[.bool ((at_ (rowsAt y1 0) 0).toB)]]
theorem types_matches_eq (E:Env) (p0:List UInt8) (p1:List UInt8):runP E types_matches_a [[.str p0],[.str p1]]=types_matches E p0 p1:=by kernel_rfl
def slices_EqualFunc_api_Field_h0:Shape:={slots:=[(1, .d (.one (.sl 59))),(2, .d (.one (.fn 72))),(15, .d (.one (.sl 55))),(16, .d lI),(17, .d lI)],objs:=[]}
def slices_EqualFunc_api_Field_o0:List (Exit'×Shape):=[(.exit 0,{slots:=[],objs:=[]}),(.ret,{slots:=[(6, .d lB)],objs:=[]})]
def slices_EqualFunc_api_Field_c0:ACode:=(.seq (.region [] [oq 18 (.icmp .lss (.t 17) (.t 16))] false 0)
 (.seq (.cond (.t 18) .skip
 (.exit 0))
 (.seq (.block 1 (.seq (.region [] [oq 19 (.mov (.t 17)),
 oq 20 (.iad 55 lA0 (.t 15) (.t 17)),
 oq 21 (.ld lA0 55 (.t 20)),
 oq 8 (.allocO 0 lA0 [.str [], .int 0, .str [], .int 0, .int 0, .str [], .nils]),
 oq 7 (.mov (.t 19)),
 ⟨none, .st lA0 (.t 8) (.t 21),none,[]⟩] false 1)
 (.seq (.region [] [oq 22 (.mov (.t 1)),
 oq 23 (.mov (.t 7)),
 oq 24 (.iad 59 lA7 (.t 22) (.t 23)),
 oq 25 (.ld lA7 59 (.t 24)),
 oq 9 (.allocO 0 lA7 [.str [], .int 0, .int 0, .str [], .nils]),
 ⟨none, .st lA7 (.t 9) (.t 25),none,[]⟩] false 1)
 (.seq (.region [] [oq 26 (.mov (.t 2)),
 oq 27 (.ld lA0 55 (.t 8)),
 oq 28 (.ld lA7 59 (.t 9)),
 oq 29 (.callv 72 [lA0,lA7] [lB] (.t 26) [(.t 27),(.t 28)]),
 oq 30 (.not (.t 29))] false 0)
 (.cond (.t 30) (.seq (.region [] [oq 6 (.mov (.c lB [.bool false]))] false 0)
 .ret)
 .skip)))))
 (.region [] [oq 31 (.ibin .add (.t 17) (.c lI [.int 1])),
 oq 17 (.mov (.t 31))] false 0))))
noncomputable def slices_EqualFunc_api_Field_l0 (E:Env) (v0:C) (v1:C) (v2:C) (v3:Int) (v4:Int):Option (Nat×List PV):=E.fix (stepOf E slices_EqualFunc_api_Field_c0 slices_EqualFunc_api_Field_h0 slices_EqualFunc_api_Field_o0) [.r [v0], .r [v1], .r [v2], .r [.int v3], .r [.int v4]]
noncomputable def slices_EqualFunc_api_Field_b0 (E:Env) (X:C→C→C→Int→Int→Option (Nat×List PV)) (v0:C) (v1:C) (v2:C) (v3:Int) (v4:Int):Option (Nat×List PV):=
 if (decide (v4<v3))=true then
 if (0:Int)≤v4∧v4<(v2.rows.length:Int)then
 if (0:Int)≤v4∧v4<(v0.rows.length:Int)then
 (callC E v1 [rowsAt v2.rows v4.toNat,rowsAt v0.rows v4.toNat]).bind fun y1=>
 if (!((at_ (rowsAt y1 0) 0).toB))=true then
 some (1,[.r [.bool false]])
 else
 X v0 v1 v2 v3 (Go.IntKind.i64.wrap (v4+1))
 else none
 else none
 else
 some (0,[])
theorem slices_EqualFunc_api_Field_s0 (E:Env) (X:List PV→Option (Nat×List PV)) (v0:C) (v1:C) (v2:C) (v3:Int) (v4:Int):stepOf E slices_EqualFunc_api_Field_c0 slices_EqualFunc_api_Field_h0 slices_EqualFunc_api_Field_o0 X [.r [v0], .r [v1], .r [v2], .r [.int v3], .r [.int v4]]=slices_EqualFunc_api_Field_b0 E (fun (v0:C) (v1:C) (v2:C) (v3:Int) (v4:Int)=>X [.r [v0], .r [v1], .r [v2], .r [.int v3], .r [.int v4]]) v0 v1 v2 v3 v4:=by kernel_rfl
def slices_EqualFunc_api_Field_a:AFun:={ps:=[(.one (.sl 55)),(.one (.sl 59)),(.one (.fn 72))],rs:=[lB],res:=[(false,6,none)],body:=(.seq (.region [] [oq 6 (.mov (.c lB [.bool false]))] false 0)
 (.seq (.seq (.region [] [oq 10 (.mov (.t 0)),
 oq 11 (.lenL (.t 10)),
 oq 12 (.mov (.t 1)),
 oq 13 (.lenL (.t 12)),
 oq 14 (.icmp .neq (.t 11) (.t 13))] false 0)
 (.cond (.t 14) (.seq (.region [] [oq 6 (.mov (.c lB [.bool false]))] false 0)
 .ret)
 .skip))
 (.seq (.seq (.region [] [oq 15 (.mov (.t 0)),
 oq 16 (.lenL (.t 15)),
 oq 17 (.mov (.c lI [.int 0]))] false 0)
 (.block 0 (.loop slices_EqualFunc_api_Field_h0 slices_EqualFunc_api_Field_o0 slices_EqualFunc_api_Field_c0)))
 (.seq (.region [] [oq 6 (.mov (.c lB [.bool true]))] false 0)
 .ret))))}
noncomputable def slices_EqualFunc_api_Field (E:Env) (p0:C) (p1:C) (p2:C):Option (List Row):=
 if ((p0.rows.length:Int) !=(p1.rows.length:Int))=true then
 some [[.bool false]]
 else
 (slices_EqualFunc_api_Field_l0 E p1 p2 p0 (p0.rows.length:Int) 0).bind fun x2=>
 match x2.1 with
 |0=>
 some [[.bool true]]
 |i3+1=>
 some [[.bool (gB 0 x2.2)]]
theorem slices_EqualFunc_api_Field_eq (E:Env) (p0:C) (p1:C) (p2:C):runP E slices_EqualFunc_api_Field_a [[p0],[p1],[p2]]=slices_EqualFunc_api_Field E p0 p1 p2:=by kernel_rfl
def types_fits_1_a:AFun:={ps:=[lA0,lA7],rs:=[lB],res:=[(false,4,none)],body:=(.seq (.region [] [oq 2 (.boxP lA0 55 (.t 0)),
 oq 3 (.boxP lA7 59 (.t 1)),
 oq 4 (.mov (.c lB [.bool false]))] false 0)
 (.seq (.region [] [oq 5 (.fad 0 1 55 9 (.t 2)),
 oq 6 (.ld lS 9 (.t 5)),
 oq 7 (.fad 0 1 59 9 (.t 3)),
 oq 8 (.ld lS 9 (.t 7)),
 oq 9 (.scmp .eql (.t 6) (.t 8)),
 oq 4 (.mov (.t 9))] false 0)
 .ret))}
noncomputable def types_fits_1 (E:Env) (p0:Row) (p1:Row):Option (List Row):=
 some [[.bool (((at_ p0 0).toS)==((at_ p1 0).toS))]]
theorem types_fits_1_eq (E:Env) (p0:Row) (p1:Row):runP E types_fits_1_a [p0,p1]=types_fits_1 E p0 p1:=by kernel_rfl
def types_fits_2_a:AFun:={ps:=[lA0,(.one (.ref 29))],rs:=[lB],res:=[(false,3,none)],body:=(.seq (.region [] [oq 2 (.boxP lA0 55 (.t 0)),
 oq 3 (.mov (.c lB [.bool false]))] false 0)
 (.seq (.region [] [oq 4 (.fad 0 1 55 9 (.t 2)),
 ⟨some 5, .ld lS 9 (.t 4),none,[0]⟩,
 oq 6 (.fad 3 1 29 27 (.t 1)),
 ⟨some 7, .ld (.one (.sl 59)) 27 (.t 6),none,[2]⟩,
 ⟨some 8, .iad 59 lA7 (.t 7) (.c lI [.int 0]),none,[2,3]⟩,
 ⟨some 9, .fad 0 1 59 9 (.t 8),none,[2,3,4]⟩,
 ⟨some 10, .ld lS 9 (.t 9),none,[2,3,4,5]⟩,
 ⟨some 11, .scmp .eql (.t 5) (.t 10),none,[0,1,2,3,4,5,6]⟩,
 ⟨some 3, .mov (.t 11),none,[0,1,2,3,4,5,6,7]⟩] true 0)
 .ret))}
noncomputable def types_fits_2 (E:Env) (p0:Row) (p1:C):Option (List Row):=
 if p1.isDp=true then
 if (0:Int)≤0∧0<(((at_ p1.dpRow 3).rows).length:Int)then
 some [[.bool (((at_ p0 0).toS)==((at_ (rowsAt ((at_ p1.dpRow 3).rows) 0) 0).toS))]]
 else none
 else none
theorem types_fits_2_eq (E:Env) (p0:Row) (p1:C):runP E types_fits_2_a [p0,[p1]]=types_fits_2 E p0 p1:=by kernel_rfl
def types_fits_3_a:AFun:={ps:=[lA7,(.one (.ref 26))],rs:=[lB],res:=[(false,3,none)],body:=(.seq (.region [] [oq 2 (.boxP lA7 59 (.t 0)),
 oq 3 (.mov (.c lB [.bool false]))] false 0)
 (.seq (.region [] [oq 4 (.fad 4 1 26 9 (.t 1)),
 oq 5 (.ld lS 9 (.t 4)),
 oq 6 (.fad 0 1 59 9 (.t 2)),
 oq 7 (.ld lS 9 (.t 6)),
 oq 8 (.call 44 [lS,lS] [lB] [(.t 5),(.t 7)]),
 oq 9 (.not (.t 8)),
 oq 3 (.mov (.t 9))] false 0)
 .ret))}
noncomputable def types_fits_3 (E:Env) (p0:Row) (p1:C):Option (List Row):=
 if p1.isDp=true then
 (E.pc n_types_matches [[.str ((at_ p1.dpRow 4).toS)],[.str ((at_ p0 0).toS)]]).bind fun y1=>
 some [[.bool (!((at_ (rowsAt y1 0) 0).toB))]]
 else none
theorem types_fits_3_eq (E:Env) (p0:Row) (p1:C):runP E types_fits_3_a [p0,[p1]]=types_fits_3 E p0 p1:=by kernel_rfl
def types_fits_a:AFun:={ps:=[lA1,lA8],rs:=[lB],res:=[(false,4,none)],body:=(.seq (.region [] [oq 2 (.boxP lA1 26 (.t 0)),
 oq 3 (.boxP lA8 29 (.t 1)),
 oq 4 (.mov (.c lB [.bool false]))] false 0)
 (.seq (.seq (.region [] [oq 5 (.fad 0 1 26 3 (.t 2)),
 oq 6 (.ld lI 3 (.t 5)),
 oq 7 (.fad 0 1 29 3 (.t 3)),
 oq 8 (.ld lI 3 (.t 7)),
 oq 9 (.icmp .neq (.t 6) (.t 8))] false 0)
 (.cond (.t 9) (.seq (.region [] [oq 4 (.mov (.c lB [.bool false]))] false 0)
 .ret)
 .skip))
 (.seq (.seq (.region [] [oq 10 (.fad 0 1 26 3 (.t 2)),
 oq 11 (.ld lI 3 (.t 10))] false 0)
 (.block 0 (.seq (.seq (.region [] [oq 13 (.icmp .eql (.t 11) (.c lI [.int 1])),
 oq 12 (.mov (.t 13))] false 0)
 (.join [(.normal,{slots:=[(2, .d (.one (.ref 26))),(3, .d (.one (.ref 29))),(11, .d lI),(12, .d lB)],objs:=[]})] (.cond (.t 12) .skip
 (.seq (.region [] [oq 14 (.icmp .eql (.t 11) (.c lI [.int 2])),
 oq 12 (.mov (.t 14))] false 0)
 (.cond (.t 12) .skip
 (.region [] [oq 15 (.icmp .eql (.t 11) (.c lI [.int 4])),
 oq 12 (.mov (.t 15))] false 0))))))
 (.cond (.t 12) (.seq (.region [] [oq 16 (.fad 1 1 29 3 (.t 3)),
 oq 17 (.ld lI 3 (.t 16)),
 oq 18 (.fad 2 1 26 3 (.t 2)),
 oq 19 (.ld lI 3 (.t 18)),
 oq 20 (.icmp .geq (.t 17) (.t 19)),
 oq 21 (.mov (.t 20)),
 ⟨some 22, .fad 1 1 29 3 (.t 3),some (21,true),[]⟩,
 ⟨some 23, .ld lI 3 (.t 22),some (21,true),[]⟩,
 ⟨some 24, .fad 3 1 26 3 (.t 2),some (21,true),[]⟩,
 ⟨some 25, .ld lI 3 (.t 24),some (21,true),[]⟩,
 ⟨some 26, .icmp .leq (.t 23) (.t 25),some (21,true),[]⟩,
 oq 27 (.pick (.t 21) (.t 26) (.c lB [.bool false])),
 oq 4 (.mov (.t 27))] false 0)
 .ret)
 (.seq (.region [] [oq 29 (.icmp .eql (.t 11) (.c lI [.int 5])),
 oq 28 (.mov (.t 29))] false 0)
 (.cond (.t 28) (.seq (.region [] [oq 30 (.fad 4 1 26 9 (.t 2)),
 oq 31 (.ld lS 9 (.t 30)),
 oq 32 (.fad 2 1 29 9 (.t 3)),
 oq 33 (.ld lS 9 (.t 32)),
 oq 34 (.call 44 [lS,lS] [lB] [(.t 31),(.t 33)]),
 oq 4 (.mov (.t 34))] false 0)
 .ret)
 (.seq (.region [] [oq 36 (.icmp .eql (.t 11) (.c lI [.int 6])),
 oq 35 (.mov (.t 36))] false 0)
 (.cond (.t 35) (.seq (.region [] [oq 37 (.fad 5 1 26 24 (.t 2)),
 oq 38 (.ld (.one (.sl 55)) 24 (.t 37)),
 oq 39 (.fad 3 1 29 27 (.t 3)),
 oq 40 (.ld (.one (.sl 59)) 27 (.t 39)),
 oq 41 (.call 45 [(.one (.sl 55)),(.one (.sl 59)),(.one (.fn 72))] [lB] [(.t 38),(.t 40),(.c (.one (.fn 72)) [.fn n_types_fits_1 []])]),
 oq 4 (.mov (.t 41))] false 0)
 .ret)
 (.seq (.region [] [oq 43 (.icmp .eql (.t 11) (.c lI [.int 7])),
 oq 42 (.mov (.t 43))] false 0)
 (.cond (.t 42) (.seq (.region [] [oq 44 (.fad 5 1 26 24 (.t 2)),
 oq 45 (.ld (.one (.sl 55)) 24 (.t 44)),
 oq 46 (.mkf 48 74 [.ref 29] [(.t 3)]),
 oq 47 (.call 47 [(.one (.sl 55)),(.one (.fn 74))] [lB] [(.t 45),(.t 46)]),
 oq 4 (.mov (.t 47))] false 0)
 .ret)
 (.seq (.region [] [oq 49 (.icmp .eql (.t 11) (.c lI [.int 8])),
 oq 48 (.mov (.t 49))] false 0)
 (.cond (.t 48) (.seq (.region [] [oq 50 (.fad 3 1 29 27 (.t 3)),
 oq 51 (.ld (.one (.sl 59)) 27 (.t 50)),
 oq 52 (.lenL (.t 51)),
 oq 53 (.fad 2 1 26 3 (.t 2)),
 oq 54 (.ld lI 3 (.t 53)),
 oq 55 (.icmp .geq (.t 52) (.t 54)),
 oq 56 (.mov (.t 55)),
 ⟨some 57, .fad 3 1 29 27 (.t 3),some (56,true),[]⟩,
 ⟨some 58, .ld (.one (.sl 59)) 27 (.t 57),some (56,true),[]⟩,
 ⟨some 59, .lenL (.t 58),some (56,true),[]⟩,
 ⟨some 60, .fad 3 1 26 3 (.t 2),some (56,true),[]⟩,
 ⟨some 61, .ld lI 3 (.t 60),some (56,true),[]⟩,
 ⟨some 62, .icmp .leq (.t 59) (.t 61),some (56,true),[]⟩,
 oq 63 (.pick (.t 56) (.t 62) (.c lB [.bool false])),
 oq 4 (.mov (.t 63))] false 0)
 .ret)
 (.seq (.region [] [oq 65 (.icmp .eql (.t 11) (.c lI [.int 9])),
 oq 64 (.mov (.t 65))] false 0)
 (.cond (.t 64) (.seq (.region [] [oq 66 (.fad 3 1 29 27 (.t 3)),
 oq 67 (.ld (.one (.sl 59)) 27 (.t 66)),
 oq 68 (.lenL (.t 67)),
 oq 69 (.fad 2 1 26 3 (.t 2)),
 oq 70 (.ld lI 3 (.t 69)),
 oq 71 (.icmp .geq (.t 68) (.t 70)),
 oq 72 (.mov (.t 71)),
 ⟨some 73, .fad 3 1 29 27 (.t 3),some (72,true),[]⟩,
 ⟨some 74, .ld (.one (.sl 59)) 27 (.t 73),some (72,true),[]⟩,
 ⟨some 75, .lenL (.t 74),some (72,true),[]⟩,
 ⟨some 76, .fad 3 1 26 3 (.t 2),some (72,true),[]⟩,
 ⟨some 77, .ld lI 3 (.t 76),some (72,true),[]⟩,
 ⟨some 78, .icmp .leq (.t 75) (.t 77),some (72,true),[]⟩,
 oq 79 (.pick (.t 72) (.t 78) (.c lB [.bool false])),
 oq 80 (.mov (.t 79)),
 ⟨some 81, .fad 3 1 29 27 (.t 3),some (80,true),[]⟩,
 ⟨some 82, .ld (.one (.sl 59)) 27 (.t 81),some (80,true),[]⟩,
 ⟨some 83, .mkf 50 76 [.ref 26] [(.t 2)],some (80,true),[]⟩,
 ⟨some 84, .call 49 [(.one (.sl 59)),(.one (.fn 76))] [lB] [(.t 82),(.t 83)],some (80,true),[]⟩,
 ⟨some 85, .not (.t 84),some (80,true),[]⟩,
 oq 86 (.pick (.t 80) (.t 85) (.c lB [.bool false])),
 oq 4 (.mov (.t 86))] false 0)
 .ret)
 .skip))))))))))))))
 (.seq (.region [] [oq 4 (.mov (.c lB [.bool true]))] false 0)
 .ret))))}
noncomputable def types_fits (E:Env) (p0:Row) (p1:Row):Option (List Row):=
 if (((at_ p0 0).toI) !=((at_ p1 0).toI))=true then
 some [[.bool false]]
 else
 (if (((at_ p0 0).toI)==1)=true then
 some (0,[.r [.dp p0], .r [.dp p1], .r [.int ((at_ p0 0).toI)], .r [.bool (((at_ p0 0).toI)==1)]])
 else
 if (((at_ p0 0).toI)==2)=true then
 some (0,[.r [.dp p0], .r [.dp p1], .r [.int ((at_ p0 0).toI)], .r [.bool (((at_ p0 0).toI)==2)]])
 else
 some (0,[.r [.dp p0], .r [.dp p1], .r [.int ((at_ p0 0).toI)], .r [.bool (((at_ p0 0).toI)==4)]])).bind fun x1=>
 if (gB 3 x1.2)=true then
 if (gC 1 x1.2).isDp=true then
 if (gC 0 x1.2).isDp=true then
 let K2:Bool→Option (List Row):=fun q3=>
 some [[.bool q3]]
 if (decide (((at_ ((gC 1 x1.2).dpRow) 1).toI)≥((at_ ((gC 0 x1.2).dpRow) 2).toI)))=true then
 if (gC 1 x1.2).isDp=true then
 if (gC 0 x1.2).isDp=true then
 K2 (decide (((at_ ((gC 1 x1.2).dpRow) 1).toI)≤((at_ ((gC 0 x1.2).dpRow) 3).toI)))
 else none
 else none
 else
 K2 false
 else none
 else none
 else
 if ((gI 2 x1.2)==5)=true then
 if (gC 0 x1.2).isDp=true then
 if (gC 1 x1.2).isDp=true then
 (E.pc n_types_matches [[.str ((at_ ((gC 0 x1.2).dpRow) 4).toS)],[.str ((at_ ((gC 1 x1.2).dpRow) 2).toS)]]).bind fun y4=>
 some [[.bool ((at_ (rowsAt y4 0) 0).toB)]]
 else none
 else none
 else
 if ((gI 2 x1.2)==6)=true then
 if (gC 0 x1.2).isDp=true then
 if (gC 1 x1.2).isDp=true then
 (E.pc n_slices_EqualFunc_api_Field [[at_ ((gC 0 x1.2).dpRow) 5],[at_ ((gC 1 x1.2).dpRow) 3],[.fn n_types_fits_1 []]]).bind fun y5=>
 some [[.bool ((at_ (rowsAt y5 0) 0).toB)]]
 else none
 else none
 else
 if ((gI 2 x1.2)==7)=true then
 if (gC 0 x1.2).isDp=true then
 (E.pc n_slices_ContainsFunc_api_Part [[at_ ((gC 0 x1.2).dpRow) 5],[.fn n_types_fits_2 [gC 1 x1.2]]]).bind fun y6=>
 some [[.bool ((at_ (rowsAt y6 0) 0).toB)]]
 else none
 else
 if ((gI 2 x1.2)==8)=true then
 if (gC 1 x1.2).isDp=true then
 if (gC 0 x1.2).isDp=true then
 let K7:Bool→Option (List Row):=fun q8=>
 some [[.bool q8]]
 if (decide ((((at_ ((gC 1 x1.2).dpRow) 3).rows).length:Int)≥((at_ ((gC 0 x1.2).dpRow) 2).toI)))=true then
 if (gC 1 x1.2).isDp=true then
 if (gC 0 x1.2).isDp=true then
 K7 (decide ((((at_ ((gC 1 x1.2).dpRow) 3).rows).length:Int)≤((at_ ((gC 0 x1.2).dpRow) 3).toI)))
 else none
 else none
 else
 K7 false
 else none
 else none
 else
 if ((gI 2 x1.2)==9)=true then
 if (gC 1 x1.2).isDp=true then
 if (gC 0 x1.2).isDp=true then
 let K9:Bool→Option (List Row):=fun q10=>
 let K11:Bool→Option (List Row):=fun q12=>
 some [[.bool q12]]
 if q10=true then
 if (gC 1 x1.2).isDp=true then
 (E.pc n_slices_ContainsFunc_api_Field [[at_ ((gC 1 x1.2).dpRow) 3],[.fn n_types_fits_3 [gC 0 x1.2]]]).bind fun y13=>
 K11 (!((at_ (rowsAt y13 0) 0).toB))
 else none
 else
 K11 false
 if (decide ((((at_ ((gC 1 x1.2).dpRow) 3).rows).length:Int)≥((at_ ((gC 0 x1.2).dpRow) 2).toI)))=true then
 if (gC 1 x1.2).isDp=true then
 if (gC 0 x1.2).isDp=true then
 K9 (decide ((((at_ ((gC 1 x1.2).dpRow) 3).rows).length:Int)≤((at_ ((gC 0 x1.2).dpRow) 3).toI)))
 else none
 else none
 else
 K9 false
 else none
 else none
 else
 some [[.bool true]]
theorem types_fits_eq (E:Env) (p0:Row) (p1:Row):runP E types_fits_a [p0,p1]=types_fits E p0 p1:=by kernel_rfl
def types_Part_1_a:AFun:={ps:=[lA0,(.one (.ref 9))],rs:=[lB],res:=[(false,3,none)],body:=(.seq (.region [] [oq 2 (.boxP lA0 55 (.t 0)),
 oq 3 (.mov (.c lB [.bool false]))] false 0)
 (.seq (.region [] [oq 4 (.fad 0 1 55 9 (.t 2)),
 oq 5 (.ld lS 9 (.t 4)),
 oq 6 (.ld lS 9 (.t 1)),
 oq 7 (.scmp .eql (.t 5) (.t 6)),
 oq 3 (.mov (.t 7))] false 0)
 .ret))}
noncomputable def types_Part_1 (E:Env) (p0:Row) (p1:C):Option (List Row):=
 if p1.isDp=true then
 some [[.bool (((at_ p0 0).toS)==((at_ p1.dpRow 0).toS))]]
 else none
theorem types_Part_1_eq (E:Env) (p0:Row) (p1:C):runP E types_Part_1_a [p0,[p1]]=types_Part_1 E p0 p1:=by kernel_rfl
def types_Part_a:AFun:={ps:=[lA1,lS],rs:=[lA1,lB],res:=[(true,4,none),(false,5,none)],body:=(.seq (.region [] [oq 2 (.boxP lA1 26 (.t 0)),
 oq 3 (.boxP lS 9 (.t 1)),
 oq 4 (.allocO 0 lA1 [.int 0, .str [], .int 0, .int 0, .str [], .nils]),
 oq 5 (.mov (.c lB [.bool false]))] false 1)
 (.seq (.region [] [oq 7 (.fad 5 1 26 24 (.t 2)),
 oq 8 (.ld (.one (.sl 55)) 24 (.t 7)),
 oq 9 (.mkf 52 74 [.ref 9] [(.t 3)]),
 oq 10 (.call 51 [(.one (.sl 55)),(.one (.fn 74))] [lI] [(.t 8),(.t 9)]),
 oq 6 (.mov (.t 10))] false 0)
 (.seq (.seq (.region [] [oq 11 (.mov (.t 6)),
 oq 12 (.icmp .lss (.t 11) (.c lI [.int 0]))] false 0)
 (.cond (.t 12) (.seq (.region [] [oq 13 (.bld lA1 [.int 0, .str [], .int 0, .int 0, .str [], .nils] []),
 ⟨none, .st lA1 (.t 4) (.t 13),none,[]⟩,
 oq 5 (.mov (.c lB [.bool false]))] false 0)
 .ret)
 .skip))
 (.seq (.region [] [oq 14 (.fad 5 1 26 24 (.t 2)),
 oq 15 (.ld (.one (.sl 55)) 24 (.t 14)),
 oq 16 (.mov (.t 6)),
 oq 17 (.iad 55 lA0 (.t 15) (.t 16)),
 oq 18 (.fad 1 6 55 26 (.t 17)),
 oq 19 (.ld lA1 26 (.t 18)),
 oq 20 (.icall 241 53 (types_Copy_i24_en) (types_Copy_i24_ex) [] 0 none [(.t 19)]),
 ⟨none, .st lA1 (.t 4) (.t 20),none,[]⟩,
 oq 5 (.mov (.c lB [.bool true]))] false 0)
 .ret))))}
noncomputable def types_Part (E:Env) (p0:Row) (p1:List UInt8):Option (List Row):=
 (E.pc n_slices_IndexFunc_api_Part [[at_ p0 5],[.fn n_types_Part_1 [.dp [.str p1]]]]).bind fun y1=>
 if (decide (((at_ (rowsAt y1 0) 0).toI)<0))=true then
 some [[.int 0, .str [], .int 0, .int 0, .str [], .nils],[.bool false]]
 else
 if (0:Int)≤((at_ (rowsAt y1 0) 0).toI)∧((at_ (rowsAt y1 0) 0).toI)<(((at_ p0 5).rows).length:Int)then
 (E.ic types_Copy_i24_n [.r [at_ (rowsAt ((at_ p0 5).rows) (((at_ (rowsAt y1 0) 0).toI).toNat)) 1,at_ (rowsAt ((at_ p0 5).rows) (((at_ (rowsAt y1 0) 0).toI).toNat)) 2,at_ (rowsAt ((at_ p0 5).rows) (((at_ (rowsAt y1 0) 0).toI).toNat)) 3,at_ (rowsAt ((at_ p0 5).rows) (((at_ (rowsAt y1 0) 0).toI).toNat)) 4,at_ (rowsAt ((at_ p0 5).rows) (((at_ (rowsAt y1 0) 0).toI).toNat)) 5,at_ (rowsAt ((at_ p0 5).rows) (((at_ (rowsAt y1 0) 0).toI).toNat)) 6]]).bind fun y2=>
 some [gR 0 y2,[.bool true]]
 else none
theorem types_Part_eq (E:Env) (p0:Row) (p1:List UInt8):runP E types_Part_a [p0,[.str p1]]=types_Part E p0 p1:=by kernel_rfl
def types_has_i28_h0:Shape:={slots:=[(0, .d (.one (.sl 64))),(4, .ptr 0 0),(25, .d (.one (.sl 59))),(26, .d lI),(27, .d lI)],objs:=[.var lA1]}
def types_has_i28_o0:List (Exit'×Shape):=[(.exit 0,{slots:=[],objs:=[]}),(.ret,{slots:=[(6, .whole 0),(7, .d lB)],objs:=[.arr lS]})]
def types_has_i28_c0:ACode:=(.seq (.region [] [oq 28 (.icmp .lss (.t 27) (.t 26))] false 0)
 (.seq (.cond (.t 28) .skip
 (.exit 0))
 (.seq (.block 1 (.seq (.region [] [oq 29 (.mov (.t 27)),
 oq 30 (.iad 59 lA7 (.t 25) (.t 27)),
 oq 31 (.ld lA7 59 (.t 30)),
 oq 9 (.allocO 0 lA7 [.str [], .int 0, .int 0, .str [], .nils]),
 oq 8 (.mov (.t 29)),
 ⟨none, .st lA7 (.t 9) (.t 31),none,[]⟩] false 1)
 (.seq (.region [] [oq 32 (.fad 0 1 59 9 (.t 9)),
 ⟨some 33, .ld lS 9 (.t 32),none,[0]⟩,
 oq 34 (.fad 5 1 26 24 (.t 4)),
 ⟨some 35, .ld (.one (.sl 55)) 24 (.t 34),none,[2]⟩,
 ⟨some 36, .iad 55 lA0 (.t 35) (.c lI [.int 0]),none,[2,3]⟩,
 ⟨some 37, .fad 1 6 55 26 (.t 36),none,[2,3,4]⟩,
 ⟨some 38, .ld lA1 26 (.t 37),none,[2,3,4,5]⟩,
 oq 11 (.allocO 0 lA1 [.int 0, .str [], .int 0, .int 0, .str [], .nils]),
 ⟨some 10, .mov (.t 33),none,[0,1,7]⟩,
 ⟨none, .st lA1 (.t 11) (.t 38),none,[0,1,2,3,4,5,6,7,8]⟩] true 1)
 (.seq (.seq (.region [] [oq 39 (.fad 0 1 26 3 (.t 4)),
 oq 40 (.ld lI 3 (.t 39))] false 0)
 (.join [(.normal,{slots:=[(0, .d (.one (.sl 64))),(4, .ptr 0 0),(9, .ptr 1 0),(10, .d lS),(11, .ptr 2 0),(25, .d (.one (.sl 59))),(26, .d lI),(27, .d lI)],objs:=[.var lA1, .var lA7, .var lA1]})] (.block 2 (.seq (.region [] [oq 42 (.icmp .eql (.t 40) (.c lI [.int 6])),
 oq 41 (.mov (.t 42))] false 0)
 (.cond (.t 41) (.region [] [oq 43 (.fad 5 1 26 24 (.t 4)),
 oq 44 (.ld (.one (.sl 55)) 24 (.t 43)),
 oq 45 (.mov (.t 8)),
 oq 46 (.iad 55 lA0 (.t 44) (.t 45)),
 oq 47 (.fad 1 6 55 26 (.t 46)),
 oq 48 (.ld lA1 26 (.t 47)),
 ⟨none, .st lA1 (.t 11) (.t 48),none,[]⟩] false 0)
 (.seq (.region [] [oq 50 (.icmp .eql (.t 40) (.c lI [.int 7])),
 oq 49 (.mov (.t 50))] false 0)
 (.cond (.t 49) (.region [] [oq 52 (.ld lA1 26 (.t 4)),
 oq 53 (.fad 0 1 59 9 (.t 9)),
 oq 54 (.ld lS 9 (.t 53)),
 oq 55 (.call 25 [lA1,lS] [lA1,lB] [(.t 52),(.t 54)]),
 oq 51 (.mov (.t 55)),
 oq 56 (.ext 0 (.t 51)),
 oq 57 (.ext 1 (.t 51)),
 ⟨none, .st lA1 (.t 11) (.t 56),none,[]⟩] false 0)
 (.seq (.region [] [oq 59 (.icmp .eql (.t 40) (.c lI [.int 8])),
 oq 58 (.mov (.t 59))] false 0)
 (.cond (.t 58) (.region [] [oq 60 (.mov (.t 8)),
 oq 61 (.call 26 [lI] [lS] [(.t 60)]),
 oq 10 (.mov (.t 61))] false 0)
 .skip)))))))))
 (.seq (.region [] [oq 63 (.mov (.t 0)),
 oq 64 (.ld lA1 26 (.t 11)),
 oq 65 (.fad 1 4 59 29 (.t 9)),
 oq 66 (.ld lA8 29 (.t 65)),
 oq 67 (.icall 245 14 (types_has_i28_en) (types_has_i28_ex) [] 0 none [(.t 63),(.t 64),(.t 66)]),
 oq 62 (.mov (.t 67)),
 oq 68 (.ext 0 (.t 62)),
 oq 69 (.ext 1 (.t 62)),
 oq 12 (.mov (.t 68)),
 oq 13 (.mov (.t 69))] false 1)
 (.seq (.region [] [oq 70 (.mov (.t 13)),
 oq 71 (.not (.t 70))] false 0)
 (.cond (.t 71) (.seq (.region [] [oq 72 (.mov (.t 12)),
 oq 73 (.mov (.t 10)),
 oq 74 (.bsl 9 lS 1 [.str []] [(0,(.t 73))]),
 oq 75 (.app 0 9 lS 16 (.t 72) (.t 74)),
 oq 6 (.mov (.t 75)),
 oq 7 (.mov (.c lB [.bool false]))] false 1)
 .ret)
 .skip)))))))
 (.region [] [oq 76 (.ibin .add (.t 27) (.c lI [.int 1])),
 oq 27 (.mov (.t 76))] false 0))))
noncomputable def types_has_i28_l0 (E:Env) (v0:C) (v1:C) (v2:Int) (v3:Int) (v4:Row):Option (Nat×List PV):=E.fix (stepOf E types_has_i28_c0 types_has_i28_h0 types_has_i28_o0) [.r [v0], .r [v1], .r [.int v2], .r [.int v3], .r v4]
noncomputable def types_has_i28_b0 (E:Env) (X:C→C→Int→Int→Row→Option (Nat×List PV)) (v0:C) (v1:C) (v2:Int) (v3:Int) (v4:Row):Option (Nat×List PV):=
 if (decide (v3<v2))=true then
 if (0:Int)≤v3∧v3<(v1.rows.length:Int)then
 if (0:Int)≤0∧0<(((at_ v4 5).rows).length:Int)then
 (if (((at_ v4 0).toI)==6)=true then
 if (0:Int)≤v3∧v3<(((at_ v4 5).rows).length:Int)then
 some (0,[.r [v0], .r [.str ((at_ (rowsAt v1.rows v3.toNat) 0).toS)], .r [v1], .r [.int v2], .r [.int v3], .r v4, .r (rowsAt v1.rows v3.toNat), .r [at_ (rowsAt ((at_ v4 5).rows) v3.toNat) 1,at_ (rowsAt ((at_ v4 5).rows) v3.toNat) 2,at_ (rowsAt ((at_ v4 5).rows) v3.toNat) 3,at_ (rowsAt ((at_ v4 5).rows) v3.toNat) 4,at_ (rowsAt ((at_ v4 5).rows) v3.toNat) 5,at_ (rowsAt ((at_ v4 5).rows) v3.toNat) 6]])
 else none
 else
 if (((at_ v4 0).toI)==7)=true then
 (E.pc n_types_Part [v4,[.str ((at_ (rowsAt v1.rows v3.toNat) 0).toS)]]).bind fun y3=>
 some (0,[.r [v0], .r [.str ((at_ (rowsAt v1.rows v3.toNat) 0).toS)], .r [v1], .r [.int v2], .r [.int v3], .r v4, .r (rowsAt v1.rows v3.toNat), .r (rowsAt y3 0)])
 else
 if (((at_ v4 0).toI)==8)=true then
 (E.pc n_strconv_Itoa [[.int v3]]).bind fun y4=>
 some (0,[.r [v0], .r [.str ((at_ (rowsAt y4 0) 0).toS)], .r [v1], .r [.int v2], .r [.int v3], .r v4, .r (rowsAt v1.rows v3.toNat), .r [at_ (rowsAt ((at_ v4 5).rows) 0) 1,at_ (rowsAt ((at_ v4 5).rows) 0) 2,at_ (rowsAt ((at_ v4 5).rows) 0) 3,at_ (rowsAt ((at_ v4 5).rows) 0) 4,at_ (rowsAt ((at_ v4 5).rows) 0) 5,at_ (rowsAt ((at_ v4 5).rows) 0) 6]])
 else
 some (0,[.r [v0], .r [.str ((at_ (rowsAt v1.rows v3.toNat) 0).toS)], .r [v1], .r [.int v2], .r [.int v3], .r v4, .r (rowsAt v1.rows v3.toNat), .r [at_ (rowsAt ((at_ v4 5).rows) 0) 1,at_ (rowsAt ((at_ v4 5).rows) 0) 2,at_ (rowsAt ((at_ v4 5).rows) 0) 3,at_ (rowsAt ((at_ v4 5).rows) 0) 4,at_ (rowsAt ((at_ v4 5).rows) 0) 5,at_ (rowsAt ((at_ v4 5).rows) 0) 6]])).bind fun x5=>
 (E.ic types_has_i28_n [.r [gC 0 x5.2], .r (gR 7 x5.2), .r [at_ (gR 6 x5.2) 1,at_ (gR 6 x5.2) 2,at_ (gR 6 x5.2) 3,at_ (gR 6 x5.2) 4]]).bind fun y6=>
 if (!(gB 0 y6))=true then
 if (((gC 1 y6).rows).length+([[.str (gS 1 x5.2)]]:List Row).length)*16≤140737488355328 then
 some (1,[.r [.bool false], .r [appC (gC 1 y6) ([[.str (gS 1 x5.2)]]:List Row)]])
 else none
 else
 X (gC 0 x5.2) (gC 2 x5.2) (gI 3 x5.2) (Go.IntKind.i64.wrap ((gI 4 x5.2)+1)) (gR 5 x5.2)
 else none
 else none
 else
 some (0,[])
theorem types_has_i28_s0 (E:Env) (X:List PV→Option (Nat×List PV)) (v0:C) (v1:C) (v2:Int) (v3:Int) (v4:Row):stepOf E types_has_i28_c0 types_has_i28_h0 types_has_i28_o0 X [.r [v0], .r [v1], .r [.int v2], .r [.int v3], .r v4]=types_has_i28_b0 E (fun (v0:C) (v1:C) (v2:Int) (v3:Int) (v4:Row)=>X [.r [v0], .r [v1], .r [.int v2], .r [.int v3], .r v4]) v0 v1 v2 v3 v4:=by kernel_rfl
def types_has_i28_a:AImp:={fn:=14,entry:=types_has_i28_en,res:=[.tmp 6, .tmp 7],exit:=types_has_i28_ex,body:=(.seq (.region [] [oq 4 (.boxO 0 lA1 (.t 1)),
 oq 5 (.boxP lA8 29 (.t 2)),
 oq 6 (.nilO 1 lS),
 oq 7 (.mov (.c lB [.bool false]))] false 2)
 (.seq (.region [] [oq 15 (.mov (.t 0)),
 oq 16 (.ld lA1 26 (.t 4)),
 oq 17 (.call 23 [(.one (.sl 64)),lA1] [lA1,lI] [(.t 15),(.t 16)]),
 oq 14 (.mov (.t 17)),
 oq 18 (.ext 0 (.t 14)),
 oq 19 (.ext 1 (.t 14)),
 ⟨none, .st lA1 (.t 4) (.t 18),none,[]⟩] false 0)
 (.seq (.seq (.region [] [oq 20 (.ld lA1 26 (.t 4)),
 oq 21 (.ld lA8 29 (.t 5)),
 oq 22 (.call 24 [lA1,lA8] [lB] [(.t 20),(.t 21)]),
 oq 23 (.not (.t 22))] false 0)
 (.cond (.t 23) (.seq (.region [] [oq 6 (.nilO 0 lS),
 oq 7 (.mov (.c lB [.bool false]))] false 1)
 .ret)
 .skip))
 (.seq (.seq (.region [] [oq 24 (.fad 3 1 29 27 (.t 5)),
 oq 25 (.ld (.one (.sl 59)) 27 (.t 24)),
 oq 26 (.lenL (.t 25)),
 oq 27 (.mov (.c lI [.int 0]))] false 0)
 (.block 0 (.loop types_has_i28_h0 types_has_i28_o0 types_has_i28_c0)))
 (.seq (.region [] [oq 6 (.nilO 0 lS),
 oq 7 (.mov (.c lB [.bool true]))] false 1)
 .ret)))))}
noncomputable def types_has_i28 (E:Env) (p0:C) (p1:Row) (p2:Row):Option (List PV):=
 (E.pc n_types_resolve [[p0],p1]).bind fun y1=>
 (E.pc n_types_fits [rowsAt y1 0,p2]).bind fun y2=>
 if (!((at_ (rowsAt y2 0) 0).toB))=true then
 some [.r [.bool false], .r [.nils]]
 else
 (types_has_i28_l0 E p0 (at_ p2 3) (((at_ p2 3).rows).length:Int) 0 (rowsAt y1 0)).bind fun x7=>
 match x7.1 with
 |0=>
 some [.r [.bool true], .r [.nils]]
 |i8+1=>
 some [.r [.bool (gB 0 x7.2)], .r [gC 1 x7.2]]
theorem types_has_i28_eq (E:Env) (p0:C) (p1:Row) (p2:Row):runI E types_has_i28_a [.r [p0], .r p1, .r p2]=types_has_i28 E p0 p1 p2:=by kernel_rfl
def slices_Reverse_string_i29_h0:Shape:={slots:=[(0, .hol 0),(2, .d lI),(3, .d lI)],objs:=[.hol lS (.agg [])],m:=1}
def slices_Reverse_string_i29_o0:List (Exit'×Shape):=[(.exit 0,{slots:=[],objs:=[.hol lS (.agg [])],m:=1})]
def slices_Reverse_string_i29_c0:ACode:=(.seq (.seq (.region [] [oq 7 (.mov (.t 2)),
 oq 8 (.mov (.t 3)),
 oq 9 (.icmp .lss (.t 7) (.t 8))] false 0)
 (.cond (.t 9) .skip
 (.exit 0)))
 (.seq (.block 1 (.region [] [oq 14 (.mov (.t 0)),
 oq 15 (.mov (.t 2)),
 oq 16 (.mov (.t 0)),
 oq 17 (.mov (.t 3)),
 oq 18 (.mov (.t 0)),
 oq 19 (.mov (.t 3)),
 ⟨some 20, .iad 9 lS (.t 18) (.t 19),none,[4,5]⟩,
 ⟨some 21, .ldH false lS (.t 20),none,[4,5,6]⟩,
 oq 22 (.mov (.t 0)),
 oq 23 (.mov (.t 2)),
 ⟨some 24, .iad 9 lS (.t 22) (.t 23),none,[8,9]⟩,
 ⟨some 25, .ldH false lS (.t 24),none,[8,9,10]⟩,
 ⟨some 26, .iad 9 lS (.t 14) (.t 15),none,[0,1,4,5,6,7,8,9,10,11]⟩,
 ⟨none, .stF lS (.t 26) (.t 21),none,[0,1,4,5,6,7,8,9,10,11,12]⟩,
 ⟨some 27, .iad 9 lS (.t 16) (.t 17),none,[0,1,2,3,4,5,6,7,8,9,10,11,12,13]⟩,
 ⟨none, .stF lS (.t 27) (.t 25),none,[0,1,2,3,4,5,6,7,8,9,10,11,12,13,14]⟩] true 0))
 (.region [] [oq 10 (.mov (.t 2)),
 oq 11 (.ibin .add (.t 10) (.c lI [.int 1])),
 oq 12 (.mov (.t 3)),
 oq 13 (.ibin .sub (.t 12) (.c lI [.int 1])),
 oq 2 (.mov (.t 11)),
 oq 3 (.mov (.t 13))] false 0)))
noncomputable def slices_Reverse_string_i29_l0 (E:Env) (v0:Int) (v1:Int) (v2:Row):Option (Nat×List PV):=E.fix (stepOf E slices_Reverse_string_i29_c0 slices_Reverse_string_i29_h0 slices_Reverse_string_i29_o0) [.r [.int v0], .r [.int v1], .r v2]
noncomputable def slices_Reverse_string_i29_b0 (E:Env) (X:Int→Int→Row→Option (Nat×List PV)) (v0:Int) (v1:Int) (v2:Row):Option (Nat×List PV):=
 if (decide (v0<v1))=true then
 if (0:Int)≤v1∧v1<(((at_ v2 0).rows).length:Int)then
 if v1.toNat<((at_ v2 0).rows).length∧v1.toNat≠(((at_ v2 1).toI).toNat)then
 if (0:Int)≤v0∧v0<(((at_ v2 0).rows).length:Int)then
 if v0.toNat<((at_ v2 0).rows).length∧v0.toNat≠(((at_ v2 1).toI).toNat)then
 if (0:Int)≤v0∧v0<(((at_ v2 0).rows).length:Int)then
 if ((at_ v2 0).rows).length≤(((at_ v2 1).toI).toNat)∧v0.toNat<((at_ v2 0).rows).length then
 if (0:Int)≤v1∧v1<((((at_ v2 0).rows).set v0.toNat [.str ((at_ (rowsAt ((at_ v2 0).rows) v1.toNat) 0).toS)]).length:Int)then
 if (((at_ v2 0).rows).set v0.toNat [.str ((at_ (rowsAt ((at_ v2 0).rows) v1.toNat) 0).toS)]).length≤(((at_ v2 1).toI).toNat)∧v1.toNat<(((at_ v2 0).rows).set v0.toNat [.str ((at_ (rowsAt ((at_ v2 0).rows) v1.toNat) 0).toS)]).length then
 X (Go.IntKind.i64.wrap (v0+1)) (Go.IntKind.i64.wrap (v1 - 1)) [.sl ((((at_ v2 0).rows).set v0.toNat [.str ((at_ (rowsAt ((at_ v2 0).rows) v1.toNat) 0).toS)]).set v1.toNat [.str ((at_ (rowsAt ((at_ v2 0).rows) v0.toNat) 0).toS)]), .int ((((at_ v2 1).toI).toNat:Nat):Int)]
 else none
 else none
 else none
 else none
 else none
 else none
 else none
 else none
 else
 some (0,[.r [at_ v2 0, .int ((((at_ v2 1).toI).toNat:Nat):Int)]])
theorem slices_Reverse_string_i29_s0 (E:Env) (X:List PV→Option (Nat×List PV)) (v0:Int) (v1:Int) (v2:Row):stepOf E slices_Reverse_string_i29_c0 slices_Reverse_string_i29_h0 slices_Reverse_string_i29_o0 X [.r [.int v0], .r [.int v1], .r v2]=slices_Reverse_string_i29_b0 E (fun (v0:Int) (v1:Int) (v2:Row)=>X [.r [.int v0], .r [.int v1], .r v2]) v0 v1 v2:=by kernel_rfl
def slices_Reverse_string_i29_a:AImp:={fn:=15,entry:=slices_Reverse_string_i29_en,res:=[],exit:=slices_Reverse_string_i29_ex,body:=(.seq (.region [] [oq 4 (.mov (.t 0)),
 oq 5 (.lenL (.t 4)),
 oq 6 (.ibin .sub (.t 5) (.c lI [.int 1])),
 oq 2 (.mov (.c lI [.int 0])),
 oq 3 (.mov (.t 6))] false 0)
 (.block 0 (.loop slices_Reverse_string_i29_h0 slices_Reverse_string_i29_o0 slices_Reverse_string_i29_c0)))}
noncomputable def slices_Reverse_string_i29 (E:Env) (p0:Row):Option (List PV):=
 (slices_Reverse_string_i29_l0 E 0 (Go.IntKind.i64.wrap ((((at_ p0 0).rows).length:Int) - 1)) [at_ p0 0, .int ((((at_ p0 1).toI).toNat:Nat):Int)]).bind fun x1=>
 some [.r [gC 0 x1.2, .int ((((at_ (gR 0 x1.2) 1).toI).toNat:Nat):Int)]]
theorem slices_Reverse_string_i29_eq (E:Env) (p0:Row):runI E slices_Reverse_string_i29_a [.r p0]=slices_Reverse_string_i29 E p0:=by kernel_rfl
def types_Has_a:AFun:={ps:=[(.one (.sl 64)),lA1,lA8],rs:=[lB,(.one (.sl 9)),lI],res:=[(false,6,none),(false,7,(some lS)),(false,8,none)],body:=(.seq (.region [] [oq 4 (.boxP lA1 26 (.t 1)),
 oq 5 (.boxP lA8 29 (.t 2)),
 oq 6 (.mov (.c lB [.bool false])),
 oq 7 (.mov (.c (.one (.sl 9)) [.nils])),
 oq 8 (.mov (.c lI [.int 0]))] false 0)
 (.seq (.seq (.region [] [oq 12 (.mov (.t 0)),
 oq 13 (.ld lA1 26 (.t 4)),
 oq 14 (.call 13 [(.one (.sl 64)),lA1] [lI] [(.t 12),(.t 13)]),
 oq 9 (.mov (.t 14))] false 0)
 (.seq (.region [] [oq 15 (.mov (.t 9)),
 oq 16 (.icmp .neq (.t 15) (.c lI [.int 0]))] false 0)
 (.cond (.t 16) (.seq (.region [] [oq 17 (.mov (.t 9)),
 oq 6 (.mov (.c lB [.bool false])),
 oq 7 (.mov (.c (.one (.sl 9)) [.nils])),
 oq 8 (.mov (.t 17))] false 0)
 .ret)
 .skip)))
 (.seq (.seq (.region [] [oq 18 (.ld lA8 29 (.t 5)),
 oq 19 (.call 9 [lA8] [lI] [(.t 18)]),
 oq 20 (.icmp .neq (.t 19) (.c lI [.int 0]))] false 0)
 (.cond (.t 20) (.seq (.region [] [oq 6 (.mov (.c lB [.bool false])),
 oq 7 (.mov (.c (.one (.sl 9)) [.nils])),
 oq 8 (.mov (.c lI [.int 0]))] false 0)
 .ret)
 .skip))
 (.seq (.region [] [oq 22 (.mov (.t 0)),
 oq 23 (.ld lA1 26 (.t 4)),
 oq 24 (.ld lA8 29 (.t 5)),
 oq 25 (.icall 245 14 (types_has_i28_en) (types_has_i28_ex) [] 0 none [(.t 22),(.t 23),(.t 24)]),
 oq 21 (.mov (.t 25)),
 oq 26 (.ext 0 (.t 21)),
 oq 27 (.ext 1 (.t 21)),
 oq 10 (.mov (.t 26)),
 oq 11 (.mov (.t 27))] false 1)
 (.seq (.ghost (.opnH 10 lS) (.post (.clsF 10) (.region [] [oq 28 (.mov (.t 10)),
 oq 29 (.icall 246 15 (slices_Reverse_string_i29_en) (slices_Reverse_string_i29_ex) [1] 0 none [(.t 28)])] false 0)))
 (.seq (.region [] [oq 30 (.mov (.t 11)),
 oq 31 (.mov (.t 10)),
 oq 6 (.mov (.t 30)),
 oq 7 (.mov (.t 31)),
 oq 8 (.mov (.c lI [.int 0]))] false 0)
 .ret))))))}
noncomputable def types_Has (E:Env) (p0:C) (p1:Row) (p2:Row):Option (List Row):=
 (E.pc n_types_Right [[p0],p1]).bind fun y1=>
 if (((at_ (rowsAt y1 0) 0).toI) !=0)=true then
 some [[.bool false],[.nils],[.int ((at_ (rowsAt y1 0) 0).toI)]]
 else
 (E.pc n_value_Check [p2]).bind fun y2=>
 if (((at_ (rowsAt y2 0) 0).toI) !=0)=true then
 some [[.bool false],[.nils],[.int 0]]
 else
 (E.ic types_has_i28_n [.r [p0], .r p1, .r p2]).bind fun y3=>
 (E.ic slices_Reverse_string_i29_n [.r [gC 1 y3, .int ((((gC 1 y3).rows).length:Nat):Int)]]).bind fun y4=>
 if ((gC 0 y4).rows).length≤(((at_ (gR 0 y4) 1).toI).toNat)then
 some [[.bool (gB 0 y3)],[gC 0 y4],[.int 0]]
 else none
theorem types_Has_eq (E:Env) (p0:C) (p1:Row) (p2:Row):runP E types_Has_a [[p0],p1,p2]=types_Has E p0 p1 p2:=by kernel_rfl
def typing_find_1_a:AFun:={ps:=[lA0,(.one (.ref 9))],rs:=[lB],res:=[(false,3,none)],body:=(.seq (.region [] [oq 2 (.boxP lA0 55 (.t 0)),
 oq 3 (.mov (.c lB [.bool false]))] false 0)
 (.seq (.region [] [oq 4 (.fad 0 1 55 9 (.t 2)),
 oq 5 (.ld lS 9 (.t 4)),
 oq 6 (.ld lS 9 (.t 1)),
 oq 7 (.scmp .eql (.t 5) (.t 6)),
 oq 3 (.mov (.t 7))] false 0)
 .ret))}
def typing_find_a:AFun:={ps:=[lA1,lS],rs:=[lI],res:=[(false,4,none)],body:=(.seq (.region [] [oq 2 (.boxP lA1 26 (.t 0)),
 oq 3 (.boxP lS 9 (.t 1)),
 oq 4 (.mov (.c lI [.int 0]))] false 0)
 (.seq (.region [] [oq 5 (.fad 5 1 26 24 (.t 2)),
 oq 6 (.ld (.one (.sl 55)) 24 (.t 5)),
 oq 7 (.mkf 84 74 [.ref 9] [(.t 3)]),
 oq 8 (.call 51 [(.one (.sl 55)),(.one (.fn 74))] [lI] [(.t 6),(.t 7)]),
 oq 4 (.mov (.t 8))] false 0)
 .ret))}
def typing_copyType_i26_h0:Shape:={slots:=[(1, .ptr 0 0),(2, .ptr 1 0),(9, .d (.one (.sl 55))),(10, .d lI),(11, .d lI)],objs:=[oS4,oS5, .arr lA0, .arr lA0]}
def typing_copyType_i26_o0:List (Exit'×Shape):=[(.exit 0,{slots:=[(1, .ptr 0 0),(2, .ptr 1 0)],objs:=[oS4,oS5, .arr lA0, .arr lA0]})]
def typing_copyType_i26_c0:ACode:=(.seq (.region [] [oq 12 (.icmp .lss (.t 11) (.t 10))] false 0)
 (.seq (.cond (.t 12) .skip
 (.exit 0))
 (.seq (.block 1 (.seq (.region [] [oq 13 (.iad 55 lA0 (.t 9) (.t 11)),
 oq 14 (.ld lA0 55 (.t 13)),
 oq 5 (.allocA 0 [some ((.str), .str []),some ((.int .i64), .int 0),some ((.str), .str []),some ((.int .i64), .int 0),some ((.int .i64), .int 0),some ((.str), .str []),some ((.sl 55), .nils)]),
 ⟨none, .stA 7 (.t 5) (.t 14),none,[]⟩] false 1)
 (.region [] [oq 15 (.fad 5 1 26 24 (.t 1)),
 ⟨some 16, .ldC (.t 15),none,[0]⟩,
 oq 17 (.fad 0 1 55 9 (.t 5)),
 ⟨some 18, .ldC (.t 17),none,[2]⟩,
 oq 19 (.fad 1 6 55 26 (.t 5)),
 ⟨some 20, .ldA 6 (.t 19),none,[4]⟩,
 ⟨some 21, .icall 237 35 (typing_copyType_i20_en) (typing_copyType_i20_ex) [] 0 none [(.t 20)],none,[4,5]⟩,
 ⟨some 22, .bld lA0 [.str [], .int 0, .str [], .int 0, .int 0, .str [], .nils] [(0,1,(.t 18)),(1,6,(.t 21))],none,[2,3,4,5,6]⟩,
 ⟨some 23, .bsl 55 lA0 1 [.str [], .int 0, .str [], .int 0, .int 0, .str [], .nils] [(0,(.t 22))],none,[2,3,4,5,6,7]⟩,
 ⟨some 24, .app 0 55 lA0 96 (.t 16) (.t 23),none,[0,1,2,3,4,5,6,7,8]⟩,
 ⟨some 25, .fad 5 1 26 24 (.t 1),none,[0,1,2,3,4,5,6,7,8,9]⟩,
 ⟨none, .stC (.t 25) (.t 24),none,[0,1,2,3,4,5,6,7,8,9,10]⟩] true 1)))
 (.region [] [oq 26 (.ibin .add (.t 11) (.c lI [.int 1])),
 oq 11 (.mov (.t 26))] false 0))))
def typing_copyType_i26_a:AImp:={fn:=35,entry:=typing_copyType_i26_en,res:=[.cells 2 6],exit:=typing_copyType_i26_ex,body:=(.seq (.post (.lftO 2 5 55 lA0) (.region [] [oq 1 (.boxA 0 (.t 0)),
 oq 2 (.allocA 1 [some ((.int .i64), .int 0),some ((.str), .str []),some ((.int .i64), .int 0),some ((.int .i64), .int 0),some ((.str), .str []),some ((.sl 55), .nils)])] false 2))
 (.seq (.region [] [oq 6 (.fad 5 1 26 24 (.t 1)),
 oq 7 (.ldC (.t 6)),
 oq 3 (.mov (.t 7))] false 0)
 (.seq (.post (.lftO 8 0 55 lA0) (.region [] [oq 8 (.fad 5 1 26 24 (.t 1)),
 ⟨none, .stC (.t 8) (.c (.one (.sl 55)) [.nils]),none,[]⟩] false 0))
 (.seq (.seq (.region [] [oq 9 (.mov (.t 3)),
 oq 10 (.lenL (.t 9)),
 oq 11 (.mov (.c lI [.int 0]))] false 0)
 (.block 0 (.loop typing_copyType_i26_h0 typing_copyType_i26_o0 typing_copyType_i26_c0)))
 (.seq (.region [] [oq 27 (.ldA 6 (.t 1)),
 ⟨none, .stA 6 (.t 2) (.t 27),none,[]⟩] false 0)
 .ret)))))}
def slices_Delete_api_Part_i27_a:AImp:={fn:=70,entry:=slices_Delete_api_Part_i27_en,res:=[.tmp 6],exit:=slices_Delete_api_Part_i27_ex,body:=(.seq (.region [] [oq 6 (.nilO 0 lA0)] false 1)
 (.seq (.region [] [oq 8 (.mov (.t 0)),
 oq 9 (.mov (.t 1)),
 oq 10 (.mov (.t 2)),
 oq 11 (.mov (.t 0)),
 oq 12 (.lenL (.t 11)),
 oq 13 (.slc3 55 lA0 (.t 8) (.t 9) (.t 10) (.t 12))] false 0)
 (.seq (.seq (.region [] [oq 14 (.mov (.t 1)),
 oq 15 (.mov (.t 2)),
 oq 16 (.icmp .eql (.t 14) (.t 15))] false 0)
 (.cond (.t 16) (.seq (.region [] [oq 17 (.mov (.t 0)),
 oq 6 (.mov (.t 17))] false 0)
 .ret)
 .skip))
 (.seq (.region [] [oq 18 (.mov (.t 0)),
 oq 19 (.lenL (.t 18)),
 oq 7 (.mov (.t 19))] false 0)
 (.seq (.region [] [oq 20 (.mov (.t 0)),
 oq 21 (.mov (.t 1)),
 ⟨some 22, .slc 55 lA0 (.t 20) none (some (.t 21)),none,[0,1]⟩,
 oq 23 (.mov (.t 0)),
 oq 24 (.mov (.t 2)),
 ⟨some 25, .slc 55 lA0 (.t 23) (some (.t 24)) none,none,[3,4]⟩,
 ⟨some 26, .appM 55 lA0 (.t 22) (.t 25),none,[0,1,2,3,4,5]⟩,
 ⟨some 0, .mov (.t 26),none,[0,1,2,3,4,5,6]⟩] true 1)
 (.seq (.region [] [oq 27 (.mov (.t 0)),
 oq 28 (.mov (.t 0)),
 oq 29 (.lenL (.t 28)),
 oq 30 (.mov (.t 7)),
 oq 31 (.slc 55 lA0 (.t 27) (some (.t 29)) (some (.t 30))),
 ⟨none, .clr 55 lA0 [.str [], .int 0, .str [], .int 0, .int 0, .str [], .nils] (.t 31),none,[]⟩] false 0)
 (.seq (.region [] [oq 32 (.mov (.t 0)),
 oq 6 (.movT (.t 32))] false 0)
 .ret)))))))}
def typing_fields_i25_a:AImp:={fn:=40,entry:=typing_fields_i25_en,res:=[.var 6 lA1, .tmp 7],exit:=typing_fields_i25_ex,body:=(.seq (.region [] [oq 4 (.boxP lA6 44 (.t 1)),
 oq 5 (.boxA 0 (.t 2)),
 oq 6 (.allocO 1 lA1 [.int 0, .str [], .int 0, .int 0, .str [], .nils]),
 oq 7 (.mov (.c lI [.int 0]))] false 2)
 (.seq (.seq (.region [] [oq 19 (.fad 0 1 44 3 (.t 4)),
 oq 20 (.ld lI 3 (.t 19)),
 oq 21 (.icmp .eql (.t 20) (.c lI [.int 6]))] false 0)
 (.cond (.t 21) (.seq (.region [] [oq 22 (.ld lA6 44 (.t 4)),
 oq 23 (.ldA 6 (.t 5)),
 oq 24 (.bad),
 oq 25 (.bad),
 oq 26 (.bad),
 ⟨none, .bad,none,[]⟩,
 oq 7 (.bad)] false 0)
 .ret)
 .skip))
 (.seq (.region [] [oq 27 (.ldA 6 (.t 5)),
 oq 28 (.fad 1 1 44 9 (.t 4)),
 oq 29 (.ld lS 9 (.t 28)),
 oq 30 (.call 61 [lA1,lS] [lI] [(.t 27),(.t 29)]),
 oq 8 (.mov (.t 30))] false 0)
 (.seq (.seq (.region [] [oq 31 (.fad 0 1 44 3 (.t 4)),
 oq 32 (.ld lI 3 (.t 31)),
 oq 33 (.icmp .eql (.t 32) (.c lI [.int 5]))] false 0)
 (.cond (.t 33) (.seq (.seq (.region [] [oq 34 (.mov (.t 8)),
 oq 35 (.icmp .geq (.t 34) (.c lI [.int 0]))] false 0)
 (.cond (.t 35) (.seq (.region [] [oq 36 (.bld lA1 [.int 0, .str [], .int 0, .int 0, .str [], .nils] []),
 ⟨none, .st lA1 (.t 6) (.t 36),none,[]⟩,
 oq 7 (.mov (.c lI [.int 5]))] false 0)
 .ret)
 .skip))
 (.seq (.seq (.region [] [oq 37 (.fad 5 1 26 24 (.t 5)),
 oq 38 (.ldC (.t 37)),
 oq 39 (.lenL (.t 38)),
 oq 40 (.icmp .geq (.t 39) (.c lI [.int 24]))] false 0)
 (.cond (.t 40) (.seq (.region [] [oq 41 (.bld lA1 [.int 0, .str [], .int 0, .int 0, .str [], .nils] []),
 ⟨none, .st lA1 (.t 6) (.t 41),none,[]⟩,
 oq 7 (.mov (.c lI [.int 6]))] false 0)
 .ret)
 .skip))
 (.seq (.region [] [oq 43 (.fad 8 4 44 29 (.t 4)),
 oq 44 (.ld lA8 29 (.t 43)),
 oq 45 (.bad),
 oq 42 (.bad),
 oq 46 (.bad),
 oq 47 (.bad),
 oq 9 (.bad),
 ⟨none, .bad,none,[]⟩,
 oq 10 (.bad)] false 0)
 (.seq (.seq .bad
 .bad)
 (.seq .bad
 (.seq .bad
 (.seq .bad
 .ret)))))))
 .skip))
 (.seq (.seq (.region [] [oq 64 (.mov (.t 8)),
 oq 65 (.icmp .lss (.t 64) (.c lI [.int 0]))] false 0)
 (.cond (.t 65) (.seq (.region [] [oq 66 (.bld lA1 [.int 0, .str [], .int 0, .int 0, .str [], .nils] []),
 ⟨none, .st lA1 (.t 6) (.t 66),none,[]⟩,
 oq 7 (.mov (.c lI [.int 15]))] false 0)
 .ret)
 .skip))
 (.seq (.region [] [oq 67 (.ldA 6 (.t 5)),
 oq 68 (.icall 243 35 (typing_copyType_i26_en) (typing_copyType_i26_ex) [] 0 none [(.t 67)]),
 oq 12 (.allocA 1 [some ((.int .i64), .int 0),some ((.str), .str []),some ((.int .i64), .int 0),some ((.int .i64), .int 0),some ((.str), .str []),some ((.sl 55), .nils)]),
 ⟨none, .stA 6 (.t 12) (.t 68),none,[]⟩] false 2)
 (.seq (.seq (.region [] [oq 69 (.fad 0 1 44 3 (.t 4)),
 oq 70 (.ld lI 3 (.t 69))] false 0)
 (.join [(.normal,{slots:=[(6, .ptr 0 0),(12, .ptr 1 0)],objs:=[.var lA1,oS4, .arr lA0]}),(.ret,{slots:=[(6, .ptr 0 0),(7, .d lI)],objs:=[.var lA1]})] (.block 0 (.seq (.region [] [oq 72 (.icmp .eql (.t 70) (.c lI [.int 2])),
 oq 71 (.mov (.t 72))] false 0)
 (.cond (.t 71) (.seq (.region [] [oq 74 (.mov (.t 0)),
 oq 75 (.fad 13 1 44 42 (.t 4)),
 ⟨some 76, .ld (.one (.sl 44)) 42 (.t 75),none,[1]⟩,
 ⟨some 77, .iad 44 lA6 (.t 76) (.c lI [.int 0]),none,[1,2]⟩,
 ⟨some 78, .ld lA6 44 (.t 77),none,[1,2,3]⟩,
 oq 79 (.fad 5 1 26 24 (.t 5)),
 ⟨some 80, .ldC (.t 79),none,[5]⟩,
 oq 81 (.mov (.t 8)),
 ⟨some 82, .iad 55 lA0 (.t 80) (.t 81),none,[5,6,7]⟩,
 ⟨some 83, .fad 1 6 55 26 (.t 82),none,[5,6,7,8]⟩,
 ⟨some 84, .ld lA1 26 (.t 83),none,[5,6,7,8,9]⟩,
 ⟨some 85, .call 21 [(.one (.sl 64)),lA6,lA1] [lA1,lI] [(.t 74),(.t 78),(.t 84)],none,[0,1,2,3,4,5,6,7,8,9,10]⟩,
 ⟨some 73, .mov (.t 85),none,[0,1,2,3,4,5,6,7,8,9,10,11]⟩,
 ⟨some 86, .ext 0 (.t 73),none,[0,1,2,3,4,5,6,7,8,9,10,11,12]⟩,
 ⟨some 87, .ext 1 (.t 73),none,[0,1,2,3,4,5,6,7,8,9,10,11,12]⟩,
 oq 13 (.allocO 0 lA1 [.int 0, .str [], .int 0, .int 0, .str [], .nils]),
 ⟨none, .st lA1 (.t 13) (.t 86),none,[0,1,2,3,4,5,6,7,8,9,10,11,12,13,15]⟩,
 ⟨some 14, .mov (.t 87),none,[0,1,2,3,4,5,6,7,8,9,10,11,12,13,14,15,16]⟩] true 1)
 (.seq (.seq (.region [] [oq 88 (.mov (.t 14)),
 oq 89 (.icmp .neq (.t 88) (.c lI [.int 0]))] false 0)
 (.cond (.t 89) (.seq (.region [] [oq 90 (.bld lA1 [.int 0, .str [], .int 0, .int 0, .str [], .nils] []),
 oq 91 (.mov (.t 14)),
 ⟨none, .st lA1 (.t 6) (.t 90),none,[]⟩,
 oq 7 (.mov (.t 91))] false 0)
 .ret)
 .skip))
 (.region [] [oq 92 (.fad 5 1 26 24 (.t 12)),
 oq 93 (.ldC (.t 92)),
 oq 94 (.mov (.t 8)),
 oq 95 (.ld lA1 26 (.t 13)),
 oq 96 (.iad 55 lA0 (.t 93) (.t 94)),
 oq 97 (.fad 1 6 55 26 (.t 96)),
 ⟨none, .st lA1 (.t 97) (.t 95),none,[]⟩] false 0)))
 (.seq (.region [] [oq 99 (.icmp .eql (.t 70) (.c lI [.int 4])),
 oq 98 (.mov (.t 99))] false 0)
 (.cond (.t 98) (.seq (.seq (.region [] [oq 101 (.mov (.t 0)),
 oq 102 (.fad 5 1 26 24 (.t 5)),
 ⟨some 103, .ldC (.t 102),none,[1]⟩,
 oq 104 (.mov (.t 8)),
 ⟨some 105, .iad 55 lA0 (.t 103) (.t 104),none,[1,2,3]⟩,
 ⟨some 106, .fad 1 6 55 26 (.t 105),none,[1,2,3,4]⟩,
 ⟨some 107, .ld lA1 26 (.t 106),none,[1,2,3,4,5]⟩,
 oq 108 (.fad 8 4 44 29 (.t 4)),
 ⟨some 109, .ld lA8 29 (.t 108),none,[7]⟩,
 ⟨some 110, .call 8 [(.one (.sl 64)),lA1,lA8] [lB,(.one (.sl 9)),lI] [(.t 101),(.t 107),(.t 109)],none,[0,1,2,3,4,5,6,7,8]⟩,
 ⟨some 100, .mov (.t 110),none,[0,1,2,3,4,5,6,7,8,9]⟩,
 ⟨some 111, .ext 0 (.t 100),none,[0,1,2,3,4,5,6,7,8,9,10]⟩,
 ⟨some 112, .ext 1 (.t 100),none,[0,1,2,3,4,5,6,7,8,9,10]⟩,
 ⟨some 113, .ext 2 (.t 100),none,[0,1,2,3,4,5,6,7,8,9,10]⟩,
 ⟨some 15, .mov (.t 111),none,[0,1,2,3,4,5,6,7,8,9,10,11]⟩,
 ⟨some 16, .mov (.t 112),none,[0,1,2,3,4,5,6,7,8,9,10,11,12,14]⟩,
 ⟨some 17, .mov (.t 113),none,[0,1,2,3,4,5,6,7,8,9,10,11,12,13,14,15]⟩] true 0)
 (.seq (.region [] [oq 114 (.mov (.t 15)),
 oq 115 (.not (.t 114))] false 0)
 (.cond (.t 115) (.seq (.region [] [oq 116 (.bld lA1 [.int 0, .str [], .int 0, .int 0, .str [], .nils] []),
 ⟨none, .st lA1 (.t 6) (.t 116),none,[]⟩,
 oq 7 (.mov (.c lI [.int 8]))] false 0)
 .ret)
 .skip)))
 (.region [] [oq 117 (.fad 5 1 26 24 (.t 12)),
 oq 118 (.ldC (.t 117)),
 oq 119 (.mov (.t 8)),
 oq 120 (.mov (.t 8)),
 oq 121 (.ibin .add (.t 120) (.c lI [.int 1])),
 oq 122 (.icall 244 70 (slices_Delete_api_Part_i27_en) (slices_Delete_api_Part_i27_ex) [2] 0 none [(.t 118),(.t 119),(.t 121)]),
 oq 123 (.fad 5 1 26 24 (.t 12)),
 ⟨none, .stC (.t 123) (.t 122),none,[]⟩] false 0))
 (.seq (.region [] [oq 125 (.icmp .eql (.t 70) (.c lI [.int 8])),
 oq 124 (.mov (.t 125))] false 0)
 (.cond (.t 124) (.seq (.seq (.join [(.normal,{slots:=[(4, .d (.one (.ref 44))),(6, .ptr 0 0),(8, .d lI),(12, .ptr 1 0),(136, .d lB)],objs:=[.var lA1,oS4, .arr lA0]})] (.region [] [oq 126 (.fad 4 1 44 3 (.t 4)),
 oq 127 (.ld lI 3 (.t 126)),
 oq 128 (.icmp .lss (.t 127) (.c lI [.int 0])),
 oq 129 (.mov (.t 128)),
 ⟨some 130, .fad 4 1 44 3 (.t 4),some (129,false),[]⟩,
 ⟨some 131, .ld lI 3 (.t 130),some (129,false),[]⟩,
 ⟨some 132, .fad 5 1 26 24 (.t 5),some (129,false),[]⟩,
 ⟨some 133, .ldC (.t 132),some (129,false),[]⟩,
 ⟨some 134, .lenL (.t 133),some (129,false),[]⟩,
 ⟨some 135, .icmp .geq (.t 131) (.t 134),some (129,false),[]⟩,
 oq 136 (.pick (.t 129) (.c lB [.bool true]) (.t 135))] false 0))
 (.cond (.t 136) (.seq (.region [] [oq 137 (.bld lA1 [.int 0, .str [], .int 0, .int 0, .str [], .nils] []),
 ⟨none, .st lA1 (.t 6) (.t 137),none,[]⟩,
 oq 7 (.mov (.c lI [.int 11]))] false 0)
 .ret)
 .skip))
 (.seq (.region [] [oq 138 (.fad 5 1 26 24 (.t 12)),
 oq 139 (.ldC (.t 138)),
 oq 140 (.mov (.t 8)),
 oq 141 (.iad 55 lA0 (.t 139) (.t 140)),
 oq 142 (.ld lA0 55 (.t 141)),
 oq 18 (.allocO 0 lA0 [.str [], .int 0, .str [], .int 0, .int 0, .str [], .nils]),
 ⟨none, .st lA0 (.t 18) (.t 142),none,[]⟩] false 1)
 (.region [] [oq 143 (.fad 5 1 26 24 (.t 12)),
 ⟨some 144, .ldC (.t 143),none,[0]⟩,
 oq 145 (.mov (.t 8)),
 oq 146 (.mov (.t 8)),
 ⟨some 147, .ibin .add (.t 146) (.c lI [.int 1]),none,[3]⟩,
 ⟨some 148, .icall 244 70 (slices_Delete_api_Part_i27_en) (slices_Delete_api_Part_i27_ex) [2] 0 none [(.t 144),(.t 145),(.t 147)],none,[0,1,2,3,4]⟩,
 oq 149 (.fad 4 1 44 3 (.t 4)),
 ⟨some 150, .ld lI 3 (.t 149),none,[6]⟩,
 oq 151 (.ld lA0 55 (.t 18)),
 ⟨some 152, .bsl 55 lA0 1 [.str [], .int 0, .str [], .int 0, .int 0, .str [], .nils] [(0,(.t 151))],none,[8]⟩,
 ⟨some 153, .bad,none,[0,1,2,3,4,5,6,7,8,9]⟩,
 ⟨some 154, .bad,none,[0,1,2,3,4,5,6,7,8,9,10]⟩,
 ⟨none, .bad,none,[0,1,2,3,4,5,6,7,8,9,10,11]⟩] true 0)))
 (.seq (.region [] [oq 156 (.icmp .eql (.t 70) (.c lI [.int 7])),
 oq 155 (.mov (.t 156))] false 0)
 (.cond (.t 155) (.seq (.region [] [oq 157 (.mov (.t 0)),
 oq 158 (.ldA 6 (.t 5)),
 oq 159 (.ldA 6 (.t 12)),
 oq 160 (.mov (.t 8)),
 oq 161 (.bad),
 oq 162 (.bad),
 oq 163 (.bad),
 ⟨none, .bad,none,[]⟩,
 oq 7 (.bad)] false 0)
 .ret)
 (.seq (.region [] [oq 165 (.icmp .eql (.t 70) (.c lI [.int 9])),
 oq 164 (.mov (.t 165))] false 0)
 (.cond (.t 164) (.seq (.region [] [oq 166 (.mov (.t 0)),
 oq 167 (.ld lA6 44 (.t 4)),
 oq 168 (.ldA 6 (.t 5)),
 oq 169 (.ldA 6 (.t 12)),
 oq 170 (.mov (.t 8)),
 oq 171 (.bad),
 oq 172 (.bad),
 oq 173 (.bad),
 ⟨none, .bad,none,[]⟩,
 oq 7 (.bad)] false 0)
 .ret)
 (.seq (.region [] [oq 175 (.icmp .eql (.t 70) (.c lI [.int 10])),
 oq 174 (.mov (.t 175))] false 0)
 (.cond (.t 174) (.seq (.region [] [oq 176 (.mov (.t 0)),
 oq 177 (.ld lA6 44 (.t 4)),
 oq 178 (.ldA 6 (.t 5)),
 oq 179 (.ldA 6 (.t 12)),
 oq 180 (.mov (.t 8)),
 oq 181 (.bad),
 oq 182 (.bad),
 oq 183 (.bad),
 ⟨none, .bad,none,[]⟩,
 oq 7 (.bad)] false 0)
 .ret)
 .skip)))))))))))))))
 (.seq (.ghost (.frz 12 5 55 lA0) (.region [] [oq 184 (.ldA 6 (.t 12)),
 ⟨none, .st lA1 (.t 6) (.t 184),none,[]⟩,
 oq 7 (.mov (.c lI [.int 0]))] false 0))
 .ret))))))))}
end Go.Ev
