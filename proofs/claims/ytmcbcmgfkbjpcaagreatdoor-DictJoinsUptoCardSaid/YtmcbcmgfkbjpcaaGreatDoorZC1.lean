/-
  A part of the proof: what the functions of the program compute.
-/
import Derived.Test.YtmcbcmgfkbjpcaaGreatDoorZNum
set_option linter.all false
set_option maxRecDepth 100000
namespace Go.Ev
def value_Name_h0:Shape:={slots:=[(23, .d (.one (.sl 5))),(24, .d lI),(25, .d lI)],objs:=[]}
def value_Name_o0:List (Exit'×Shape):=[(.exit 0,{slots:=[],objs:=[]}),(.ret,{slots:=[(2, .d lB)],objs:=[]})]
def value_Name_c0:ACode:=(.seq (.region [] [oq 26 (.icmp .lss (.t 25) (.t 24))] false 0)
 (.seq (.cond (.t 26) .skip
 (.exit 0))
 (.seq (.join [(.normal,{slots:=[(23, .d (.one (.sl 5))),(24, .d lI),(25, .d lI)],objs:=[]}),(.ret,{slots:=[(2, .d lB)],objs:=[]})] (.block 1 (.seq (.region [] [oq 27 (.iad 5 lU (.t 23) (.t 25)),
 oq 28 (.ld lU 5 (.t 27)),
 oq 4 (.mov (.t 28))] false 0)
 (.seq (.region [] [oq 29 (.mov (.t 4)),
 oq 30 (.icmp .geq (.t 29) (.c lU [.int 97])),
 oq 31 (.mov (.t 30)),
 ⟨some 32, .mov (.t 4),some (31,true),[]⟩,
 ⟨some 33, .icmp .leq (.t 32) (.c lU [.int 122]),some (31,true),[]⟩,
 oq 34 (.pick (.t 31) (.t 33) (.c lB [.bool false])),
 oq 35 (.mov (.t 34)),
 ⟨some 36, .mov (.t 4),some (35,false),[]⟩,
 ⟨some 37, .icmp .geq (.t 36) (.c lU [.int 48]),some (35,false),[]⟩,
 ⟨some 38, .mov (.t 37),some (35,false),[]⟩,
 ⟨some 39, .mov (.t 4),some (38,true),[]⟩,
 ⟨some 40, .icmp .leq (.t 39) (.c lU [.int 57]),some (38,true),[]⟩,
 ⟨some 41, .pick (.t 38) (.t 40) (.c lB [.bool false]),some (35,false),[]⟩,
 oq 42 (.pick (.t 35) (.c lB [.bool true]) (.t 41)),
 oq 43 (.mov (.t 42)),
 ⟨some 44, .mov (.t 4),some (43,false),[]⟩,
 ⟨some 45, .icmp .eql (.t 44) (.c lU [.int 45]),some (43,false),[]⟩,
 oq 46 (.pick (.t 43) (.c lB [.bool true]) (.t 45)),
 oq 47 (.not (.t 46))] false 0)
 (.cond (.t 47) (.seq (.region [] [oq 2 (.mov (.c lB [.bool false]))] false 0)
 .ret)
 .skip)))))
 (.region [] [oq 48 (.ibin .add (.t 25) (.c lI [.int 1])),
 oq 25 (.mov (.t 48))] false 0))))
noncomputable def value_Name_l0 (E:Env) (v0:C) (v1:Int) (v2:Int):Option (Nat×List PV):=E.fix (stepOf E value_Name_c0 value_Name_h0 value_Name_o0) [.r [v0], .r [.int v1], .r [.int v2]]
noncomputable def value_Name_b0 (E:Env) (X:C→Int→Int→Option (Nat×List PV)) (v0:C) (v1:Int) (v2:Int):Option (Nat×List PV):=
 if (decide (v2<v1))=true then
 (if (0:Int)≤v2∧v2<(v0.rows.length:Int)then
 let K8:Bool→Option (Nat×List PV):=fun q9=>
 let K10:Bool→Option (Nat×List PV):=fun q11=>
 let K12:Bool→Option (Nat×List PV):=fun q13=>
 if (!q13)=true then
 some (1,[.r [.bool false]])
 else
 some (0,[.r [v0], .r [.int v1], .r [.int v2]])
 if q11=true then
 K12 true
 else
 K12 (((at_ (rowsAt v0.rows v2.toNat) 0).toI)==45)
 if q9=true then
 K10 true
 else
 let K14:Bool→Option (Nat×List PV):=fun q15=>
 K10 q15
 if (decide (((at_ (rowsAt v0.rows v2.toNat) 0).toI)≥48))=true then
 K14 (decide (((at_ (rowsAt v0.rows v2.toNat) 0).toI)≤57))
 else
 K14 false
 if (decide (((at_ (rowsAt v0.rows v2.toNat) 0).toI)≥97))=true then
 K8 (decide (((at_ (rowsAt v0.rows v2.toNat) 0).toI)≤122))
 else
 K8 false
 else none).bind fun x16=>
 match x16.1 with
 |0=>
 X (gC 0 x16.2) (gI 1 x16.2) (Go.IntKind.i64.wrap ((gI 2 x16.2)+1))
 |i17+1=>
 some (1,[.r [.bool (gB 0 x16.2)]])
 else
 some (0,[])
theorem value_Name_s0 (E:Env) (X:List PV→Option (Nat×List PV)) (v0:C) (v1:Int) (v2:Int):stepOf E value_Name_c0 value_Name_h0 value_Name_o0 X [.r [v0], .r [.int v1], .r [.int v2]]=value_Name_b0 E (fun (v0:C) (v1:Int) (v2:Int)=>X [.r [v0], .r [.int v1], .r [.int v2]]) v0 v1 v2:=by kernel_rfl
def value_Name_a:AFun:={ps:=[lS],rs:=[lB],res:=[(false,2,none)],body:=(.seq (.region [] [oq 2 (.mov (.c lB [.bool false]))] false 0)
 (.seq (.seq (.join [(.normal,{slots:=[(0, .d lS),(21, .d lB)],objs:=[]})] (.region [] [oq 5 (.mov (.t 0)),
 oq 6 (.scmp .eql (.t 5) (.c lS [.str ([]:List UInt8)])),
 oq 7 (.mov (.t 6)),
 ⟨some 8, .mov (.t 0),some (7,false),[]⟩,
 ⟨some 9, .lenS (.t 8),some (7,false),[]⟩,
 ⟨some 10, .icmp .gtr (.t 9) (.c lI [.int 16]),some (7,false),[]⟩,
 oq 11 (.pick (.t 7) (.c lB [.bool true]) (.t 10)),
 oq 12 (.mov (.t 11)),
 ⟨some 13, .mov (.t 0),some (12,false),[]⟩,
 ⟨some 14, .idxS (.t 13) (.c lI [.int 0]),some (12,false),[]⟩,
 ⟨some 15, .icmp .lss (.t 14) (.c lU [.int 97]),some (12,false),[]⟩,
 oq 16 (.pick (.t 12) (.c lB [.bool true]) (.t 15)),
 oq 17 (.mov (.t 16)),
 ⟨some 18, .mov (.t 0),some (17,false),[]⟩,
 ⟨some 19, .idxS (.t 18) (.c lI [.int 0]),some (17,false),[]⟩,
 ⟨some 20, .icmp .gtr (.t 19) (.c lU [.int 122]),some (17,false),[]⟩,
 oq 21 (.pick (.t 17) (.c lB [.bool true]) (.t 20))] false 0))
 (.cond (.t 21) (.seq (.region [] [oq 2 (.mov (.c lB [.bool false]))] false 0)
 .ret)
 .skip))
 (.seq (.seq (.region [] [oq 22 (.mov (.t 0)),
 oq 23 (.s2b 5 (.t 22)),
 oq 24 (.lenL (.t 23)),
 oq 25 (.mov (.c lI [.int 0]))] false 0)
 (.block 0 (.loop value_Name_h0 value_Name_o0 value_Name_c0)))
 (.seq (.region [] [oq 2 (.mov (.c lB [.bool true]))] false 0)
 .ret))))}
noncomputable def value_Name (E:Env) (p0:List UInt8):Option (List Row):=
 (let K1:Bool→Option (Nat×List PV):=fun q2=>
 let K3:Bool→Option (Nat×List PV):=fun q4=>
 let K5:Bool→Option (Nat×List PV):=fun q6=>
 some (0,[.r [.str p0], .r [.bool q6]])
 if q4=true then
 K5 true
 else
 if (0:Int)≤0∧0<(p0.length:Int)then
 K5 (decide (((p0.getD 0 0).toNat:Int)>122))
 else none
 if q2=true then
 K3 true
 else
 if (0:Int)≤0∧0<(p0.length:Int)then
 K3 (decide (((p0.getD 0 0).toNat:Int)<97))
 else none
 if (p0==([]:List UInt8))=true then
 K1 true
 else
 K1 (decide ((p0.length:Int)>16))).bind fun x7=>
 if (gB 1 x7.2)=true then
 some [[.bool false]]
 else
 (value_Name_l0 E (.sl ((gS 0 x7.2).map byteRow)) (((gS 0 x7.2).map byteRow).length:Int) 0).bind fun x18=>
 match x18.1 with
 |0=>
 some [[.bool true]]
 |i19+1=>
 some [[.bool (gB 0 x18.2)]]
theorem value_Name_eq (E:Env) (p0:List UInt8):runP E value_Name_a [[.str p0]]=value_Name E p0:=by kernel_rfl
def slices_IndexFunc_api_Field_h0:Shape:={slots:=[(0, .d (.one (.sl 74))),(1, .d (.one (.fn 124))),(7, .d lI),(8, .d lI)],objs:=[]}
def slices_IndexFunc_api_Field_o0:List (Exit'×Shape):=[(.exit 0,{slots:=[],objs:=[]}),(.ret,{slots:=[(4, .d lI)],objs:=[]})]
def slices_IndexFunc_api_Field_c0:ACode:=(.seq (.region [] [oq 9 (.icmp .lss (.t 8) (.t 7))] false 0)
 (.seq (.cond (.t 9) .skip
 (.exit 0))
 (.seq (.block 1 (.seq (.region [] [oq 10 (.mov (.t 8)),
 oq 5 (.mov (.t 10))] false 0)
 (.seq (.region [] [oq 11 (.mov (.t 1)),
 oq 12 (.mov (.t 0)),
 oq 13 (.mov (.t 5)),
 oq 14 (.iad 74 lA1 (.t 12) (.t 13)),
 oq 15 (.ld lA1 74 (.t 14)),
 oq 16 (.callv 124 [lA1] [lB] (.t 11) [(.t 15)])] false 0)
 (.cond (.t 16) (.seq (.region [] [oq 17 (.mov (.t 5)),
 oq 4 (.mov (.t 17))] false 0)
 .ret)
 .skip))))
 (.region [] [oq 18 (.ibin .add (.t 8) (.c lI [.int 1])),
 oq 8 (.mov (.t 18))] false 0))))
noncomputable def slices_IndexFunc_api_Field_l0 (E:Env) (v0:C) (v1:C) (v2:Int) (v3:Int):Option (Nat×List PV):=E.fix (stepOf E slices_IndexFunc_api_Field_c0 slices_IndexFunc_api_Field_h0 slices_IndexFunc_api_Field_o0) [.r [v0], .r [v1], .r [.int v2], .r [.int v3]]
noncomputable def slices_IndexFunc_api_Field_b0 (E:Env) (X:C→C→Int→Int→Option (Nat×List PV)) (v0:C) (v1:C) (v2:Int) (v3:Int):Option (Nat×List PV):=
 if (decide (v3<v2))=true then
 if (0:Int)≤v3∧v3<(v0.rows.length:Int)then
 (callC E v1 [rowsAt v0.rows v3.toNat]).bind fun y1=>
 if ((at_ (rowsAt y1 0) 0).toB)=true then
 some (1,[.r [.int v3]])
 else
 X v0 v1 v2 (Go.IntKind.i64.wrap (v3+1))
 else none
 else
 some (0,[])
theorem slices_IndexFunc_api_Field_s0 (E:Env) (X:List PV→Option (Nat×List PV)) (v0:C) (v1:C) (v2:Int) (v3:Int):stepOf E slices_IndexFunc_api_Field_c0 slices_IndexFunc_api_Field_h0 slices_IndexFunc_api_Field_o0 X [.r [v0], .r [v1], .r [.int v2], .r [.int v3]]=slices_IndexFunc_api_Field_b0 E (fun (v0:C) (v1:C) (v2:Int) (v3:Int)=>X [.r [v0], .r [v1], .r [.int v2], .r [.int v3]]) v0 v1 v2 v3:=by kernel_rfl
def slices_IndexFunc_api_Field_a:AFun:={ps:=[(.one (.sl 74)),(.one (.fn 124))],rs:=[lI],res:=[(false,4,none)],body:=(.seq (.region [] [oq 4 (.mov (.c lI [.int 0]))] false 0)
 (.seq (.seq (.region [] [oq 6 (.mov (.t 0)),
 oq 7 (.lenL (.t 6)),
 oq 8 (.mov (.c lI [.int 0]))] false 0)
 (.block 0 (.loop slices_IndexFunc_api_Field_h0 slices_IndexFunc_api_Field_o0 slices_IndexFunc_api_Field_c0)))
 (.seq (.region [] [oq 4 (.mov (.c lI [.int (-1)]))] false 0)
 .ret)))}
noncomputable def slices_IndexFunc_api_Field (E:Env) (p0:C) (p1:C):Option (List Row):=
 (slices_IndexFunc_api_Field_l0 E p0 p1 (p0.rows.length:Int) 0).bind fun x2=>
 match x2.1 with
 |0=>
 some [[.int (-1)]]
 |i3+1=>
 some [[.int (gI 0 x2.2)]]
theorem slices_IndexFunc_api_Field_eq (E:Env) (p0:C) (p1:C):runP E slices_IndexFunc_api_Field_a [[p0],[p1]]=slices_IndexFunc_api_Field E p0 p1:=by kernel_rfl
def slices_ContainsFunc_api_Field_a:AFun:={ps:=[(.one (.sl 74)),(.one (.fn 124))],rs:=[lB],res:=[(false,4,none)],body:=(.seq (.region [] [oq 4 (.mov (.c lB [.bool false]))] false 0)
 (.seq (.region [] [oq 5 (.mov (.t 0)),
 oq 6 (.mov (.t 1)),
 oq 7 (.call 101 [(.one (.sl 74)),(.one (.fn 124))] [lI] [(.t 5),(.t 6)]),
 oq 8 (.icmp .geq (.t 7) (.c lI [.int 0])),
 oq 4 (.mov (.t 8))] false 0)
 .ret))}
noncomputable def slices_ContainsFunc_api_Field (E:Env) (p0:C) (p1:C):Option (List Row):=
 (E.pc n_slices_IndexFunc_api_Field [[p0],[p1]]).bind fun y1=>
 some [[.bool (decide (((at_ (rowsAt y1 0) 0).toI)≥0))]]
theorem slices_ContainsFunc_api_Field_eq (E:Env) (p0:C) (p1:C):runP E slices_ContainsFunc_api_Field_a [[p0],[p1]]=slices_ContainsFunc_api_Field E p0 p1:=by kernel_rfl
def value_names_1_a:AFun:={ps:=[lA1,(.one (.ref 74))],rs:=[lB],res:=[(false,3,none)],body:=(.seq (.region [] [oq 2 (.boxP lA1 74 (.t 0)),
 oq 3 (.mov (.c lB [.bool false]))] false 0)
 (.seq (.region [] [oq 4 (.fad 0 1 74 9 (.t 2)),
 oq 5 (.ld lS 9 (.t 4)),
 oq 6 (.fad 0 1 74 9 (.t 1)),
 oq 7 (.ld lS 9 (.t 6)),
 oq 8 (.scmp .eql (.t 5) (.t 7)),
 oq 3 (.mov (.t 8))] false 0)
 .ret))}
noncomputable def value_names_1 (E:Env) (p0:Row) (p1:C):Option (List Row):=
 if p1.isDp=true then
 some [[.bool (((at_ p0 0).toS)==((at_ p1.dpRow 0).toS))]]
 else none
theorem value_names_1_eq (E:Env) (p0:Row) (p1:C):runP E value_names_1_a [p0,[p1]]=value_names_1 E p0 p1:=by kernel_rfl
def value_names_h0:Shape:={slots:=[(0, .d (.one (.sl 74))),(5, .d (.one (.sl 74))),(6, .d lI),(7, .d lI)],objs:=[]}
def value_names_o0:List (Exit'×Shape):=[(.exit 0,{slots:=[],objs:=[]}),(.ret,{slots:=[(2, .d lI)],objs:=[]})]
def value_names_c0:ACode:=(.seq (.region [] [oq 8 (.icmp .lss (.t 7) (.t 6))] false 0)
 (.seq (.cond (.t 8) .skip
 (.exit 0))
 (.seq (.block 1 (.seq (.region [] [oq 9 (.mov (.t 7)),
 oq 10 (.iad 74 lA1 (.t 5) (.t 7)),
 oq 11 (.ld lA1 74 (.t 10)),
 oq 4 (.allocO 0 lA1 [.str [], .int 0, .int 0, .str [], .nils]),
 oq 3 (.mov (.t 9)),
 ⟨none, .st lA1 (.t 4) (.t 11),none,[]⟩] false 1)
 (.seq (.seq (.region [] [oq 12 (.fad 0 1 74 9 (.t 4)),
 oq 13 (.ld lS 9 (.t 12)),
 oq 14 (.call 74 [lS] [lB] [(.t 13)]),
 oq 15 (.not (.t 14))] false 0)
 (.cond (.t 15) (.seq (.region [] [oq 2 (.mov (.c lI [.int 15]))] false 0)
 .ret)
 .skip))
 (.seq (.region [(4,74,some lA1)] [oq 16 (.mov (.t 0)),
 oq 17 (.mov (.t 3)),
 oq 18 (.slc 74 lA1 (.t 16) none (some (.t 17))),
 oq 19 (.mkf 94 124 [.ref 74] [(.t 4)]),
 oq 20 (.call 93 [(.one (.sl 74)),(.one (.fn 124))] [lB] [(.t 18),(.t 19)])] false 0)
 (.cond (.t 20) (.seq (.region [] [oq 2 (.mov (.c lI [.int 5]))] false 0)
 .ret)
 .skip)))))
 (.region [] [oq 21 (.ibin .add (.t 7) (.c lI [.int 1])),
 oq 7 (.mov (.t 21))] false 0))))
noncomputable def value_names_l0 (E:Env) (v0:C) (v1:C) (v2:Int) (v3:Int):Option (Nat×List PV):=E.fix (stepOf E value_names_c0 value_names_h0 value_names_o0) [.r [v0], .r [v1], .r [.int v2], .r [.int v3]]
noncomputable def value_names_b0 (E:Env) (X:C→C→Int→Int→Option (Nat×List PV)) (v0:C) (v1:C) (v2:Int) (v3:Int):Option (Nat×List PV):=
 if (decide (v3<v2))=true then
 if (0:Int)≤v3∧v3<(v1.rows.length:Int)then
 (E.pc n_value_Name [[.str ((at_ (rowsAt v1.rows v3.toNat) 0).toS)]]).bind fun y1=>
 if (!((at_ (rowsAt y1 0) 0).toB))=true then
 some (1,[.r [.int 15]])
 else
 if (0:Int)≤0∧0≤v3∧v3≤(v0.rows.length:Int)then
 (E.pc n_slices_ContainsFunc_api_Field [[slcC v0 0 v3],[.fn n_value_names_1 [.dp (rowsAt v1.rows v3.toNat)]]]).bind fun y2=>
 if ((at_ (rowsAt y2 0) 0).toB)=true then
 some (1,[.r [.int 5]])
 else
 X v0 v1 v2 (Go.IntKind.i64.wrap (v3+1))
 else none
 else none
 else
 some (0,[])
theorem value_names_s0 (E:Env) (X:List PV→Option (Nat×List PV)) (v0:C) (v1:C) (v2:Int) (v3:Int):stepOf E value_names_c0 value_names_h0 value_names_o0 X [.r [v0], .r [v1], .r [.int v2], .r [.int v3]]=value_names_b0 E (fun (v0:C) (v1:C) (v2:Int) (v3:Int)=>X [.r [v0], .r [v1], .r [.int v2], .r [.int v3]]) v0 v1 v2 v3:=by kernel_rfl
def value_names_a:AFun:={ps:=[(.one (.sl 74))],rs:=[lI],res:=[(false,2,none)],body:=(.seq (.region [] [oq 2 (.mov (.c lI [.int 0]))] false 0)
 (.seq (.seq (.region [] [oq 5 (.mov (.t 0)),
 oq 6 (.lenL (.t 5)),
 oq 7 (.mov (.c lI [.int 0]))] false 0)
 (.block 0 (.loop value_names_h0 value_names_o0 value_names_c0)))
 (.seq (.region [] [oq 2 (.mov (.c lI [.int 0]))] false 0)
 .ret)))}
noncomputable def value_names (E:Env) (p0:C):Option (List Row):=
 (value_names_l0 E p0 p0 (p0.rows.length:Int) 0).bind fun x3=>
 match x3.1 with
 |0=>
 some [[.int 0]]
 |i4+1=>
 some [[.int (gI 0 x3.2)]]
theorem value_names_eq (E:Env) (p0:C):runP E value_names_a [[p0]]=value_names E p0:=by kernel_rfl
def value_keys_h0:Shape:={slots:=[(1, .d (.one (.ref 33))),(6, .d (.one (.sl 74))),(7, .d lI),(8, .d lI)],objs:=[]}
def value_keys_o0:List (Exit'×Shape):=[(.exit 0,{slots:=[],objs:=[]}),(.ret,{slots:=[(2, .d lI)],objs:=[]})]
def value_keys_c0:ACode:=(.seq (.region [] [oq 9 (.icmp .lss (.t 8) (.t 7))] false 0)
 (.seq (.cond (.t 9) .skip
 (.exit 0))
 (.seq (.join [(.normal,{slots:=[(1, .d (.one (.ref 33))),(6, .d (.one (.sl 74))),(7, .d lI),(8, .d lI)],objs:=[]}),(.ret,{slots:=[(2, .d lI)],objs:=[]})] (.block 1 (.seq (.region [] [oq 10 (.mov (.t 8)),
 oq 11 (.iad 74 lA1 (.t 6) (.t 8)),
 oq 12 (.ld lA1 74 (.t 11)),
 oq 4 (.allocO 0 lA1 [.str [], .int 0, .int 0, .str [], .nils]),
 oq 3 (.mov (.t 10)),
 ⟨none, .st lA1 (.t 4) (.t 12),none,[]⟩] false 1)
 (.block 2 (.seq (.join [(.normal,{slots:=[(1, .d (.one (.ref 33))),(3, .d lI),(4, .ptr 0 0),(6, .d (.one (.sl 74))),(7, .d lI),(8, .d lI),(13, .d lB)],objs:=[.var lA1]})] (.region [] [oq 14 (.fad 0 1 33 3 (.t 1)),
 oq 15 (.ld lI 3 (.t 14)),
 oq 16 (.icmp .eql (.t 15) (.c lI [.int 8])),
 oq 17 (.mov (.t 16)),
 ⟨some 18, .fad 0 1 74 9 (.t 4),some (17,true),[]⟩,
 ⟨some 19, .ld lS 9 (.t 18),some (17,true),[]⟩,
 ⟨some 20, .scmp .neq (.t 19) (.c lS [.str ([]:List UInt8)]),some (17,true),[]⟩,
 oq 21 (.pick (.t 17) (.t 20) (.c lB [.bool false])),
 oq 13 (.mov (.t 21))] false 0))
 (.cond (.t 13) (.seq (.region [] [oq 2 (.mov (.c lI [.int 3]))] false 0)
 .ret)
 (.seq (.region [] [oq 23 (.fad 0 1 33 3 (.t 1)),
 oq 24 (.ld lI 3 (.t 23)),
 oq 25 (.icmp .eql (.t 24) (.c lI [.int 8])),
 oq 22 (.mov (.t 25))] false 0)
 (.cond (.t 22) .skip
 (.seq (.region [] [oq 27 (.fad 0 1 74 9 (.t 4)),
 oq 28 (.ld lS 9 (.t 27)),
 oq 29 (.lenS (.t 28)),
 oq 30 (.icmp .gtr (.t 29) (.c lI [.int 4000])),
 oq 26 (.mov (.t 30))] false 0)
 (.cond (.t 26) (.seq (.region [] [oq 2 (.mov (.c lI [.int 2]))] false 0)
 .ret)
 (.seq (.region [] [oq 32 (.mov (.t 3)),
 ⟨some 33, .icmp .gtr (.t 32) (.c lI [.int 0]),none,[0]⟩,
 ⟨some 34, .mov (.t 33),none,[0,1]⟩,
 ⟨some 35, .fad 0 1 74 9 (.t 4),some (34,true),[0,1,2]⟩,
 ⟨some 36, .ld lS 9 (.t 35),some (34,true),[0,1,2,3]⟩,
 ⟨some 37, .fad 3 1 33 31 (.t 1),some (34,true),[0,1,2]⟩,
 ⟨some 38, .ld (.one (.sl 74)) 31 (.t 37),some (34,true),[0,1,2,5]⟩,
 ⟨some 39, .mov (.t 3),some (34,true),[0,1,2]⟩,
 ⟨some 40, .ibin .sub (.t 39) (.c lI [.int 1]),some (34,true),[0,1,2,7]⟩,
 ⟨some 41, .iad 74 lA1 (.t 38) (.t 40),some (34,true),[0,1,2,5,6,7,8]⟩,
 ⟨some 42, .fad 0 1 74 9 (.t 41),some (34,true),[0,1,2,5,6,7,8,9]⟩,
 ⟨some 43, .ld lS 9 (.t 42),some (34,true),[0,1,2,5,6,7,8,9,10]⟩,
 ⟨some 44, .scmp .leq (.t 36) (.t 43),some (34,true),[0,1,2,3,4,5,6,7,8,9,10,11]⟩,
 ⟨some 45, .pick (.t 34) (.t 44) (.c lB [.bool false]),none,[0,1,2,3,4,5,6,7,8,9,10,11,12]⟩,
 ⟨some 31, .mov (.t 45),none,[0,1,2,3,4,5,6,7,8,9,10,11,12,13]⟩] true 0)
 (.cond (.t 31) (.seq (.region [] [oq 2 (.mov (.c lI [.int 9]))] false 0)
 .ret)
 .skip))))))))))))
 (.region [] [oq 46 (.ibin .add (.t 8) (.c lI [.int 1])),
 oq 8 (.mov (.t 46))] false 0))))
noncomputable def value_keys_l0 (E:Env) (v0:C) (v1:C) (v2:Int) (v3:Int):Option (Nat×List PV):=E.fix (stepOf E value_keys_c0 value_keys_h0 value_keys_o0) [.r [v0], .r [v1], .r [.int v2], .r [.int v3]]
noncomputable def value_keys_b0 (E:Env) (X:C→C→Int→Int→Option (Nat×List PV)) (v0:C) (v1:C) (v2:Int) (v3:Int):Option (Nat×List PV):=
 if (decide (v3<v2))=true then
 (if (0:Int)≤v3∧v3<(v1.rows.length:Int)then
 (if v0.isDp=true then
 let K1:Bool→Option (Nat×List PV):=fun q2=>
 some (0,[.r [v0], .r [.int v3], .r [v1], .r [.int v2], .r [.int v3], .r [.bool q2], .r (rowsAt v1.rows v3.toNat)])
 if (((at_ v0.dpRow 0).toI)==8)=true then
 K1 (!(((at_ (rowsAt v1.rows v3.toNat) 0).toS)==([]:List UInt8)))
 else
 K1 false
 else none).bind fun x3=>
 if (gB 5 x3.2)=true then
 some (1,[.r [.int 3]])
 else
 if (gC 0 x3.2).isDp=true then
 if (((at_ ((gC 0 x3.2).dpRow) 0).toI)==8)=true then
 some (0,[.r [gC 0 x3.2], .r [gC 2 x3.2], .r [.int (gI 3 x3.2)], .r [.int (gI 4 x3.2)]])
 else
 if (decide (((gS 6 x3.2).length:Int)>4000))=true then
 some (1,[.r [.int 2]])
 else
 let K4:Bool→Option (Nat×List PV):=fun q5=>
 if q5=true then
 some (1,[.r [.int 9]])
 else
 some (0,[.r [gC 0 x3.2], .r [gC 2 x3.2], .r [.int (gI 3 x3.2)], .r [.int (gI 4 x3.2)]])
 if (decide ((gI 1 x3.2)>0))=true then
 if (gC 0 x3.2).isDp=true then
 if (0:Int)≤(Go.IntKind.i64.wrap ((gI 1 x3.2) - 1))∧(Go.IntKind.i64.wrap ((gI 1 x3.2) - 1))<(((at_ ((gC 0 x3.2).dpRow) 3).rows).length:Int)then
 K4 (Go.Op.bytesLess (gS 6 x3.2) ((at_ (rowsAt ((at_ ((gC 0 x3.2).dpRow) 3).rows) ((Go.IntKind.i64.wrap ((gI 1 x3.2) - 1)).toNat)) 0).toS)||(gS 6 x3.2)==((at_ (rowsAt ((at_ ((gC 0 x3.2).dpRow) 3).rows) ((Go.IntKind.i64.wrap ((gI 1 x3.2) - 1)).toNat)) 0).toS))
 else none
 else none
 else
 K4 false
 else none
 else none).bind fun x6=>
 match x6.1 with
 |0=>
 X (gC 0 x6.2) (gC 1 x6.2) (gI 2 x6.2) (Go.IntKind.i64.wrap ((gI 3 x6.2)+1))
 |i7+1=>
 some (1,[.r [.int (gI 0 x6.2)]])
 else
 some (0,[])
theorem value_keys_s0 (E:Env) (X:List PV→Option (Nat×List PV)) (v0:C) (v1:C) (v2:Int) (v3:Int):stepOf E value_keys_c0 value_keys_h0 value_keys_o0 X [.r [v0], .r [v1], .r [.int v2], .r [.int v3]]=value_keys_b0 E (fun (v0:C) (v1:C) (v2:Int) (v3:Int)=>X [.r [v0], .r [v1], .r [.int v2], .r [.int v3]]) v0 v1 v2 v3:=by kernel_rfl
def value_keys_a:AFun:={ps:=[lA2],rs:=[lI],res:=[(false,2,none)],body:=(.seq (.region [] [oq 1 (.boxP lA2 33 (.t 0)),
 oq 2 (.mov (.c lI [.int 0]))] false 0)
 (.seq (.seq (.region [] [oq 5 (.fad 3 1 33 31 (.t 1)),
 oq 6 (.ld (.one (.sl 74)) 31 (.t 5)),
 oq 7 (.lenL (.t 6)),
 oq 8 (.mov (.c lI [.int 0]))] false 0)
 (.block 0 (.loop value_keys_h0 value_keys_o0 value_keys_c0)))
 (.seq (.region [] [oq 2 (.mov (.c lI [.int 0]))] false 0)
 .ret)))}
noncomputable def value_keys (E:Env) (p0:Row):Option (List Row):=
 (value_keys_l0 E (.dp p0) (at_ p0 3) (((at_ p0 3).rows).length:Int) 0).bind fun x8=>
 match x8.1 with
 |0=>
 some [[.int 0]]
 |i9+1=>
 some [[.int (gI 0 x8.2)]]
theorem value_keys_eq (E:Env) (p0:Row):runP E value_keys_a [p0]=value_keys E p0:=by kernel_rfl
def value_fields_a:AFun:={ps:=[lA2],rs:=[lI],res:=[(false,2,none)],body:=(.seq (.region [] [oq 1 (.boxP lA2 33 (.t 0)),
 oq 2 (.mov (.c lI [.int 0]))] false 0)
 (.seq (.seq (.region [] [oq 3 (.fad 0 1 33 3 (.t 1)),
 oq 4 (.ld lI 3 (.t 3))] false 0)
 (.block 0 (.seq (.region [] [oq 6 (.icmp .eql (.t 4) (.c lI [.int 5])),
 oq 5 (.mov (.t 6))] false 0)
 (.cond (.t 5) (.seq (.region [] [oq 7 (.fad 2 1 33 9 (.t 1)),
 oq 8 (.ld lS 9 (.t 7)),
 oq 9 (.lenS (.t 8)),
 oq 10 (.icmp .gtr (.t 9) (.c lI [.int 4000]))] false 0)
 (.cond (.t 10) (.seq (.region [] [oq 2 (.mov (.c lI [.int 2]))] false 0)
 .ret)
 .skip))
 (.seq (.region [] [oq 12 (.icmp .eql (.t 4) (.c lI [.int 6])),
 oq 11 (.mov (.t 12))] false 0)
 (.cond (.t 11) (.seq (.seq (.region [] [oq 13 (.fad 3 1 33 31 (.t 1)),
 oq 14 (.ld (.one (.sl 74)) 31 (.t 13)),
 oq 15 (.lenL (.t 14)),
 oq 16 (.icmp .gtr (.t 15) (.c lI [.int 24]))] false 0)
 (.cond (.t 16) (.seq (.region [] [oq 2 (.mov (.c lI [.int 2]))] false 0)
 .ret)
 .skip))
 (.seq (.region [] [oq 17 (.fad 3 1 33 31 (.t 1)),
 oq 18 (.ld (.one (.sl 74)) 31 (.t 17)),
 oq 19 (.call 82 [(.one (.sl 74))] [lI] [(.t 18)]),
 oq 2 (.mov (.t 19))] false 0)
 .ret))
 (.seq (.region [] [oq 21 (.icmp .eql (.t 4) (.c lI [.int 7])),
 oq 20 (.mov (.t 21))] false 0)
 (.cond (.t 20) (.seq (.seq (.region [] [oq 22 (.fad 3 1 33 31 (.t 1)),
 oq 23 (.ld (.one (.sl 74)) 31 (.t 22)),
 oq 24 (.lenL (.t 23)),
 oq 25 (.icmp .neq (.t 24) (.c lI [.int 1]))] false 0)
 (.cond (.t 25) (.seq (.region [] [oq 2 (.mov (.c lI [.int 3]))] false 0)
 .ret)
 .skip))
 (.seq (.region [] [oq 26 (.fad 3 1 33 31 (.t 1)),
 oq 27 (.ld (.one (.sl 74)) 31 (.t 26)),
 oq 28 (.call 82 [(.one (.sl 74))] [lI] [(.t 27)]),
 oq 2 (.mov (.t 28))] false 0)
 .ret))
 (.seq (.seq (.region [] [oq 30 (.icmp .eql (.t 4) (.c lI [.int 8])),
 oq 29 (.mov (.t 30))] false 0)
 (.cond (.t 29) .skip
 (.region [] [oq 31 (.icmp .eql (.t 4) (.c lI [.int 9])),
 oq 29 (.mov (.t 31))] false 0)))
 (.cond (.t 29) (.seq (.seq (.region [] [oq 32 (.fad 3 1 33 31 (.t 1)),
 oq 33 (.ld (.one (.sl 74)) 31 (.t 32)),
 oq 34 (.lenL (.t 33)),
 oq 35 (.icmp .gtr (.t 34) (.c lI [.int 200]))] false 0)
 (.cond (.t 35) (.seq (.region [] [oq 2 (.mov (.c lI [.int 2]))] false 0)
 .ret)
 .skip))
 (.seq (.region [] [oq 36 (.ld lA2 33 (.t 1)),
 oq 37 (.call 83 [lA2] [lI] [(.t 36)]),
 oq 2 (.mov (.t 37))] false 0)
 .ret))
 .skip))))))))))
 (.seq (.region [] [oq 2 (.mov (.c lI [.int 0]))] false 0)
 .ret)))}
noncomputable def value_fields (E:Env) (p0:Row):Option (List Row):=
 if (((at_ p0 0).toI)==5)=true then
 if (decide ((((at_ p0 2).toS).length:Int)>4000))=true then
 some [[.int 2]]
 else
 some [[.int 0]]
 else
 if (((at_ p0 0).toI)==6)=true then
 if (decide ((((at_ p0 3).rows).length:Int)>24))=true then
 some [[.int 2]]
 else
 (E.pc n_value_names [[at_ p0 3]]).bind fun y1=>
 some [[.int ((at_ (rowsAt y1 0) 0).toI)]]
 else
 if (((at_ p0 0).toI)==7)=true then
 if ((((at_ p0 3).rows).length:Int) !=1)=true then
 some [[.int 3]]
 else
 (E.pc n_value_names [[at_ p0 3]]).bind fun y2=>
 some [[.int ((at_ (rowsAt y2 0) 0).toI)]]
 else
 if (((at_ p0 0).toI)==8)=true then
 if (((at_ p0 0).toI)==8)=true then
 if (decide ((((at_ p0 3).rows).length:Int)>200))=true then
 some [[.int 2]]
 else
 (E.pc n_value_keys [p0]).bind fun y3=>
 some [[.int ((at_ (rowsAt y3 0) 0).toI)]]
 else
 some [[.int 0]]
 else
 if (((at_ p0 0).toI)==9)=true then
 if (decide ((((at_ p0 3).rows).length:Int)>200))=true then
 some [[.int 2]]
 else
 (E.pc n_value_keys [p0]).bind fun y4=>
 some [[.int ((at_ (rowsAt y4 0) 0).toI)]]
 else
 some [[.int 0]]
theorem value_fields_eq (E:Env) (p0:Row):runP E value_fields_a [p0]=value_fields E p0:=by kernel_rfl
def value_node_h0:Shape:={slots:=[(46, .d (.one (.sl 74))),(47, .d lI),(48, .d lI)],objs:=[]}
def value_node_o0:List (Exit'×Shape):=[(.exit 1,{slots:=[],objs:=[]}),(.ret,{slots:=[(4, .d lI)],objs:=[]})]
def value_node_c0:ACode:=(.seq (.region [] [oq 49 (.icmp .lss (.t 48) (.t 47))] false 0)
 (.seq (.cond (.t 49) .skip
 (.exit 1))
 (.seq (.block 2 (.seq (.region [] [oq 50 (.iad 74 lA1 (.t 46) (.t 48)),
 oq 51 (.ld lA1 74 (.t 50)),
 oq 7 (.allocO 0 lA1 [.str [], .int 0, .int 0, .str [], .nils]),
 ⟨none, .st lA1 (.t 7) (.t 51),none,[]⟩] false 1)
 (.seq (.region [] [oq 52 (.fad 1 4 74 33 (.t 7)),
 oq 53 (.ld lA2 33 (.t 52)),
 oq 54 (.call 53 [lA2,lB] [lI] [(.t 53),(.c lB [.bool false])]),
 oq 8 (.mov (.t 54))] false 0)
 (.seq (.region [] [oq 55 (.mov (.t 8)),
 oq 56 (.icmp .neq (.t 55) (.c lI [.int 0]))] false 0)
 (.cond (.t 56) (.seq (.region [] [oq 57 (.mov (.t 8)),
 oq 4 (.mov (.t 57))] false 0)
 .ret)
 .skip)))))
 (.region [] [oq 58 (.ibin .add (.t 48) (.c lI [.int 1])),
 oq 48 (.mov (.t 58))] false 0))))
noncomputable def value_node_l0 (E:Env) (v0:C) (v1:Int) (v2:Int):Option (Nat×List PV):=E.fix (stepOf E value_node_c0 value_node_h0 value_node_o0) [.r [v0], .r [.int v1], .r [.int v2]]
noncomputable def value_node_b0 (E:Env) (X:C→Int→Int→Option (Nat×List PV)) (v0:C) (v1:Int) (v2:Int):Option (Nat×List PV):=
 if (decide (v2<v1))=true then
 if (0:Int)≤v2∧v2<(v0.rows.length:Int)then
 (E.pc n_value_node [[at_ (rowsAt v0.rows v2.toNat) 1,at_ (rowsAt v0.rows v2.toNat) 2,at_ (rowsAt v0.rows v2.toNat) 3,at_ (rowsAt v0.rows v2.toNat) 4],[.bool false]]).bind fun y17=>
 if (((at_ (rowsAt y17 0) 0).toI) !=0)=true then
 some (1,[.r [.int ((at_ (rowsAt y17 0) 0).toI)]])
 else
 X v0 v1 (Go.IntKind.i64.wrap (v2+1))
 else none
 else
 some (0,[])
theorem value_node_s0 (E:Env) (X:List PV→Option (Nat×List PV)) (v0:C) (v1:Int) (v2:Int):stepOf E value_node_c0 value_node_h0 value_node_o0 X [.r [v0], .r [.int v1], .r [.int v2]]=value_node_b0 E (fun (v0:C) (v1:Int) (v2:Int)=>X [.r [v0], .r [.int v1], .r [.int v2]]) v0 v1 v2:=by kernel_rfl
def value_node_a:AFun:={ps:=[lA2,lB],rs:=[lI],res:=[(false,4,none)],body:=(.seq (.region [] [oq 2 (.boxP lA2 33 (.t 0)),
 oq 4 (.mov (.c lI [.int 0]))] false 0)
 (.seq (.join [(.normal,{slots:=[(2, .d (.one (.ref 33)))],objs:=[]}),(.ret,{slots:=[(4, .d lI)],objs:=[]})] (.block 0 (.seq (.join [(.normal,{slots:=[(2, .d (.one (.ref 33))),(9, .d lB)],objs:=[]})] (.region [] [oq 10 (.fad 0 1 33 3 (.t 2)),
 oq 11 (.ld lI 3 (.t 10)),
 oq 12 (.icmp .lss (.t 11) (.c lI [.int 0])),
 oq 13 (.mov (.t 12)),
 ⟨some 14, .fad 0 1 33 3 (.t 2),some (13,false),[]⟩,
 ⟨some 15, .ld lI 3 (.t 14),some (13,false),[]⟩,
 ⟨some 16, .icmp .geq (.t 15) (.c lI [.int 12]),some (13,false),[]⟩,
 oq 17 (.pick (.t 13) (.c lB [.bool true]) (.t 16)),
 oq 18 (.mov (.t 17)),
 ⟨some 19, .fad 0 1 33 3 (.t 2),some (18,false),[]⟩,
 ⟨some 20, .ld lI 3 (.t 19),some (18,false),[]⟩,
 ⟨some 21, .icmp .eql (.t 20) (.c lI [.int 10]),some (18,false),[]⟩,
 oq 22 (.pick (.t 18) (.c lB [.bool true]) (.t 21)),
 oq 23 (.mov (.t 22)),
 ⟨some 24, .fad 0 1 33 3 (.t 2),some (23,false),[]⟩,
 ⟨some 25, .ld lI 3 (.t 24),some (23,false),[]⟩,
 ⟨some 26, .icmp .eql (.t 25) (.c lI [.int 11]),some (23,false),[]⟩,
 ⟨some 27, .mov (.t 26),some (23,false),[]⟩,
 ⟨some 28, .mov (.t 1),some (27,true),[]⟩,
 ⟨some 29, .not (.t 28),some (27,true),[]⟩,
 ⟨some 30, .pick (.t 27) (.t 29) (.c lB [.bool false]),some (23,false),[]⟩,
 oq 31 (.pick (.t 23) (.c lB [.bool true]) (.t 30)),
 oq 32 (.mov (.t 31)),
 ⟨some 33, .ld lA2 33 (.t 2),some (32,false),[]⟩,
 ⟨some 34, .call 68 [lA2] [lB] [(.t 33)],some (32,false),[]⟩,
 oq 35 (.pick (.t 32) (.c lB [.bool true]) (.t 34)),
 oq 9 (.mov (.t 35))] false 0))
 (.cond (.t 9) (.seq (.region [] [oq 4 (.mov (.c lI [.int 3]))] false 0)
 .ret)
 (.seq (.region [] [oq 37 (.ld lA2 33 (.t 2)),
 oq 38 (.call 69 [lA2] [lB] [(.t 37)]),
 oq 39 (.not (.t 38)),
 oq 36 (.mov (.t 39))] false 0)
 (.cond (.t 36) (.seq (.region [] [oq 4 (.mov (.c lI [.int 11]))] false 0)
 .ret)
 .skip))))))
 (.seq (.seq (.region [] [oq 40 (.ld lA2 33 (.t 2)),
 oq 41 (.call 70 [lA2] [lI] [(.t 40)]),
 oq 5 (.mov (.t 41))] false 0)
 (.seq (.region [] [oq 42 (.mov (.t 5)),
 oq 43 (.icmp .neq (.t 42) (.c lI [.int 0]))] false 0)
 (.cond (.t 43) (.seq (.region [] [oq 44 (.mov (.t 5)),
 oq 4 (.mov (.t 44))] false 0)
 .ret)
 .skip)))
 (.seq (.seq (.region [] [oq 45 (.fad 3 1 33 31 (.t 2)),
 oq 46 (.ld (.one (.sl 74)) 31 (.t 45)),
 oq 47 (.lenL (.t 46)),
 oq 48 (.mov (.c lI [.int 0]))] false 0)
 (.block 1 (.loop value_node_h0 value_node_o0 value_node_c0)))
 (.seq (.region [] [oq 4 (.mov (.c lI [.int 0]))] false 0)
 .ret)))))}
noncomputable def value_node (E:Env) (p0:Row) (p1:Bool):Option (List Row):=
 ((let K1:Bool→Option (Nat×List PV):=fun q2=>
  let K3:Bool→Option (Nat×List PV):=fun q4=>
   let K5:Bool→Option (Nat×List PV):=fun q6=>
    let K7:Bool→Option (Nat×List PV):=fun q8=>
     some (0,[.r [.dp p0], .r [.bool q8]])
    if q6=true then
     K7 true
    else
     (E.pc n_value_unused [p0]).bind fun y9=>
      K7 ((at_ (rowsAt y9 0) 0).toB)
   if q4=true then
    K5 true
   else
    let K10:Bool→Option (Nat×List PV):=fun q11=>
     K5 q11
    if (((at_ p0 0).toI)==11)=true then
     K10 (!p1)
    else
     K10 false
  if q2=true then
   K3 true
  else
   K3 (((at_ p0 0).toI)==10)
 if (decide (((at_ p0 0).toI)<0))=true then
  K1 true
 else
  K1 (decide (((at_ p0 0).toI)≥12))).bind fun x12=>
  if (gB 1 x12.2)=true then
   some (1,[.r [.int 3]])
  else
   if (gC 0 x12.2).isDp=true then
    (E.pc n_value_number [(gC 0 x12.2).dpRow]).bind fun y13=>
     if (!((at_ (rowsAt y13 0) 0).toB))=true then
      some (1,[.r [.int 11]])
     else
      some (0,[.r [gC 0 x12.2]])
   else none).bind fun x14=>
  match x14.1 with
  |0=>
   if (gC 0 x14.2).isDp=true then
    (E.pc n_value_fields [(gC 0 x14.2).dpRow]).bind fun y16=>
     if (((at_ (rowsAt y16 0) 0).toI) !=0)=true then
      some [[.int ((at_ (rowsAt y16 0) 0).toI)]]
     else
      if (gC 0 x14.2).isDp=true then
       (value_node_l0 E (at_ ((gC 0 x14.2).dpRow) 3) (((at_ ((gC 0 x14.2).dpRow) 3).rows).length:Int) 0).bind fun x18=>
        match x18.1 with
        |0=>
         some [[.int 0]]
        |i19+1=>
         some [[.int (gI 0 x18.2)]]
      else none
   else none
  |i15+1=>
   some [[.int (gI 0 x14.2)]]
theorem value_node_eq (E:Env) (p0:Row) (p1:Bool):runP E value_node_a [p0,[.bool p1]]=value_node E p0 p1:=by kernel_rfl
def value_Check_a:AFun:={ps:=[lA2],rs:=[lI],res:=[(false,2,none)],body:=(.seq (.region [] [oq 1 (.boxP lA2 33 (.t 0)),
 oq 2 (.mov (.c lI [.int 0]))] false 0)
 (.seq (.seq (.region [] [oq 3 (.ld lA2 33 (.t 1)),
 oq 4 (.call 51 [lA2] [lI] [(.t 3)]),
 oq 5 (.icmp .gtr (.t 4) (.c lI [.int 2000])),
 oq 6 (.mov (.t 5)),
 ⟨some 7, .ld lA2 33 (.t 1),some (6,false),[]⟩,
 ⟨some 8, .call 52 [lA2] [lI] [(.t 7)],some (6,false),[]⟩,
 ⟨some 9, .icmp .gtr (.t 8) (.c lI [.int 40]),some (6,false),[]⟩,
 oq 10 (.pick (.t 6) (.c lB [.bool true]) (.t 9))] false 0)
 (.cond (.t 10) (.seq (.region [] [oq 2 (.mov (.c lI [.int 2]))] false 0)
 .ret)
 .skip))
 (.seq (.region [] [oq 11 (.ld lA2 33 (.t 1)),
 oq 12 (.call 53 [lA2,lB] [lI] [(.t 11),(.c lB [.bool true])]),
 oq 2 (.mov (.t 12))] false 0)
 .ret)))}
noncomputable def value_Check (E:Env) (p0:Row):Option (List Row):=
 (E.pc n_value_Size [p0]).bind fun y1=>
 let K2:Bool→Option (List Row):=fun q3=>
 if q3=true then
 some [[.int 2]]
 else
 (E.pc n_value_node [p0,[.bool true]]).bind fun y4=>
 some [[.int ((at_ (rowsAt y4 0) 0).toI)]]
 if (decide (((at_ (rowsAt y1 0) 0).toI)>2000))=true then
 K2 true
 else
 (E.pc n_value_Deep [p0]).bind fun y5=>
 K2 (decide (((at_ (rowsAt y5 0) 0).toI)>40))
theorem value_Check_eq (E:Env) (p0:Row):runP E value_Check_a [p0]=value_Check E p0:=by kernel_rfl
def lens_table_a:AFun:={ps:=[lI],rs:=[lA4],res:=[(true,2,none)],body:=(.seq (.region [] [oq 2 (.allocO 0 lA4 [.bool false, .bool false, .bool false, .bool false, .bool false, .bool false, .bool false, .bool false, .int 0])] false 1)
 (.seq (.seq (.region [] [oq 3 (.mov (.t 0))] false 0)
 (.join [(.normal,{slots:=[(2, .ptr 0 0)],objs:=[.var lA4]}),(.ret,{slots:=[(2, .ptr 0 0)],objs:=[.var lA4]})] (.block 0 (.seq (.region [] [oq 5 (.icmp .eql (.t 3) (.c lI [.int 1])),
 oq 4 (.mov (.t 5))] false 0)
 (.cond (.t 4) (.seq (.region [] [oq 6 (.bld lA4 [.bool false, .bool false, .bool false, .bool false, .bool false, .bool false, .bool false, .bool false, .int 0] [(8,1,(.c lI [.int (-1)]))]),
 ⟨none, .st lA4 (.t 2) (.t 6),none,[]⟩] false 0)
 .ret)
 (.seq (.region [] [oq 8 (.icmp .eql (.t 3) (.c lI [.int 2])),
 oq 7 (.mov (.t 8))] false 0)
 (.cond (.t 7) (.seq (.region [] [oq 9 (.bld lA4 [.bool false, .bool false, .bool false, .bool false, .bool false, .bool false, .bool false, .bool false, .int 0] [(0,1,(.c lB [.bool true])),(8,1,(.c lI [.int 1]))]),
 ⟨none, .st lA4 (.t 2) (.t 9),none,[]⟩] false 0)
 .ret)
 (.seq (.region [] [oq 11 (.icmp .eql (.t 3) (.c lI [.int 3])),
 oq 10 (.mov (.t 11))] false 0)
 (.cond (.t 10) (.seq (.region [] [oq 12 (.bld lA4 [.bool false, .bool false, .bool false, .bool false, .bool false, .bool false, .bool false, .bool false, .int 0] [(0,1,(.c lB [.bool true])),(1,1,(.c lB [.bool true]))]),
 ⟨none, .st lA4 (.t 2) (.t 12),none,[]⟩] false 0)
 .ret)
 (.seq (.seq (.region [] [oq 14 (.icmp .eql (.t 3) (.c lI [.int 4])),
 oq 13 (.mov (.t 14))] false 0)
 (.join [(.normal,{slots:=[(2, .ptr 0 0),(3, .d lI),(13, .d lB)],objs:=[.var lA4]})] (.cond (.t 13) .skip
 (.seq (.region [] [oq 15 (.icmp .eql (.t 3) (.c lI [.int 5])),
 oq 13 (.mov (.t 15))] false 0)
 (.cond (.t 13) .skip
 (.region [] [oq 16 (.icmp .eql (.t 3) (.c lI [.int 15])),
 oq 13 (.mov (.t 16))] false 0))))))
 (.cond (.t 13) (.seq (.region [] [oq 17 (.bld lA4 [.bool false, .bool false, .bool false, .bool false, .bool false, .bool false, .bool false, .bool false, .int 0] [(0,1,(.c lB [.bool true])),(6,1,(.c lB [.bool true]))]),
 ⟨none, .st lA4 (.t 2) (.t 17),none,[]⟩] false 0)
 .ret)
 (.seq (.region [] [oq 19 (.icmp .eql (.t 3) (.c lI [.int 6])),
 oq 18 (.mov (.t 19))] false 0)
 (.cond (.t 18) (.seq (.region [] [oq 20 (.bld lA4 [.bool false, .bool false, .bool false, .bool false, .bool false, .bool false, .bool false, .bool false, .int 0] [(2,1,(.c lB [.bool true])),(1,1,(.c lB [.bool true]))]),
 ⟨none, .st lA4 (.t 2) (.t 20),none,[]⟩] false 0)
 .ret)
 (.seq (.seq (.region [] [oq 22 (.icmp .eql (.t 3) (.c lI [.int 7])),
 oq 21 (.mov (.t 22))] false 0)
 (.join [(.normal,{slots:=[(2, .ptr 0 0),(3, .d lI),(21, .d lB)],objs:=[.var lA4]})] (.cond (.t 21) .skip
 (.seq (.region [] [oq 23 (.icmp .eql (.t 3) (.c lI [.int 16])),
 oq 21 (.mov (.t 23))] false 0)
 (.cond (.t 21) .skip
 (.region [] [oq 24 (.icmp .eql (.t 3) (.c lI [.int 17])),
 oq 21 (.mov (.t 24))] false 0))))))
 (.cond (.t 21) (.seq (.region [] [oq 25 (.bld lA4 [.bool false, .bool false, .bool false, .bool false, .bool false, .bool false, .bool false, .bool false, .int 0] [(0,1,(.c lB [.bool true]))]),
 ⟨none, .st lA4 (.t 2) (.t 25),none,[]⟩] false 0)
 .ret)
 (.seq (.region [] [oq 27 (.icmp .eql (.t 3) (.c lI [.int 8])),
 oq 26 (.mov (.t 27))] false 0)
 (.cond (.t 26) (.seq (.region [] [oq 28 (.bld lA4 [.bool false, .bool false, .bool false, .bool false, .bool false, .bool false, .bool false, .bool false, .int 0] [(0,1,(.c lB [.bool true])),(3,1,(.c lB [.bool true]))]),
 ⟨none, .st lA4 (.t 2) (.t 28),none,[]⟩] false 0)
 .ret)
 (.seq (.region [] [oq 30 (.icmp .eql (.t 3) (.c lI [.int 9])),
 oq 29 (.mov (.t 30))] false 0)
 (.cond (.t 29) (.seq (.region [] [oq 31 (.bld lA4 [.bool false, .bool false, .bool false, .bool false, .bool false, .bool false, .bool false, .bool false, .int 0] [(0,1,(.c lB [.bool true])),(1,1,(.c lB [.bool true])),(2,1,(.c lB [.bool true])),(5,1,(.c lB [.bool true]))]),
 ⟨none, .st lA4 (.t 2) (.t 31),none,[]⟩] false 0)
 .ret)
 (.seq (.region [] [oq 33 (.icmp .eql (.t 3) (.c lI [.int 10])),
 oq 32 (.mov (.t 33))] false 0)
 (.cond (.t 32) (.seq (.region [] [oq 34 (.bld lA4 [.bool false, .bool false, .bool false, .bool false, .bool false, .bool false, .bool false, .bool false, .int 0] [(0,1,(.c lB [.bool true])),(1,1,(.c lB [.bool true])),(5,1,(.c lB [.bool true]))]),
 ⟨none, .st lA4 (.t 2) (.t 34),none,[]⟩] false 0)
 .ret)
 (.seq (.region [] [oq 36 (.icmp .eql (.t 3) (.c lI [.int 11])),
 oq 35 (.mov (.t 36))] false 0)
 (.cond (.t 35) (.seq (.region [] [oq 37 (.bld lA4 [.bool false, .bool false, .bool false, .bool false, .bool false, .bool false, .bool false, .bool false, .int 0] [(7,1,(.c lB [.bool true]))]),
 ⟨none, .st lA4 (.t 2) (.t 37),none,[]⟩] false 0)
 .ret)
 (.seq (.region [] [oq 39 (.icmp .eql (.t 3) (.c lI [.int 12])),
 oq 38 (.mov (.t 39))] false 0)
 (.cond (.t 38) (.seq (.region [] [oq 40 (.bld lA4 [.bool false, .bool false, .bool false, .bool false, .bool false, .bool false, .bool false, .bool false, .int 0] [(4,1,(.c lB [.bool true]))]),
 ⟨none, .st lA4 (.t 2) (.t 40),none,[]⟩] false 0)
 .ret)
 (.seq (.region [] [oq 42 (.icmp .eql (.t 3) (.c lI [.int 13])),
 oq 41 (.mov (.t 42))] false 0)
 (.cond (.t 41) (.seq (.region [] [oq 43 (.bld lA4 [.bool false, .bool false, .bool false, .bool false, .bool false, .bool false, .bool false, .bool false, .int 0] [(0,1,(.c lB [.bool true])),(8,1,(.c lI [.int 1]))]),
 ⟨none, .st lA4 (.t 2) (.t 43),none,[]⟩] false 0)
 .ret)
 (.seq (.region [] [oq 45 (.icmp .eql (.t 3) (.c lI [.int 14])),
 oq 44 (.mov (.t 45))] false 0)
 (.cond (.t 44) (.seq (.region [] [oq 46 (.bld lA4 [.bool false, .bool false, .bool false, .bool false, .bool false, .bool false, .bool false, .bool false, .int 0] [(2,1,(.c lB [.bool true])),(8,1,(.c lI [.int (-1)]))]),
 ⟨none, .st lA4 (.t 2) (.t 46),none,[]⟩] false 0)
 .ret)
 (.seq (.region [] [oq 48 (.icmp .eql (.t 3) (.c lI [.int 18])),
 oq 47 (.mov (.t 48))] false 0)
 (.cond (.t 47) (.seq (.region [] [oq 49 (.bld lA4 [.bool false, .bool false, .bool false, .bool false, .bool false, .bool false, .bool false, .bool false, .int 0] [(6,1,(.c lB [.bool true]))]),
 ⟨none, .st lA4 (.t 2) (.t 49),none,[]⟩] false 0)
 .ret)
 .skip)))))))))))))))))))))))))))))))
 (.seq (.region [] [oq 50 (.bld lA4 [.bool false, .bool false, .bool false, .bool false, .bool false, .bool false, .bool false, .bool false, .int 0] []),
 ⟨none, .st lA4 (.t 2) (.t 50),none,[]⟩] false 0)
 .ret)))}
noncomputable def lens_table (E:Env) (p0:Int):Option (List Row):=
 (if (p0==1)=true then
 some (1,[.r [.bool false, .bool false, .bool false, .bool false, .bool false, .bool false, .bool false, .bool false, .int (-1)]])
 else
 if (p0==2)=true then
 some (1,[.r [.bool true, .bool false, .bool false, .bool false, .bool false, .bool false, .bool false, .bool false, .int 1]])
 else
 if (p0==3)=true then
 some (1,[.r [.bool true, .bool true, .bool false, .bool false, .bool false, .bool false, .bool false, .bool false, .int 0]])
 else
 (if (p0==4)=true then
 some (0,[.r [.int p0], .r [.bool (p0==4)], .r [.bool false, .bool false, .bool false, .bool false, .bool false, .bool false, .bool false, .bool false, .int 0]])
 else
 if (p0==5)=true then
 some (0,[.r [.int p0], .r [.bool (p0==5)], .r [.bool false, .bool false, .bool false, .bool false, .bool false, .bool false, .bool false, .bool false, .int 0]])
 else
 some (0,[.r [.int p0], .r [.bool (p0==15)], .r [.bool false, .bool false, .bool false, .bool false, .bool false, .bool false, .bool false, .bool false, .int 0]])).bind fun x1=>
 if (gB 1 x1.2)=true then
 some (1,[.r [.bool true, .bool false, .bool false, .bool false, .bool false, .bool false, .bool true, .bool false, .int 0]])
 else
 if ((gI 0 x1.2)==6)=true then
 some (1,[.r [.bool false, .bool true, .bool true, .bool false, .bool false, .bool false, .bool false, .bool false, .int 0]])
 else
 (if ((gI 0 x1.2)==7)=true then
 some (0,[.r [.int (gI 0 x1.2)], .r [.bool ((gI 0 x1.2)==7)], .r (gR 2 x1.2)])
 else
 if ((gI 0 x1.2)==16)=true then
 some (0,[.r [.int (gI 0 x1.2)], .r [.bool ((gI 0 x1.2)==16)], .r (gR 2 x1.2)])
 else
 some (0,[.r [.int (gI 0 x1.2)], .r [.bool ((gI 0 x1.2)==17)], .r (gR 2 x1.2)])).bind fun x2=>
 if (gB 1 x2.2)=true then
 some (1,[.r [.bool true, .bool false, .bool false, .bool false, .bool false, .bool false, .bool false, .bool false, .int 0]])
 else
 if ((gI 0 x2.2)==8)=true then
 some (1,[.r [.bool true, .bool false, .bool false, .bool true, .bool false, .bool false, .bool false, .bool false, .int 0]])
 else
 if ((gI 0 x2.2)==9)=true then
 some (1,[.r [.bool true, .bool true, .bool true, .bool false, .bool false, .bool true, .bool false, .bool false, .int 0]])
 else
 if ((gI 0 x2.2)==10)=true then
 some (1,[.r [.bool true, .bool true, .bool false, .bool false, .bool false, .bool true, .bool false, .bool false, .int 0]])
 else
 if ((gI 0 x2.2)==11)=true then
 some (1,[.r [.bool false, .bool false, .bool false, .bool false, .bool false, .bool false, .bool false, .bool true, .int 0]])
 else
 if ((gI 0 x2.2)==12)=true then
 some (1,[.r [.bool false, .bool false, .bool false, .bool false, .bool true, .bool false, .bool false, .bool false, .int 0]])
 else
 if ((gI 0 x2.2)==13)=true then
 some (1,[.r [.bool true, .bool false, .bool false, .bool false, .bool false, .bool false, .bool false, .bool false, .int 1]])
 else
 if ((gI 0 x2.2)==14)=true then
 some (1,[.r [.bool false, .bool false, .bool true, .bool false, .bool false, .bool false, .bool false, .bool false, .int (-1)]])
 else
 if ((gI 0 x2.2)==18)=true then
 some (1,[.r [.bool false, .bool false, .bool false, .bool false, .bool false, .bool false, .bool true, .bool false, .int 0]])
 else
 some (0,[.r (gR 2 x2.2)])).bind fun x3=>
 match x3.1 with
 |0=>
 some [[.bool false, .bool false, .bool false, .bool false, .bool false, .bool false, .bool false, .bool false, .int 0]]
 |i4+1=>
 some [gR 0 x3.2]
def lens_Plain_a:AFun:={ps:=[lI],rs:=[lB],res:=[(false,2,none)],body:=(.seq (.region [] [oq 2 (.mov (.c lB [.bool false]))] false 0)
 (.seq (.region [] [oq 3 (.mov (.t 0)),
 oq 4 (.icmp .eql (.t 3) (.c lI [.int 1])),
 oq 5 (.mov (.t 4)),
 ⟨some 6, .mov (.t 0),some (5,false),[]⟩,
 ⟨some 7, .icmp .eql (.t 6) (.c lI [.int 2]),some (5,false),[]⟩,
 oq 8 (.pick (.t 5) (.c lB [.bool true]) (.t 7)),
 oq 9 (.mov (.t 8)),
 ⟨some 10, .mov (.t 0),some (9,false),[]⟩,
 ⟨some 11, .icmp .eql (.t 10) (.c lI [.int 4]),some (9,false),[]⟩,
 oq 12 (.pick (.t 9) (.c lB [.bool true]) (.t 11)),
 oq 13 (.mov (.t 12)),
 ⟨some 14, .mov (.t 0),some (13,false),[]⟩,
 ⟨some 15, .icmp .eql (.t 14) (.c lI [.int 5]),some (13,false),[]⟩,
 oq 16 (.pick (.t 13) (.c lB [.bool true]) (.t 15)),
 oq 2 (.mov (.t 16))] false 0)
 .ret))}
noncomputable def lens_Plain (E:Env) (p0:Int):Option (List Row):=
 let K1:Bool→Option (List Row):=fun q2=>
 let K3:Bool→Option (List Row):=fun q4=>
 let K5:Bool→Option (List Row):=fun q6=>
 some [[.bool q6]]
 if q4=true then
 K5 true
 else
 K5 (p0==5)
 if q2=true then
 K3 true
 else
 K3 (p0==4)
 if (p0==1)=true then
 K1 true
 else
 K1 (p0==2)
theorem lens_Plain_eq (E:Env) (p0:Int):runP E lens_Plain_a [[.int p0]]=lens_Plain E p0:=by kernel_rfl
def lens_pairs_h2:Shape:={slots:=[(0, .d (.one (.sl 40))),(3, .d lI),(4, .d (.one (.ref 40))),(5, .d lI),(15, .d (.one (.sl 40))),(16, .d lI),(17, .d lI),(22, .d lI),(53, .d (.one (.sl 40))),(54, .d lI),(55, .d lI)],objs:=[]}
def lens_pairs_o2:List (Exit'×Shape):=[(.exit 4,{slots:=[(0, .d (.one (.sl 40))),(3, .d lI),(4, .d (.one (.ref 40))),(15, .d (.one (.sl 40))),(16, .d lI),(17, .d lI),(22, .d lI)],objs:=[]}),(.ret,{slots:=[(2, .d lI)],objs:=[]})]
def lens_pairs_c2:ACode:=(.seq (.region [] [oq 56 (.icmp .lss (.t 55) (.t 54))] false 0)
 (.seq (.cond (.t 56) .skip
 (.exit 4))
 (.seq (.block 5 (.seq (.region [] [oq 57 (.iad 40 lA0 (.t 53) (.t 55)),
 oq 58 (.ld lA0 40 (.t 57)),
 oq 8 (.allocO 0 lA0 [.int 0, .int 0, .str [], .nils, .int 0, .int 0, .str [], .nils]),
 ⟨none, .st lA0 (.t 8) (.t 58),none,[]⟩] false 1)
 (.seq (.region [(8,40,some lA0)] [oq 59 (.mov (.t 5)),
 ⟨some 60, .iadA 2 40 33 lA2 (.t 4) (.t 59),none,[0]⟩,
 ⟨some 61, .ld lA2 33 (.t 60),none,[0,1]⟩,
 oq 62 (.mov (.t 5)),
 ⟨some 63, .iadA 2 40 33 lA2 (.t 8) (.t 62),none,[3]⟩,
 ⟨some 64, .ld lA2 33 (.t 63),none,[3,4]⟩,
 ⟨some 65, .call 16 [lA2,lA2] [lB] [(.t 61),(.t 64)],none,[0,1,2,3,4,5]⟩] true 0)
 (.cond (.t 65) (.seq (.region [] [oq 2 (.mov (.c lI [.int 5]))] false 0)
 .ret)
 .skip))))
 (.region [] [oq 66 (.ibin .add (.t 55) (.c lI [.int 1])),
 oq 55 (.mov (.t 66))] false 0))))
noncomputable def lens_pairs_l2 (E:Env) (v0:C) (v1:Int) (v2:C) (v3:Int) (v4:C) (v5:Int) (v6:Int) (v7:Int) (v8:C) (v9:Int) (v10:Int):Option (Nat×List PV):=E.fix (stepOf E lens_pairs_c2 lens_pairs_h2 lens_pairs_o2) [.r [v0], .r [.int v1], .r [v2], .r [.int v3], .r [v4], .r [.int v5], .r [.int v6], .r [.int v7], .r [v8], .r [.int v9], .r [.int v10]]
noncomputable def lens_pairs_b2 (E:Env) (X:C→Int→C→Int→C→Int→Int→Int→C→Int→Int→Option (Nat×List PV)) (v0:C) (v1:Int) (v2:C) (v3:Int) (v4:C) (v5:Int) (v6:Int) (v7:Int) (v8:C) (v9:Int) (v10:Int):Option (Nat×List PV):=
 if (decide (v10<v9))=true then
 if (0:Int)≤v10∧v10<(v8.rows.length:Int)then
 if (0:Int)≤v3∧v3<(2:Int)∧v2.isDp=true then
 if (0:Int)≤v3∧v3<(2:Int)∧(C.dp (rowsAt v8.rows v10.toNat)).isDp=true then
 (E.pc n_value_Same [[at_ v2.dpRow (v3.toNat*4),at_ v2.dpRow (v3.toNat*4+1),at_ v2.dpRow (v3.toNat*4+2),at_ v2.dpRow (v3.toNat*4+3)],[at_ (rowsAt v8.rows v10.toNat) (v3.toNat*4),at_ (rowsAt v8.rows v10.toNat) (v3.toNat*4+1),at_ (rowsAt v8.rows v10.toNat) (v3.toNat*4+2),at_ (rowsAt v8.rows v10.toNat) (v3.toNat*4+3)]]).bind fun y6=>
 if ((at_ (rowsAt y6 0) 0).toB)=true then
 some (1,[.r [.int 5]])
 else
 X v0 v1 v2 v3 v4 v5 v6 v7 v8 v9 (Go.IntKind.i64.wrap (v10+1))
 else none
 else none
 else none
 else
 some (0,[.r [v0], .r [.int v1], .r [v2], .r [v4], .r [.int v5], .r [.int v6], .r [.int v7]])
theorem lens_pairs_s2 (E:Env) (X:List PV→Option (Nat×List PV)) (v0:C) (v1:Int) (v2:C) (v3:Int) (v4:C) (v5:Int) (v6:Int) (v7:Int) (v8:C) (v9:Int) (v10:Int):stepOf E lens_pairs_c2 lens_pairs_h2 lens_pairs_o2 X [.r [v0], .r [.int v1], .r [v2], .r [.int v3], .r [v4], .r [.int v5], .r [.int v6], .r [.int v7], .r [v8], .r [.int v9], .r [.int v10]]=lens_pairs_b2 E (fun (v0:C) (v1:Int) (v2:C) (v3:Int) (v4:C) (v5:Int) (v6:Int) (v7:Int) (v8:C) (v9:Int) (v10:Int)=>X [.r [v0], .r [.int v1], .r [v2], .r [.int v3], .r [v4], .r [.int v5], .r [.int v6], .r [.int v7], .r [v8], .r [.int v9], .r [.int v10]]) v0 v1 v2 v3 v4 v5 v6 v7 v8 v9 v10:=by kernel_rfl
def lens_pairs_h1:Shape:={slots:=[(0, .d (.one (.sl 40))),(3, .d lI),(4, .d (.one (.ref 40))),(15, .d (.one (.sl 40))),(16, .d lI),(17, .d lI),(22, .d lI)],objs:=[]}
def lens_pairs_o1:List (Exit'×Shape):=[(.exit 2,{slots:=[(0, .d (.one (.sl 40))),(15, .d (.one (.sl 40))),(16, .d lI),(17, .d lI)],objs:=[]}),(.ret,{slots:=[(2, .d lI)],objs:=[]})]
def lens_pairs_c1:ACode:=(.seq (.region [] [oq 23 (.icmp .lss (.t 22) (.c lI [.int 2]))] false 0)
 (.seq (.cond (.t 23) .skip
 (.exit 2))
 (.seq (.block 3 (.seq (.region [] [oq 24 (.mov (.t 22)),
 oq 5 (.mov (.t 24))] false 0)
 (.seq (.seq (.region [] [oq 25 (.mov (.t 5)),
 oq 26 (.iadA 2 40 33 lA2 (.t 4) (.t 25)),
 oq 27 (.ld lA2 33 (.t 26)),
 oq 28 (.call 35 [lA2] [lI] [(.t 27)]),
 oq 6 (.mov (.t 28))] false 0)
 (.seq (.region [] [oq 29 (.mov (.t 6)),
 oq 30 (.icmp .neq (.t 29) (.c lI [.int 0]))] false 0)
 (.cond (.t 30) (.seq (.region [] [oq 31 (.mov (.t 6)),
 oq 2 (.mov (.t 31))] false 0)
 .ret)
 .skip)))
 (.seq (.seq (.join [(.normal,{slots:=[(0, .d (.one (.sl 40))),(3, .d lI),(4, .d (.one (.ref 40))),(5, .d lI),(15, .d (.one (.sl 40))),(16, .d lI),(17, .d lI),(22, .d lI),(50, .d lB)],objs:=[]})] (.region [] [oq 32 (.mov (.t 5)),
 ⟨some 33, .iadA 2 40 33 lA2 (.t 4) (.t 32),none,[0]⟩,
 ⟨some 34, .fad 0 1 33 3 (.t 33),none,[0,1]⟩,
 ⟨some 35, .ld lI 3 (.t 34),none,[0,1,2]⟩,
 ⟨some 36, .call 88 [lI] [lB] [(.t 35)],none,[0,1,2,3]⟩,
 ⟨some 37, .not (.t 36),none,[0,1,2,3,4]⟩,
 ⟨some 38, .mov (.t 37),none,[0,1,2,3,4,5]⟩,
 ⟨some 39, .mov (.t 5),some (38,false),[0,1,2,3,4,5,6]⟩,
 ⟨some 40, .iadA 2 40 33 lA2 (.t 4) (.t 39),some (38,false),[0,1,2,3,4,5,6,7]⟩,
 ⟨some 41, .fad 0 1 33 3 (.t 40),some (38,false),[0,1,2,3,4,5,6,7,8]⟩,
 ⟨some 42, .ld lI 3 (.t 41),some (38,false),[0,1,2,3,4,5,6,7,8,9]⟩,
 ⟨some 43, .mov (.t 0),some (38,false),[0,1,2,3,4,5,6]⟩,
 ⟨some 44, .mov (.t 5),some (38,false),[0,1,2,3,4,5,6]⟩,
 ⟨some 45, .iad 40 lA0 (.t 43) (.c lI [.int 0]),some (38,false),[0,1,2,3,4,5,6,11]⟩,
 ⟨some 46, .iadA 2 40 33 lA2 (.t 45) (.t 44),some (38,false),[0,1,2,3,4,5,6,11,12,13]⟩,
 ⟨some 47, .fad 0 1 33 3 (.t 46),some (38,false),[0,1,2,3,4,5,6,11,12,13,14]⟩,
 ⟨some 48, .ld lI 3 (.t 47),some (38,false),[0,1,2,3,4,5,6,11,12,13,14,15]⟩,
 ⟨some 49, .icmp .neq (.t 42) (.t 48),some (38,false),[0,1,2,3,4,5,6,7,8,9,10,11,12,13,14,15,16]⟩,
 ⟨some 50, .pick (.t 38) (.c lB [.bool true]) (.t 49),none,[0,1,2,3,4,5,6,7,8,9,10,11,12,13,14,15,16,17]⟩] true 0))
 (.cond (.t 50) (.seq (.region [] [oq 2 (.mov (.c lI [.int 8]))] false 0)
 .ret)
 .skip))
 (.seq (.region [] [oq 51 (.mov (.t 0)),
 oq 52 (.mov (.t 3)),
 oq 53 (.slc 40 lA0 (.t 51) none (some (.t 52))),
 oq 54 (.lenL (.t 53)),
 oq 55 (.mov (.c lI [.int 0]))] false 0)
 (.block 4 (.loop lens_pairs_h2 lens_pairs_o2 lens_pairs_c2)))))))
 (.region [] [oq 67 (.ibin .add (.t 22) (.c lI [.int 1])),
 oq 22 (.mov (.t 67))] false 0))))
noncomputable def lens_pairs_l1 (E:Env) (v0:C) (v1:Int) (v2:C) (v3:C) (v4:Int) (v5:Int) (v6:Int):Option (Nat×List PV):=E.fix (stepOf E lens_pairs_c1 lens_pairs_h1 lens_pairs_o1) [.r [v0], .r [.int v1], .r [v2], .r [v3], .r [.int v4], .r [.int v5], .r [.int v6]]
noncomputable def lens_pairs_b1 (E:Env) (X:C→Int→C→C→Int→Int→Int→Option (Nat×List PV)) (v0:C) (v1:Int) (v2:C) (v3:C) (v4:Int) (v5:Int) (v6:Int):Option (Nat×List PV):=
 if (decide (v6<2))=true then
 if (0:Int)≤v6∧v6<(2:Int)∧v2.isDp=true then
 (E.pc n_value_Check [[at_ v2.dpRow (v6.toNat*4),at_ v2.dpRow (v6.toNat*4+1),at_ v2.dpRow (v6.toNat*4+2),at_ v2.dpRow (v6.toNat*4+3)]]).bind fun y1=>
 if (((at_ (rowsAt y1 0) 0).toI) !=0)=true then
 some (1,[.r [.int ((at_ (rowsAt y1 0) 0).toI)]])
 else
 (if (0:Int)≤v6∧v6<(2:Int)∧v2.isDp=true then
 (E.pc n_lens_Plain [[.int ((at_ v2.dpRow (v6.toNat*4)).toI)]]).bind fun y2=>
 let K3:Bool→Option (Nat×List PV):=fun q4=>
 some (0,[.r [v0], .r [.int v1], .r [v2], .r [.int v6], .r [v3], .r [.int v4], .r [.int v5], .r [.int v6], .r [.bool q4]])
 if (!((at_ (rowsAt y2 0) 0).toB))=true then
 K3 true
 else
 if (0:Int)≤v6∧v6<(2:Int)∧v2.isDp=true then
 if (0:Int)≤0∧0<(v0.rows.length:Int)then
 if (0:Int)≤v6∧v6<(2:Int)∧(C.dp (rowsAt v0.rows 0)).isDp=true then
 K3 (((at_ v2.dpRow (v6.toNat*4)).toI) !=((at_ (rowsAt v0.rows 0) (v6.toNat*4)).toI))
 else none
 else none
 else none
 else none).bind fun x5=>
 if (gB 8 x5.2)=true then
 some (1,[.r [.int 8]])
 else
 if (0:Int)≤0∧0≤(gI 1 x5.2)∧(gI 1 x5.2)≤(((gC 0 x5.2).rows).length:Int)then
 (lens_pairs_l2 E (gC 0 x5.2) (gI 1 x5.2) (gC 2 x5.2) (gI 3 x5.2) (gC 4 x5.2) (gI 5 x5.2) (gI 6 x5.2) (gI 7 x5.2) (slcC (gC 0 x5.2) 0 (gI 1 x5.2)) (((slcC (gC 0 x5.2) 0 (gI 1 x5.2)).rows).length:Int) 0).bind fun x7=>
 match x7.1 with
 |0=>
 X (gC 0 x7.2) (gI 1 x7.2) (gC 2 x7.2) (gC 3 x7.2) (gI 4 x7.2) (gI 5 x7.2) (Go.IntKind.i64.wrap ((gI 6 x7.2)+1))
 |i8+1=>
 some (1,[.r [.int (gI 0 x7.2)]])
 else none
 else none
 else
 some (0,[.r [v0], .r [v3], .r [.int v4], .r [.int v5]])
theorem lens_pairs_s1 (E:Env) (X:List PV→Option (Nat×List PV)) (v0:C) (v1:Int) (v2:C) (v3:C) (v4:Int) (v5:Int) (v6:Int):stepOf E lens_pairs_c1 lens_pairs_h1 lens_pairs_o1 X [.r [v0], .r [.int v1], .r [v2], .r [v3], .r [.int v4], .r [.int v5], .r [.int v6]]=lens_pairs_b1 E (fun (v0:C) (v1:Int) (v2:C) (v3:C) (v4:Int) (v5:Int) (v6:Int)=>X [.r [v0], .r [.int v1], .r [v2], .r [v3], .r [.int v4], .r [.int v5], .r [.int v6]]) v0 v1 v2 v3 v4 v5 v6:=by kernel_rfl
def lens_pairs_h0:Shape:={slots:=[(0, .d (.one (.sl 40))),(15, .d (.one (.sl 40))),(16, .d lI),(17, .d lI)],objs:=[]}
def lens_pairs_o0:List (Exit'×Shape):=[(.exit 0,{slots:=[],objs:=[]}),(.ret,{slots:=[(2, .d lI)],objs:=[]})]
def lens_pairs_c0:ACode:=(.seq (.region [] [oq 18 (.icmp .lss (.t 17) (.t 16))] false 0)
 (.seq (.cond (.t 18) .skip
 (.exit 0))
 (.seq (.block 1 (.seq (.region [] [oq 19 (.mov (.t 17)),
 oq 20 (.iad 40 lA0 (.t 15) (.t 17)),
 oq 21 (.ld lA0 40 (.t 20)),
 oq 4 (.allocO 0 lA0 [.int 0, .int 0, .str [], .nils, .int 0, .int 0, .str [], .nils]),
 oq 3 (.mov (.t 19)),
 ⟨none, .st lA0 (.t 4) (.t 21),none,[]⟩] false 1)
 (.seq (.region [(4,40,some lA0)] [oq 22 (.mov (.c lI [.int 0]))] false 0)
 (.block 2 (.loop lens_pairs_h1 lens_pairs_o1 lens_pairs_c1)))))
 (.region [] [oq 68 (.ibin .add (.t 17) (.c lI [.int 1])),
 oq 17 (.mov (.t 68))] false 0))))
noncomputable def lens_pairs_l0 (E:Env) (v0:C) (v1:C) (v2:Int) (v3:Int):Option (Nat×List PV):=E.fix (stepOf E lens_pairs_c0 lens_pairs_h0 lens_pairs_o0) [.r [v0], .r [v1], .r [.int v2], .r [.int v3]]
noncomputable def lens_pairs_b0 (E:Env) (X:C→C→Int→Int→Option (Nat×List PV)) (v0:C) (v1:C) (v2:Int) (v3:Int):Option (Nat×List PV):=
 if (decide (v3<v2))=true then
 if (0:Int)≤v3∧v3<(v1.rows.length:Int)then
 (lens_pairs_l1 E v0 v3 (.dp (rowsAt v1.rows v3.toNat)) v1 v2 v3 0).bind fun x9=>
 match x9.1 with
 |0=>
 X (gC 0 x9.2) (gC 1 x9.2) (gI 2 x9.2) (Go.IntKind.i64.wrap ((gI 3 x9.2)+1))
 |i10+1=>
 some (1,[.r [.int (gI 0 x9.2)]])
 else none
 else
 some (0,[])
theorem lens_pairs_s0 (E:Env) (X:List PV→Option (Nat×List PV)) (v0:C) (v1:C) (v2:Int) (v3:Int):stepOf E lens_pairs_c0 lens_pairs_h0 lens_pairs_o0 X [.r [v0], .r [v1], .r [.int v2], .r [.int v3]]=lens_pairs_b0 E (fun (v0:C) (v1:C) (v2:Int) (v3:Int)=>X [.r [v0], .r [v1], .r [.int v2], .r [.int v3]]) v0 v1 v2 v3:=by kernel_rfl
def lens_pairs_a:AFun:={ps:=[(.one (.sl 40))],rs:=[lI],res:=[(false,2,none)],body:=(.seq (.region [] [oq 2 (.mov (.c lI [.int 0]))] false 0)
 (.seq (.seq (.region [] [oq 9 (.mov (.t 0)),
 oq 10 (.lenL (.t 9)),
 oq 11 (.icmp .eql (.t 10) (.c lI [.int 0]))] false 0)
 (.cond (.t 11) (.seq (.region [] [oq 2 (.mov (.c lI [.int 3]))] false 0)
 .ret)
 .skip))
 (.seq (.seq (.region [] [oq 12 (.mov (.t 0)),
 oq 13 (.lenL (.t 12)),
 oq 14 (.icmp .gtr (.t 13) (.c lI [.int 40]))] false 0)
 (.cond (.t 14) (.seq (.region [] [oq 2 (.mov (.c lI [.int 2]))] false 0)
 .ret)
 .skip))
 (.seq (.seq (.region [] [oq 15 (.mov (.t 0)),
 oq 16 (.lenL (.t 15)),
 oq 17 (.mov (.c lI [.int 0]))] false 0)
 (.block 0 (.loop lens_pairs_h0 lens_pairs_o0 lens_pairs_c0)))
 (.seq (.region [] [oq 2 (.mov (.c lI [.int 0]))] false 0)
 .ret)))))}
noncomputable def lens_pairs (E:Env) (p0:C):Option (List Row):=
 if ((p0.rows.length:Int)==0)=true then
 some [[.int 3]]
 else
 if (decide ((p0.rows.length:Int)>40))=true then
 some [[.int 2]]
 else
 (lens_pairs_l0 E p0 p0 (p0.rows.length:Int) 0).bind fun x11=>
 match x11.1 with
 |0=>
 some [[.int 0]]
 |i12+1=>
 some [[.int (gI 0 x11.2)]]
theorem lens_pairs_eq (E:Env) (p0:C):runP E lens_pairs_a [[p0]]=lens_pairs E p0:=by kernel_rfl
end Go.Ev
