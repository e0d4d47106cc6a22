/-
  A part of the proof: what the functions of the program compute.
-/
import Derived.Test.YtgiibefjiloafaaGreatDoorZNum
set_option linter.all false
set_option maxRecDepth 100000
namespace Go.Ev
def types_node_h0:Shape:={slots:=[(0, .d (.one (.sl 64))),(16, .d (.one (.sl 55))),(17, .d lI),(18, .d lI)],objs:=[]}
def types_node_o0:List (Exit'×Shape):=[(.exit 0,{slots:=[],objs:=[]}),(.ret,{slots:=[(4, .d lI)],objs:=[]})]
def types_node_c0:ACode:=(.seq (.region [] [oq 19 (.icmp .lss (.t 18) (.t 17))] false 0)
 (.seq (.cond (.t 19) .skip
 (.exit 0))
 (.seq (.block 1 (.seq (.region [] [oq 20 (.iad 55 lA0 (.t 16) (.t 18)),
 oq 21 (.ld lA0 55 (.t 20)),
 oq 7 (.allocO 0 lA0 [.str [], .int 0, .str [], .int 0, .int 0, .str [], .nils]),
 ⟨none, .st lA0 (.t 7) (.t 21),none,[]⟩] false 1)
 (.seq (.region [] [oq 22 (.mov (.t 0)),
 oq 23 (.fad 1 6 55 26 (.t 7)),
 oq 24 (.ld lA1 26 (.t 23)),
 oq 25 (.call 43 [(.one (.sl 64)),lA1] [lI] [(.t 22),(.t 24)]),
 oq 8 (.mov (.t 25))] false 0)
 (.seq (.region [] [oq 26 (.mov (.t 8)),
 oq 27 (.icmp .neq (.t 26) (.c lI [.int 0]))] false 0)
 (.cond (.t 27) (.seq (.region [] [oq 28 (.mov (.t 8)),
 oq 4 (.mov (.t 28))] false 0)
 .ret)
 .skip)))))
 (.region [] [oq 29 (.ibin .add (.t 18) (.c lI [.int 1])),
 oq 18 (.mov (.t 29))] false 0))))
noncomputable def types_node_l0 (E:Env) (v0:C) (v1:C) (v2:Int) (v3:Int):Option (Nat×List PV):=E.fix (stepOf E types_node_c0 types_node_h0 types_node_o0) [.r [v0], .r [v1], .r [.int v2], .r [.int v3]]
noncomputable def types_node_b0 (E:Env) (X:C→C→Int→Int→Option (Nat×List PV)) (v0:C) (v1:C) (v2:Int) (v3:Int):Option (Nat×List PV):=
 if (decide (v3<v2))=true then
 if (0:Int)≤v3∧v3<(v1.rows.length:Int)then
 (E.pc n_types_node [[v0],[at_ (rowsAt v1.rows v3.toNat) 1,at_ (rowsAt v1.rows v3.toNat) 2,at_ (rowsAt v1.rows v3.toNat) 3,at_ (rowsAt v1.rows v3.toNat) 4,at_ (rowsAt v1.rows v3.toNat) 5,at_ (rowsAt v1.rows v3.toNat) 6]]).bind fun y2=>
 if (((at_ (rowsAt y2 0) 0).toI) !=0)=true then
 some (1,[.r [.int ((at_ (rowsAt y2 0) 0).toI)]])
 else
 X v0 v1 v2 (Go.IntKind.i64.wrap (v3+1))
 else none
 else
 some (0,[])
theorem types_node_s0 (E:Env) (X:List PV→Option (Nat×List PV)) (v0:C) (v1:C) (v2:Int) (v3:Int):stepOf E types_node_c0 types_node_h0 types_node_o0 X [.r [v0], .r [v1], .r [.int v2], .r [.int v3]]=types_node_b0 E (fun (v0:C) (v1:C) (v2:Int) (v3:Int)=>X [.r [v0], .r [v1], .r [.int v2], .r [.int v3]]) v0 v1 v2 v3:=by kernel_rfl
def types_node_a:AFun:={ps:=[(.one (.sl 64)),lA1],rs:=[lI],res:=[(false,4,none)],body:=(.seq (.region [] [oq 3 (.boxP lA1 26 (.t 1)),
 oq 4 (.mov (.c lI [.int 0]))] false 0)
 (.seq (.seq (.region [] [oq 9 (.mov (.t 0)),
 oq 10 (.ld lA1 26 (.t 3)),
 oq 11 (.call 75 [(.one (.sl 64)),lA1] [lI] [(.t 9),(.t 10)]),
 oq 5 (.mov (.t 11))] false 0)
 (.seq (.region [] [oq 12 (.mov (.t 5)),
 oq 13 (.icmp .neq (.t 12) (.c lI [.int 0]))] false 0)
 (.cond (.t 13) (.seq (.region [] [oq 14 (.mov (.t 5)),
 oq 4 (.mov (.t 14))] false 0)
 .ret)
 .skip)))
 (.seq (.seq (.region [] [oq 15 (.fad 5 1 26 24 (.t 3)),
 oq 16 (.ld (.one (.sl 55)) 24 (.t 15)),
 oq 17 (.lenL (.t 16)),
 oq 18 (.mov (.c lI [.int 0]))] false 0)
 (.block 0 (.loop types_node_h0 types_node_o0 types_node_c0)))
 (.seq (.region [] [oq 4 (.mov (.c lI [.int 0]))] false 0)
 .ret))))}
noncomputable def types_node (E:Env) (p0:C) (p1:Row):Option (List Row):=
 (E.pc n_types_own [[p0],p1]).bind fun y1=>
 if (((at_ (rowsAt y1 0) 0).toI) !=0)=true then
 some [[.int ((at_ (rowsAt y1 0) 0).toI)]]
 else
 (types_node_l0 E p0 (at_ p1 5) (((at_ p1 5).rows).length:Int) 0).bind fun x3=>
 match x3.1 with
 |0=>
 some [[.int 0]]
 |i4+1=>
 some [[.int (gI 0 x3.2)]]
theorem types_node_eq (E:Env) (p0:C) (p1:Row):runP E types_node_a [[p0],p1]=types_node E p0 p1:=by kernel_rfl
def types_right_a:AFun:={ps:=[(.one (.sl 64)),lA1],rs:=[lI],res:=[(false,4,none)],body:=(.seq (.region [] [oq 3 (.boxP lA1 26 (.t 1)),
 oq 4 (.mov (.c lI [.int 0]))] false 0)
 (.seq (.seq (.region [] [oq 5 (.ld lA1 26 (.t 3)),
 oq 6 (.call 41 [lA1] [lI] [(.t 5)]),
 oq 7 (.icmp .gtr (.t 6) (.c lI [.int 200])),
 oq 8 (.mov (.t 7)),
 ⟨some 9, .ld lA1 26 (.t 3),some (8,false),[]⟩,
 ⟨some 10, .call 42 [lA1] [lI] [(.t 9)],some (8,false),[]⟩,
 ⟨some 11, .icmp .gtr (.t 10) (.c lI [.int 40]),some (8,false),[]⟩,
 oq 12 (.pick (.t 8) (.c lB [.bool true]) (.t 11))] false 0)
 (.cond (.t 12) (.seq (.region [] [oq 4 (.mov (.c lI [.int 2]))] false 0)
 .ret)
 .skip))
 (.seq (.region [] [oq 13 (.mov (.t 0)),
 oq 14 (.ld lA1 26 (.t 3)),
 oq 15 (.call 43 [(.one (.sl 64)),lA1] [lI] [(.t 13),(.t 14)]),
 oq 4 (.mov (.t 15))] false 0)
 .ret)))}
noncomputable def types_right (E:Env) (p0:C) (p1:Row):Option (List Row):=
 (E.pc n_types_Size [p1]).bind fun y1=>
 let K2:Bool→Option (List Row):=fun q3=>
 if q3=true then
 some [[.int 2]]
 else
 (E.pc n_types_node [[p0],p1]).bind fun y4=>
 some [[.int ((at_ (rowsAt y4 0) 0).toI)]]
 if (decide (((at_ (rowsAt y1 0) 0).toI)>200))=true then
 K2 true
 else
 (E.pc n_types_Deep [p1]).bind fun y5=>
 K2 (decide (((at_ (rowsAt y5 0) 0).toI)>40))
theorem types_right_eq (E:Env) (p0:C) (p1:Row):runP E types_right_a [[p0],p1]=types_right E p0 p1:=by kernel_rfl
def types_resolve_h0:Shape:={slots:=[(0, .d (.one (.sl 64))),(3, .ptr 0 0),(4, .ptr 1 0),(9, .d lI),(10, .d lI)],objs:=[.var lA1, .var lA1]}
def types_resolve_o0:List (Exit'×Shape):=[(.exit 0,{slots:=[(4, .ptr 0 0)],objs:=[.var lA1]}),(.ret,{slots:=[(4, .ptr 0 0),(5, .d lI)],objs:=[.var lA1]})]
def types_resolve_c0:ACode:=(.seq (.region [] [oq 11 (.icmp .lss (.t 10) (.t 9))] false 0)
 (.seq (.cond (.t 11) .skip
 (.exit 0))
 (.seq (.block 1 (.seq (.seq (.region [] [oq 12 (.fad 0 1 26 3 (.t 3)),
 oq 13 (.ld lI 3 (.t 12)),
 oq 14 (.icmp .neq (.t 13) (.c lI [.int 10]))] false 0)
 (.cond (.t 14) (.seq (.region [] [oq 15 (.ld lA1 26 (.t 3)),
 ⟨none, .st lA1 (.t 4) (.t 15),none,[]⟩,
 oq 5 (.mov (.c lI [.int 0]))] false 0)
 .ret)
 .skip))
 (.seq (.region [] [oq 16 (.mov (.t 0)),
 oq 17 (.fad 1 1 26 9 (.t 3)),
 oq 18 (.ld lS 9 (.t 17)),
 oq 19 (.call 31 [(.one (.sl 64)),lS] [lI] [(.t 16),(.t 18)]),
 oq 6 (.mov (.t 19))] false 0)
 (.seq (.seq (.region [] [oq 20 (.mov (.t 6)),
 oq 21 (.icmp .lss (.t 20) (.c lI [.int 0]))] false 0)
 (.cond (.t 21) (.seq (.region [] [oq 22 (.bld lA1 [.int 0, .str [], .int 0, .int 0, .str [], .nils] []),
 ⟨none, .st lA1 (.t 4) (.t 22),none,[]⟩,
 oq 5 (.mov (.c lI [.int 15]))] false 0)
 .ret)
 .skip))
 (.region [] [oq 23 (.mov (.t 0)),
 oq 24 (.mov (.t 6)),
 oq 25 (.iad 64 lA0 (.t 23) (.t 24)),
 oq 26 (.fad 1 6 64 26 (.t 25)),
 oq 27 (.ld lA1 26 (.t 26)),
 ⟨none, .st lA1 (.t 3) (.t 27),none,[]⟩] false 0)))))
 (.region [] [oq 28 (.ibin .add (.t 10) (.c lI [.int 1])),
 oq 10 (.mov (.t 28))] false 0))))
noncomputable def types_resolve_l0 (E:Env) (v0:C) (v1:Int) (v2:Int) (v3:Row) (v4:Row):Option (Nat×List PV):=E.fix (stepOf E types_resolve_c0 types_resolve_h0 types_resolve_o0) [.r [v0], .r [.int v1], .r [.int v2], .r v3, .r v4]
noncomputable def types_resolve_b0 (E:Env) (X:C→Int→Int→Row→Row→Option (Nat×List PV)) (v0:C) (v1:Int) (v2:Int) (v3:Row) (v4:Row):Option (Nat×List PV):=
 if (decide (v2<v1))=true then
 if (((at_ v3 0).toI) !=10)=true then
 some (1,[.r [.int 0], .r v3])
 else
 (E.pc n_types_find [[v0],[.str ((at_ v3 1).toS)]]).bind fun y1=>
 if (decide (((at_ (rowsAt y1 0) 0).toI)<0))=true then
 some (1,[.r [.int 15], .r [.int 0, .str [], .int 0, .int 0, .str [], .nils]])
 else
 if (0:Int)≤((at_ (rowsAt y1 0) 0).toI)∧((at_ (rowsAt y1 0) 0).toI)<(v0.rows.length:Int)then
 X v0 v1 (Go.IntKind.i64.wrap (v2+1)) [at_ (rowsAt v0.rows (((at_ (rowsAt y1 0) 0).toI).toNat)) 1,at_ (rowsAt v0.rows (((at_ (rowsAt y1 0) 0).toI).toNat)) 2,at_ (rowsAt v0.rows (((at_ (rowsAt y1 0) 0).toI).toNat)) 3,at_ (rowsAt v0.rows (((at_ (rowsAt y1 0) 0).toI).toNat)) 4,at_ (rowsAt v0.rows (((at_ (rowsAt y1 0) 0).toI).toNat)) 5,at_ (rowsAt v0.rows (((at_ (rowsAt y1 0) 0).toI).toNat)) 6] v4
 else none
 else
 some (0,[.r v4])
theorem types_resolve_s0 (E:Env) (X:List PV→Option (Nat×List PV)) (v0:C) (v1:Int) (v2:Int) (v3:Row) (v4:Row):stepOf E types_resolve_c0 types_resolve_h0 types_resolve_o0 X [.r [v0], .r [.int v1], .r [.int v2], .r v3, .r v4]=types_resolve_b0 E (fun (v0:C) (v1:Int) (v2:Int) (v3:Row) (v4:Row)=>X [.r [v0], .r [.int v1], .r [.int v2], .r v3, .r v4]) v0 v1 v2 v3 v4:=by kernel_rfl
def types_resolve_a:AFun:={ps:=[(.one (.sl 64)),lA1],rs:=[lA1,lI],res:=[(true,4,none),(false,5,none)],body:=(.seq (.region [] [oq 3 (.boxO 0 lA1 (.t 1)),
 oq 4 (.allocO 1 lA1 [.int 0, .str [], .int 0, .int 0, .str [], .nils]),
 oq 5 (.mov (.c lI [.int 0]))] false 2)
 (.seq (.seq (.region [] [oq 7 (.mov (.t 0)),
 oq 8 (.lenL (.t 7)),
 oq 9 (.ibin .add (.t 8) (.c lI [.int 1])),
 oq 10 (.mov (.c lI [.int 0]))] false 0)
 (.block 0 (.loop types_resolve_h0 types_resolve_o0 types_resolve_c0)))
 (.seq (.region [] [oq 29 (.bld lA1 [.int 0, .str [], .int 0, .int 0, .str [], .nils] []),
 ⟨none, .st lA1 (.t 4) (.t 29),none,[]⟩,
 oq 5 (.mov (.c lI [.int 10]))] false 0)
 .ret)))}
noncomputable def types_resolve (E:Env) (p0:C) (p1:Row):Option (List Row):=
 (types_resolve_l0 E p0 (Go.IntKind.i64.wrap ((p0.rows.length:Int)+1)) 0 p1 [.int 0, .str [], .int 0, .int 0, .str [], .nils]).bind fun x2=>
 match x2.1 with
 |0=>
 some [[.int 0, .str [], .int 0, .int 0, .str [], .nils],[.int 10]]
 |i3+1=>
 some [gR 1 x2.2,[.int (gI 0 x2.2)]]
theorem types_resolve_eq (E:Env) (p0:C) (p1:Row):runP E types_resolve_a [[p0],p1]=types_resolve E p0 p1:=by kernel_rfl
def types_Check_h0:Shape:={slots:=[(0, .d (.one (.sl 64))),(15, .d (.one (.sl 64))),(16, .d lI),(17, .d lI)],objs:=[]}
def types_Check_o0:List (Exit'×Shape):=[(.exit 0,{slots:=[(0, .d (.one (.sl 64)))],objs:=[]}),(.ret,{slots:=[(2, .d lI)],objs:=[]})]
def types_Check_c0:ACode:=(.seq (.region [] [oq 18 (.icmp .lss (.t 17) (.t 16))] false 0)
 (.seq (.cond (.t 18) .skip
 (.exit 0))
 (.seq (.block 1 (.seq (.region [] [oq 19 (.mov (.t 17)),
 oq 20 (.iad 64 lA0 (.t 15) (.t 17)),
 oq 21 (.ld lA0 64 (.t 20)),
 oq 4 (.allocO 0 lA0 [.str [], .int 0, .str [], .int 0, .int 0, .str [], .nils]),
 oq 3 (.mov (.t 19)),
 ⟨none, .st lA0 (.t 4) (.t 21),none,[]⟩] false 1)
 (.seq (.seq (.region [] [oq 22 (.fad 0 1 64 9 (.t 4)),
 oq 23 (.ld lS 9 (.t 22)),
 oq 24 (.call 30 [lS] [lB] [(.t 23)]),
 oq 25 (.not (.t 24))] false 0)
 (.cond (.t 25) (.seq (.region [] [oq 2 (.mov (.c lI [.int 15]))] false 0)
 .ret)
 .skip))
 (.seq (.region [] [oq 26 (.mov (.t 0)),
 oq 27 (.fad 0 1 64 9 (.t 4)),
 oq 28 (.ld lS 9 (.t 27)),
 oq 29 (.call 31 [(.one (.sl 64)),lS] [lI] [(.t 26),(.t 28)]),
 oq 30 (.mov (.t 3)),
 oq 31 (.icmp .lss (.t 29) (.t 30))] false 0)
 (.cond (.t 31) (.seq (.region [] [oq 2 (.mov (.c lI [.int 5]))] false 0)
 .ret)
 .skip)))))
 (.region [] [oq 32 (.ibin .add (.t 17) (.c lI [.int 1])),
 oq 17 (.mov (.t 32))] false 0))))
noncomputable def types_Check_l0 (E:Env) (v0:C) (v1:C) (v2:Int) (v3:Int):Option (Nat×List PV):=E.fix (stepOf E types_Check_c0 types_Check_h0 types_Check_o0) [.r [v0], .r [v1], .r [.int v2], .r [.int v3]]
noncomputable def types_Check_b0 (E:Env) (X:C→C→Int→Int→Option (Nat×List PV)) (v0:C) (v1:C) (v2:Int) (v3:Int):Option (Nat×List PV):=
 if (decide (v3<v2))=true then
 if (0:Int)≤v3∧v3<(v1.rows.length:Int)then
 (E.pc n_value_Name [[.str ((at_ (rowsAt v1.rows v3.toNat) 0).toS)]]).bind fun y1=>
 if (!((at_ (rowsAt y1 0) 0).toB))=true then
 some (1,[.r [.int 15]])
 else
 (E.pc n_types_find [[v0],[.str ((at_ (rowsAt v1.rows v3.toNat) 0).toS)]]).bind fun y2=>
 if (decide (((at_ (rowsAt y2 0) 0).toI)<v3))=true then
 some (1,[.r [.int 5]])
 else
 X v0 v1 v2 (Go.IntKind.i64.wrap (v3+1))
 else none
 else
 some (0,[.r [v0]])
theorem types_Check_s0 (E:Env) (X:List PV→Option (Nat×List PV)) (v0:C) (v1:C) (v2:Int) (v3:Int):stepOf E types_Check_c0 types_Check_h0 types_Check_o0 X [.r [v0], .r [v1], .r [.int v2], .r [.int v3]]=types_Check_b0 E (fun (v0:C) (v1:C) (v2:Int) (v3:Int)=>X [.r [v0], .r [v1], .r [.int v2], .r [.int v3]]) v0 v1 v2 v3:=by kernel_rfl
def types_Check_h1:Shape:={slots:=[(0, .d (.one (.sl 64))),(33, .d (.one (.sl 64))),(34, .d lI),(35, .d lI)],objs:=[]}
def types_Check_o1:List (Exit'×Shape):=[(.exit 2,{slots:=[(0, .d (.one (.sl 64)))],objs:=[]}),(.ret,{slots:=[(2, .d lI)],objs:=[]})]
def types_Check_c1:ACode:=(.seq (.region [] [oq 36 (.icmp .lss (.t 35) (.t 34))] false 0)
 (.seq (.cond (.t 36) .skip
 (.exit 2))
 (.seq (.block 3 (.seq (.region [] [oq 37 (.iad 64 lA0 (.t 33) (.t 35)),
 oq 38 (.ld lA0 64 (.t 37)),
 oq 6 (.allocO 0 lA0 [.str [], .int 0, .str [], .int 0, .int 0, .str [], .nils]),
 ⟨none, .st lA0 (.t 6) (.t 38),none,[]⟩] false 1)
 (.seq (.region [] [oq 39 (.mov (.t 0)),
 oq 40 (.fad 1 6 64 26 (.t 6)),
 oq 41 (.ld lA1 26 (.t 40)),
 oq 42 (.call 22 [(.one (.sl 64)),lA1] [lI] [(.t 39),(.t 41)]),
 oq 7 (.mov (.t 42))] false 0)
 (.seq (.region [] [oq 43 (.mov (.t 7)),
 oq 44 (.icmp .neq (.t 43) (.c lI [.int 0]))] false 0)
 (.cond (.t 44) (.seq (.region [] [oq 45 (.mov (.t 7)),
 oq 2 (.mov (.t 45))] false 0)
 .ret)
 .skip)))))
 (.region [] [oq 46 (.ibin .add (.t 35) (.c lI [.int 1])),
 oq 35 (.mov (.t 46))] false 0))))
noncomputable def types_Check_l1 (E:Env) (v0:C) (v1:C) (v2:Int) (v3:Int):Option (Nat×List PV):=E.fix (stepOf E types_Check_c1 types_Check_h1 types_Check_o1) [.r [v0], .r [v1], .r [.int v2], .r [.int v3]]
noncomputable def types_Check_b1 (E:Env) (X:C→C→Int→Int→Option (Nat×List PV)) (v0:C) (v1:C) (v2:Int) (v3:Int):Option (Nat×List PV):=
 if (decide (v3<v2))=true then
 if (0:Int)≤v3∧v3<(v1.rows.length:Int)then
 (E.pc n_types_right [[v0],[at_ (rowsAt v1.rows v3.toNat) 1,at_ (rowsAt v1.rows v3.toNat) 2,at_ (rowsAt v1.rows v3.toNat) 3,at_ (rowsAt v1.rows v3.toNat) 4,at_ (rowsAt v1.rows v3.toNat) 5,at_ (rowsAt v1.rows v3.toNat) 6]]).bind fun y5=>
 if (((at_ (rowsAt y5 0) 0).toI) !=0)=true then
 some (1,[.r [.int ((at_ (rowsAt y5 0) 0).toI)]])
 else
 X v0 v1 v2 (Go.IntKind.i64.wrap (v3+1))
 else none
 else
 some (0,[.r [v0]])
theorem types_Check_s1 (E:Env) (X:List PV→Option (Nat×List PV)) (v0:C) (v1:C) (v2:Int) (v3:Int):stepOf E types_Check_c1 types_Check_h1 types_Check_o1 X [.r [v0], .r [v1], .r [.int v2], .r [.int v3]]=types_Check_b1 E (fun (v0:C) (v1:C) (v2:Int) (v3:Int)=>X [.r [v0], .r [v1], .r [.int v2], .r [.int v3]]) v0 v1 v2 v3:=by kernel_rfl
def types_Check_h2:Shape:={slots:=[(0, .d (.one (.sl 64))),(47, .d (.one (.sl 64))),(48, .d lI),(49, .d lI)],objs:=[]}
def types_Check_o2:List (Exit'×Shape):=[(.exit 4,{slots:=[],objs:=[]}),(.ret,{slots:=[(2, .d lI)],objs:=[]})]
def types_Check_c2:ACode:=(.seq (.region [] [oq 50 (.icmp .lss (.t 49) (.t 48))] false 0)
 (.seq (.cond (.t 50) .skip
 (.exit 4))
 (.seq (.block 5 (.seq (.region [] [oq 51 (.iad 64 lA0 (.t 47) (.t 49)),
 oq 52 (.ld lA0 64 (.t 51)),
 oq 9 (.allocO 0 lA0 [.str [], .int 0, .str [], .int 0, .int 0, .str [], .nils]),
 ⟨none, .st lA0 (.t 9) (.t 52),none,[]⟩] false 1)
 (.seq (.region [] [oq 54 (.mov (.t 0)),
 oq 55 (.fad 1 6 64 26 (.t 9)),
 oq 56 (.ld lA1 26 (.t 55)),
 oq 57 (.call 23 [(.one (.sl 64)),lA1] [lA1,lI] [(.t 54),(.t 56)]),
 oq 53 (.mov (.t 57)),
 oq 58 (.ext 0 (.t 53)),
 oq 59 (.ext 1 (.t 53)),
 oq 10 (.allocO 0 lA1 [.int 0, .str [], .int 0, .int 0, .str [], .nils]),
 ⟨none, .st lA1 (.t 10) (.t 58),none,[]⟩,
 oq 11 (.mov (.t 59))] false 1)
 (.seq (.region [] [oq 60 (.mov (.t 11)),
 oq 61 (.icmp .neq (.t 60) (.c lI [.int 0]))] false 0)
 (.cond (.t 61) (.seq (.region [] [oq 62 (.mov (.t 11)),
 oq 2 (.mov (.t 62))] false 0)
 .ret)
 .skip)))))
 (.region [] [oq 63 (.ibin .add (.t 49) (.c lI [.int 1])),
 oq 49 (.mov (.t 63))] false 0))))
noncomputable def types_Check_l2 (E:Env) (v0:C) (v1:C) (v2:Int) (v3:Int):Option (Nat×List PV):=E.fix (stepOf E types_Check_c2 types_Check_h2 types_Check_o2) [.r [v0], .r [v1], .r [.int v2], .r [.int v3]]
noncomputable def types_Check_b2 (E:Env) (X:C→C→Int→Int→Option (Nat×List PV)) (v0:C) (v1:C) (v2:Int) (v3:Int):Option (Nat×List PV):=
 if (decide (v3<v2))=true then
 if (0:Int)≤v3∧v3<(v1.rows.length:Int)then
 (E.pc n_types_resolve [[v0],[at_ (rowsAt v1.rows v3.toNat) 1,at_ (rowsAt v1.rows v3.toNat) 2,at_ (rowsAt v1.rows v3.toNat) 3,at_ (rowsAt v1.rows v3.toNat) 4,at_ (rowsAt v1.rows v3.toNat) 5,at_ (rowsAt v1.rows v3.toNat) 6]]).bind fun y8=>
 if (((at_ (rowsAt y8 1) 0).toI) !=0)=true then
 some (1,[.r [.int ((at_ (rowsAt y8 1) 0).toI)]])
 else
 X v0 v1 v2 (Go.IntKind.i64.wrap (v3+1))
 else none
 else
 some (0,[])
theorem types_Check_s2 (E:Env) (X:List PV→Option (Nat×List PV)) (v0:C) (v1:C) (v2:Int) (v3:Int):stepOf E types_Check_c2 types_Check_h2 types_Check_o2 X [.r [v0], .r [v1], .r [.int v2], .r [.int v3]]=types_Check_b2 E (fun (v0:C) (v1:C) (v2:Int) (v3:Int)=>X [.r [v0], .r [v1], .r [.int v2], .r [.int v3]]) v0 v1 v2 v3:=by kernel_rfl
def types_Check_a:AFun:={ps:=[(.one (.sl 64))],rs:=[lI],res:=[(false,2,none)],body:=(.seq (.region [] [oq 2 (.mov (.c lI [.int 0]))] false 0)
 (.seq (.seq (.region [] [oq 12 (.mov (.t 0)),
 oq 13 (.lenL (.t 12)),
 oq 14 (.icmp .gtr (.t 13) (.c lI [.int 24]))] false 0)
 (.cond (.t 14) (.seq (.region [] [oq 2 (.mov (.c lI [.int 2]))] false 0)
 .ret)
 .skip))
 (.seq (.seq (.region [] [oq 15 (.mov (.t 0)),
 oq 16 (.lenL (.t 15)),
 oq 17 (.mov (.c lI [.int 0]))] false 0)
 (.block 0 (.loop types_Check_h0 types_Check_o0 types_Check_c0)))
 (.seq (.seq (.region [] [oq 33 (.mov (.t 0)),
 oq 34 (.lenL (.t 33)),
 oq 35 (.mov (.c lI [.int 0]))] false 0)
 (.block 2 (.loop types_Check_h1 types_Check_o1 types_Check_c1)))
 (.seq (.seq (.region [] [oq 47 (.mov (.t 0)),
 oq 48 (.lenL (.t 47)),
 oq 49 (.mov (.c lI [.int 0]))] false 0)
 (.block 4 (.loop types_Check_h2 types_Check_o2 types_Check_c2)))
 (.seq (.region [] [oq 2 (.mov (.c lI [.int 0]))] false 0)
 .ret))))))}
noncomputable def types_Check (E:Env) (p0:C):Option (List Row):=
 if (decide ((p0.rows.length:Int)>24))=true then
  some [[.int 2]]
 else
  (types_Check_l0 E p0 p0 (p0.rows.length:Int) 0).bind fun x3=>
   match x3.1 with
   |0=>
    (types_Check_l1 E (gC 0 x3.2) (gC 0 x3.2) (((gC 0 x3.2).rows).length:Int) 0).bind fun x6=>
     match x6.1 with
     |0=>
      (types_Check_l2 E (gC 0 x6.2) (gC 0 x6.2) (((gC 0 x6.2).rows).length:Int) 0).bind fun x9=>
       match x9.1 with
       |0=>
        some [[.int 0]]
       |i10+1=>
        some [[.int (gI 0 x9.2)]]
     |i7+1=>
      some [[.int (gI 0 x6.2)]]
   |i4+1=>
    some [[.int (gI 0 x3.2)]]
theorem types_Check_eq (E:Env) (p0:C):runP E types_Check_a [[p0]]=types_Check E p0:=by kernel_rfl
def types_Right_a:AFun:={ps:=[(.one (.sl 64)),lA1],rs:=[lI],res:=[(false,4,none)],body:=(.seq (.region [] [oq 3 (.boxP lA1 26 (.t 1)),
 oq 4 (.mov (.c lI [.int 0]))] false 0)
 (.seq (.seq (.region [] [oq 6 (.mov (.t 0)),
 oq 7 (.call 19 [(.one (.sl 64))] [lI] [(.t 6)]),
 oq 5 (.mov (.t 7))] false 0)
 (.seq (.region [] [oq 8 (.mov (.t 5)),
 oq 9 (.icmp .neq (.t 8) (.c lI [.int 0]))] false 0)
 (.cond (.t 9) (.seq (.region [] [oq 10 (.mov (.t 5)),
 oq 4 (.mov (.t 10))] false 0)
 .ret)
 .skip)))
 (.seq (.region [] [oq 11 (.mov (.t 0)),
 oq 12 (.ld lA1 26 (.t 3)),
 oq 13 (.call 22 [(.one (.sl 64)),lA1] [lI] [(.t 11),(.t 12)]),
 oq 4 (.mov (.t 13))] false 0)
 .ret)))}
noncomputable def types_Right (E:Env) (p0:C) (p1:Row):Option (List Row):=
 (E.pc n_types_Check [[p0]]).bind fun y1=>
 if (((at_ (rowsAt y1 0) 0).toI) !=0)=true then
 some [[.int ((at_ (rowsAt y1 0) 0).toI)]]
 else
 (E.pc n_types_right [[p0],p1]).bind fun y2=>
 some [[.int ((at_ (rowsAt y2 0) 0).toI)]]
theorem types_Right_eq (E:Env) (p0:C) (p1:Row):runP E types_Right_a [[p0],p1]=types_Right E p0 p1:=by kernel_rfl
def lens_Size_h0:Shape:={slots:=[(3, .d lI),(7, .d (.one (.sl 44))),(8, .d lI),(9, .d lI)],objs:=[]}
def lens_Size_o0:List (Exit'×Shape):=[(.exit 0,{slots:=[(3, .d lI)],objs:=[]})]
def lens_Size_c0:ACode:=(.seq (.region [] [oq 10 (.icmp .lss (.t 9) (.t 8))] false 0)
 (.seq (.cond (.t 10) .skip
 (.exit 0))
 (.seq (.block 1 (.seq (.region [] [oq 11 (.iad 44 lA6 (.t 7) (.t 9)),
 oq 12 (.ld lA6 44 (.t 11)),
 oq 5 (.allocO 0 lA6 [.int 0, .str [], .str [], .nils, .int 0, .int 0, .int 0, .int 0, .int 0, .int 0, .str [], .nils, .nils, .nils]),
 ⟨none, .st lA6 (.t 5) (.t 12),none,[]⟩] false 1)
 (.region [] [oq 13 (.mov (.t 3)),
 oq 14 (.ld lA6 44 (.t 5)),
 oq 15 (.call 32 [lA6] [lI] [(.t 14)]),
 oq 16 (.ibin .add (.t 13) (.t 15)),
 oq 3 (.mov (.t 16))] false 0)))
 (.region [] [oq 17 (.ibin .add (.t 9) (.c lI [.int 1])),
 oq 9 (.mov (.t 17))] false 0))))
def lens_Size_a:AFun:={ps:=[lA6],rs:=[lI],res:=[(false,2,none)],body:=(.seq (.region [] [oq 1 (.boxP lA6 44 (.t 0)),
 oq 2 (.mov (.c lI [.int 0]))] false 0)
 (.seq (.region [] [oq 3 (.mov (.c lI [.int 1]))] false 0)
 (.seq (.seq (.region [] [oq 6 (.fad 13 1 44 42 (.t 1)),
 oq 7 (.ld (.one (.sl 44)) 42 (.t 6)),
 oq 8 (.lenL (.t 7)),
 oq 9 (.mov (.c lI [.int 0]))] false 0)
 (.block 0 (.loop lens_Size_h0 lens_Size_o0 lens_Size_c0)))
 (.seq (.region [] [oq 18 (.mov (.t 3)),
 oq 2 (.mov (.t 18))] false 0)
 .ret))))}
def lens_Deep_h0:Shape:={slots:=[(3, .d lI),(7, .d (.one (.sl 44))),(8, .d lI),(9, .d lI)],objs:=[]}
def lens_Deep_o0:List (Exit'×Shape):=[(.exit 0,{slots:=[(3, .d lI)],objs:=[]})]
def lens_Deep_c0:ACode:=(.seq (.region [] [oq 10 (.icmp .lss (.t 9) (.t 8))] false 0)
 (.seq (.cond (.t 10) .skip
 (.exit 0))
 (.seq (.block 1 (.seq (.region [] [oq 11 (.iad 44 lA6 (.t 7) (.t 9)),
 oq 12 (.ld lA6 44 (.t 11)),
 oq 5 (.allocO 0 lA6 [.int 0, .str [], .str [], .nils, .int 0, .int 0, .int 0, .int 0, .int 0, .int 0, .str [], .nils, .nils, .nils]),
 ⟨none, .st lA6 (.t 5) (.t 12),none,[]⟩] false 1)
 (.region [] [oq 13 (.mov (.t 3)),
 oq 14 (.ld lA6 44 (.t 5)),
 oq 15 (.call 33 [lA6] [lI] [(.t 14)]),
 oq 16 (.imin true [(.t 13),(.t 15)]),
 oq 3 (.mov (.t 16))] false 0)))
 (.region [] [oq 17 (.ibin .add (.t 9) (.c lI [.int 1])),
 oq 9 (.mov (.t 17))] false 0))))
def lens_Deep_a:AFun:={ps:=[lA6],rs:=[lI],res:=[(false,2,none)],body:=(.seq (.region [] [oq 1 (.boxP lA6 44 (.t 0)),
 oq 2 (.mov (.c lI [.int 0]))] false 0)
 (.seq (.region [] [oq 3 (.mov (.c lI [.int 0]))] false 0)
 (.seq (.seq (.region [] [oq 6 (.fad 13 1 44 42 (.t 1)),
 oq 7 (.ld (.one (.sl 44)) 42 (.t 6)),
 oq 8 (.lenL (.t 7)),
 oq 9 (.mov (.c lI [.int 0]))] false 0)
 (.block 0 (.loop lens_Deep_h0 lens_Deep_o0 lens_Deep_c0)))
 (.seq (.region [] [oq 18 (.mov (.t 3)),
 oq 19 (.ibin .add (.t 18) (.c lI [.int 1])),
 oq 2 (.mov (.t 19))] false 0)
 .ret))))}
def value_Size_h0:Shape:={slots:=[(3, .d lI),(7, .d (.one (.sl 59))),(8, .d lI),(9, .d lI)],objs:=[]}
def value_Size_o0:List (Exit'×Shape):=[(.exit 0,{slots:=[(3, .d lI)],objs:=[]})]
def value_Size_c0:ACode:=(.seq (.region [] [oq 10 (.icmp .lss (.t 9) (.t 8))] false 0)
 (.seq (.cond (.t 10) .skip
 (.exit 0))
 (.seq (.block 1 (.seq (.region [] [oq 11 (.iad 59 lA7 (.t 7) (.t 9)),
 oq 12 (.ld lA7 59 (.t 11)),
 oq 5 (.allocO 0 lA7 [.str [], .int 0, .int 0, .str [], .nils]),
 ⟨none, .st lA7 (.t 5) (.t 12),none,[]⟩] false 1)
 (.region [] [oq 13 (.mov (.t 3)),
 oq 14 (.fad 1 4 59 29 (.t 5)),
 oq 15 (.ld lA8 29 (.t 14)),
 oq 16 (.call 16 [lA8] [lI] [(.t 15)]),
 oq 17 (.ibin .add (.t 13) (.t 16)),
 oq 3 (.mov (.t 17))] false 0)))
 (.region [] [oq 18 (.ibin .add (.t 9) (.c lI [.int 1])),
 oq 9 (.mov (.t 18))] false 0))))
noncomputable def value_Size_l0 (E:Env) (v0:Int) (v1:C) (v2:Int) (v3:Int):Option (Nat×List PV):=E.fix (stepOf E value_Size_c0 value_Size_h0 value_Size_o0) [.r [.int v0], .r [v1], .r [.int v2], .r [.int v3]]
noncomputable def value_Size_b0 (E:Env) (X:Int→C→Int→Int→Option (Nat×List PV)) (v0:Int) (v1:C) (v2:Int) (v3:Int):Option (Nat×List PV):=
 if (decide (v3<v2))=true then
 if (0:Int)≤v3∧v3<(v1.rows.length:Int)then
 (E.pc n_value_Size [[at_ (rowsAt v1.rows v3.toNat) 1,at_ (rowsAt v1.rows v3.toNat) 2,at_ (rowsAt v1.rows v3.toNat) 3,at_ (rowsAt v1.rows v3.toNat) 4]]).bind fun y1=>
 X (Go.IntKind.i64.wrap (v0+((at_ (rowsAt y1 0) 0).toI))) v1 v2 (Go.IntKind.i64.wrap (v3+1))
 else none
 else
 some (0,[.r [.int v0]])
theorem value_Size_s0 (E:Env) (X:List PV→Option (Nat×List PV)) (v0:Int) (v1:C) (v2:Int) (v3:Int):stepOf E value_Size_c0 value_Size_h0 value_Size_o0 X [.r [.int v0], .r [v1], .r [.int v2], .r [.int v3]]=value_Size_b0 E (fun (v0:Int) (v1:C) (v2:Int) (v3:Int)=>X [.r [.int v0], .r [v1], .r [.int v2], .r [.int v3]]) v0 v1 v2 v3:=by kernel_rfl
def value_Size_a:AFun:={ps:=[lA8],rs:=[lI],res:=[(false,2,none)],body:=(.seq (.region [] [oq 1 (.boxP lA8 29 (.t 0)),
 oq 2 (.mov (.c lI [.int 0]))] false 0)
 (.seq (.region [] [oq 3 (.mov (.c lI [.int 1]))] false 0)
 (.seq (.seq (.region [] [oq 6 (.fad 3 1 29 27 (.t 1)),
 oq 7 (.ld (.one (.sl 59)) 27 (.t 6)),
 oq 8 (.lenL (.t 7)),
 oq 9 (.mov (.c lI [.int 0]))] false 0)
 (.block 0 (.loop value_Size_h0 value_Size_o0 value_Size_c0)))
 (.seq (.region [] [oq 19 (.mov (.t 3)),
 oq 2 (.mov (.t 19))] false 0)
 .ret))))}
noncomputable def value_Size (E:Env) (p0:Row):Option (List Row):=
 (value_Size_l0 E 1 (at_ p0 3) (((at_ p0 3).rows).length:Int) 0).bind fun x2=>
 some [[.int (gI 0 x2.2)]]
theorem value_Size_eq (E:Env) (p0:Row):runP E value_Size_a [p0]=value_Size E p0:=by kernel_rfl
def value_Deep_h0:Shape:={slots:=[(3, .d lI),(7, .d (.one (.sl 59))),(8, .d lI),(9, .d lI)],objs:=[]}
def value_Deep_o0:List (Exit'×Shape):=[(.exit 0,{slots:=[(3, .d lI)],objs:=[]})]
def value_Deep_c0:ACode:=(.seq (.region [] [oq 10 (.icmp .lss (.t 9) (.t 8))] false 0)
 (.seq (.cond (.t 10) .skip
 (.exit 0))
 (.seq (.block 1 (.seq (.region [] [oq 11 (.iad 59 lA7 (.t 7) (.t 9)),
 oq 12 (.ld lA7 59 (.t 11)),
 oq 5 (.allocO 0 lA7 [.str [], .int 0, .int 0, .str [], .nils]),
 ⟨none, .st lA7 (.t 5) (.t 12),none,[]⟩] false 1)
 (.region [] [oq 13 (.mov (.t 3)),
 oq 14 (.fad 1 4 59 29 (.t 5)),
 oq 15 (.ld lA8 29 (.t 14)),
 oq 16 (.call 17 [lA8] [lI] [(.t 15)]),
 oq 17 (.imin true [(.t 13),(.t 16)]),
 oq 3 (.mov (.t 17))] false 0)))
 (.region [] [oq 18 (.ibin .add (.t 9) (.c lI [.int 1])),
 oq 9 (.mov (.t 18))] false 0))))
noncomputable def value_Deep_l0 (E:Env) (v0:Int) (v1:C) (v2:Int) (v3:Int):Option (Nat×List PV):=E.fix (stepOf E value_Deep_c0 value_Deep_h0 value_Deep_o0) [.r [.int v0], .r [v1], .r [.int v2], .r [.int v3]]
noncomputable def value_Deep_b0 (E:Env) (X:Int→C→Int→Int→Option (Nat×List PV)) (v0:Int) (v1:C) (v2:Int) (v3:Int):Option (Nat×List PV):=
 if (decide (v3<v2))=true then
 if (0:Int)≤v3∧v3<(v1.rows.length:Int)then
 (E.pc n_value_Deep [[at_ (rowsAt v1.rows v3.toNat) 1,at_ (rowsAt v1.rows v3.toNat) 2,at_ (rowsAt v1.rows v3.toNat) 3,at_ (rowsAt v1.rows v3.toNat) 4]]).bind fun y1=>
 X (if ((at_ (rowsAt y1 0) 0).toI)>v0 then (at_ (rowsAt y1 0) 0).toI else v0) v1 v2 (Go.IntKind.i64.wrap (v3+1))
 else none
 else
 some (0,[.r [.int v0]])
theorem value_Deep_s0 (E:Env) (X:List PV→Option (Nat×List PV)) (v0:Int) (v1:C) (v2:Int) (v3:Int):stepOf E value_Deep_c0 value_Deep_h0 value_Deep_o0 X [.r [.int v0], .r [v1], .r [.int v2], .r [.int v3]]=value_Deep_b0 E (fun (v0:Int) (v1:C) (v2:Int) (v3:Int)=>X [.r [.int v0], .r [v1], .r [.int v2], .r [.int v3]]) v0 v1 v2 v3:=by kernel_rfl
def value_Deep_a:AFun:={ps:=[lA8],rs:=[lI],res:=[(false,2,none)],body:=(.seq (.region [] [oq 1 (.boxP lA8 29 (.t 0)),
 oq 2 (.mov (.c lI [.int 0]))] false 0)
 (.seq (.region [] [oq 3 (.mov (.c lI [.int 0]))] false 0)
 (.seq (.seq (.region [] [oq 6 (.fad 3 1 29 27 (.t 1)),
 oq 7 (.ld (.one (.sl 59)) 27 (.t 6)),
 oq 8 (.lenL (.t 7)),
 oq 9 (.mov (.c lI [.int 0]))] false 0)
 (.block 0 (.loop value_Deep_h0 value_Deep_o0 value_Deep_c0)))
 (.seq (.region [] [oq 19 (.mov (.t 3)),
 oq 20 (.ibin .add (.t 19) (.c lI [.int 1])),
 oq 2 (.mov (.t 20))] false 0)
 .ret))))}
noncomputable def value_Deep (E:Env) (p0:Row):Option (List Row):=
 (value_Deep_l0 E 0 (at_ p0 3) (((at_ p0 3).rows).length:Int) 0).bind fun x2=>
 some [[.int (Go.IntKind.i64.wrap ((gI 0 x2.2)+1))]]
theorem value_Deep_eq (E:Env) (p0:Row):runP E value_Deep_a [p0]=value_Deep E p0:=by kernel_rfl
def value_Scalar_a:AFun:={ps:=[lI],rs:=[lB],res:=[(false,2,none)],body:=(.seq (.region [] [oq 2 (.mov (.c lB [.bool false]))] false 0)
 (.seq (.region [] [oq 3 (.mov (.t 0)),
 oq 4 (.icmp .geq (.t 3) (.c lI [.int 0])),
 oq 5 (.mov (.t 4)),
 ⟨some 6, .mov (.t 0),some (5,true),[]⟩,
 ⟨some 7, .icmp .leq (.t 6) (.c lI [.int 5]),some (5,true),[]⟩,
 oq 8 (.pick (.t 5) (.t 7) (.c lB [.bool false])),
 oq 9 (.mov (.t 8)),
 ⟨some 10, .mov (.t 0),some (9,false),[]⟩,
 ⟨some 11, .icmp .eql (.t 10) (.c lI [.int 11]),some (9,false),[]⟩,
 oq 12 (.pick (.t 9) (.c lB [.bool true]) (.t 11)),
 oq 2 (.mov (.t 12))] false 0)
 .ret))}
noncomputable def value_Scalar (E:Env) (p0:Int):Option (List Row):=
 let K1:Bool→Option (List Row):=fun q2=>
 let K3:Bool→Option (List Row):=fun q4=>
 some [[.bool q4]]
 if q2=true then
 K3 true
 else
 K3 (p0==11)
 if (decide (p0≥0))=true then
 K1 (decide (p0≤5))
 else
 K1 false
theorem value_Scalar_eq (E:Env) (p0:Int):runP E value_Scalar_a [[.int p0]]=value_Scalar E p0:=by kernel_rfl
def value_unused_a:AFun:={ps:=[lA8],rs:=[lB],res:=[(false,2,none)],body:=(.seq (.region [] [oq 1 (.boxP lA8 29 (.t 0)),
 oq 2 (.mov (.c lB [.bool false]))] false 0)
 (.seq (.join [(.normal,{slots:=[(1, .d (.one (.ref 29))),(3, .d lB)],objs:=[]})] (.region [] [oq 4 (.fad 0 1 29 3 (.t 1)),
 oq 5 (.ld lI 3 (.t 4)),
 oq 6 (.icmp .geq (.t 5) (.c lI [.int 1])),
 oq 7 (.mov (.t 6)),
 ⟨some 8, .fad 0 1 29 3 (.t 1),some (7,true),[]⟩,
 ⟨some 9, .ld lI 3 (.t 8),some (7,true),[]⟩,
 ⟨some 10, .icmp .leq (.t 9) (.c lI [.int 4]),some (7,true),[]⟩,
 oq 11 (.pick (.t 7) (.t 10) (.c lB [.bool false])),
 oq 12 (.mov (.t 11)),
 ⟨some 13, .fad 0 1 29 3 (.t 1),some (12,false),[]⟩,
 ⟨some 14, .ld lI 3 (.t 13),some (12,false),[]⟩,
 ⟨some 15, .icmp .eql (.t 14) (.c lI [.int 11]),some (12,false),[]⟩,
 oq 16 (.pick (.t 12) (.c lB [.bool true]) (.t 15)),
 oq 3 (.mov (.t 16))] false 0))
 (.seq (.region [] [oq 17 (.mov (.t 3)),
 oq 18 (.not (.t 17)),
 oq 19 (.mov (.t 18)),
 ⟨some 20, .fad 1 1 29 3 (.t 1),some (19,true),[]⟩,
 ⟨some 21, .ld lI 3 (.t 20),some (19,true),[]⟩,
 ⟨some 22, .icmp .neq (.t 21) (.c lI [.int 0]),some (19,true),[]⟩,
 oq 23 (.pick (.t 19) (.t 22) (.c lB [.bool false])),
 oq 24 (.mov (.t 23)),
 ⟨some 25, .fad 0 1 29 3 (.t 1),some (24,false),[]⟩,
 ⟨some 26, .ld lI 3 (.t 25),some (24,false),[]⟩,
 ⟨some 27, .icmp .neq (.t 26) (.c lI [.int 5]),some (24,false),[]⟩,
 ⟨some 28, .mov (.t 27),some (24,false),[]⟩,
 ⟨some 29, .fad 2 1 29 9 (.t 1),some (28,true),[]⟩,
 ⟨some 30, .ld lS 9 (.t 29),some (28,true),[]⟩,
 ⟨some 31, .scmp .neq (.t 30) (.c lS [.str ([]:List UInt8)]),some (28,true),[]⟩,
 ⟨some 32, .pick (.t 28) (.t 31) (.c lB [.bool false]),some (24,false),[]⟩,
 oq 33 (.pick (.t 24) (.c lB [.bool true]) (.t 32)),
 oq 34 (.mov (.t 33)),
 ⟨some 35, .fad 0 1 29 3 (.t 1),some (34,false),[]⟩,
 ⟨some 36, .ld lI 3 (.t 35),some (34,false),[]⟩,
 ⟨some 37, .call 55 [lI] [lB] [(.t 36)],some (34,false),[]⟩,
 ⟨some 38, .mov (.t 37),some (34,false),[]⟩,
 ⟨some 39, .fad 3 1 29 27 (.t 1),some (38,true),[]⟩,
 ⟨some 40, .ld (.one (.sl 59)) 27 (.t 39),some (38,true),[]⟩,
 ⟨some 41, .lenL (.t 40),some (38,true),[]⟩,
 ⟨some 42, .icmp .gtr (.t 41) (.c lI [.int 0]),some (38,true),[]⟩,
 ⟨some 43, .pick (.t 38) (.t 42) (.c lB [.bool false]),some (34,false),[]⟩,
 oq 44 (.pick (.t 34) (.c lB [.bool true]) (.t 43)),
 oq 2 (.mov (.t 44))] false 0)
 .ret)))}
noncomputable def value_unused (E:Env) (p0:Row):Option (List Row):=
 (let K1:Bool→Option (Nat×List PV):=fun q2=>
 let K3:Bool→Option (Nat×List PV):=fun q4=>
 some (0,[.r [.dp p0], .r [.bool q4]])
 if q2=true then
 K3 true
 else
 K3 (((at_ p0 0).toI)==11)
 if (decide (((at_ p0 0).toI)≥1))=true then
 K1 (decide (((at_ p0 0).toI)≤4))
 else
 K1 false).bind fun x5=>
 let K6:Bool→Option (List Row):=fun q7=>
 let K8:Bool→Option (List Row):=fun q9=>
 let K10:Bool→Option (List Row):=fun q11=>
 some [[.bool q11]]
 if q9=true then
 K10 true
 else
 if (gC 0 x5.2).isDp=true then
 (E.pc n_value_Scalar [[.int ((at_ ((gC 0 x5.2).dpRow) 0).toI)]]).bind fun y12=>
 let K13:Bool→Option (List Row):=fun q14=>
 K10 q14
 if ((at_ (rowsAt y12 0) 0).toB)=true then
 if (gC 0 x5.2).isDp=true then
 K13 (decide ((((at_ ((gC 0 x5.2).dpRow) 3).rows).length:Int)>0))
 else none
 else
 K13 false
 else none
 if q7=true then
 K8 true
 else
 if (gC 0 x5.2).isDp=true then
 let K15:Bool→Option (List Row):=fun q16=>
 K8 q16
 if (((at_ ((gC 0 x5.2).dpRow) 0).toI) !=5)=true then
 if (gC 0 x5.2).isDp=true then
 K15 (!(((at_ ((gC 0 x5.2).dpRow) 2).toS)==([]:List UInt8)))
 else none
 else
 K15 false
 else none
 if (!(gB 1 x5.2))=true then
 if (gC 0 x5.2).isDp=true then
 K6 (((at_ ((gC 0 x5.2).dpRow) 1).toI) !=0)
 else none
 else
 K6 false
theorem value_unused_eq (E:Env) (p0:Row):runP E value_unused_a [p0]=value_unused E p0:=by kernel_rfl
def value_number_a:AFun:={ps:=[lA8],rs:=[lB],res:=[(false,2,none)],body:=(.seq (.region [] [oq 1 (.boxP lA8 29 (.t 0)),
 oq 2 (.mov (.c lB [.bool false]))] false 0)
 (.seq (.seq (.region [] [oq 3 (.fad 0 1 29 3 (.t 1)),
 oq 4 (.ld lI 3 (.t 3))] false 0)
 (.block 0 (.seq (.region [] [oq 6 (.icmp .eql (.t 4) (.c lI [.int 1])),
 oq 5 (.mov (.t 6))] false 0)
 (.cond (.t 5) (.seq (.region [] [oq 7 (.fad 1 1 29 3 (.t 1)),
 oq 8 (.ld lI 3 (.t 7)),
 oq 9 (.icmp .eql (.t 8) (.c lI [.int 0])),
 oq 10 (.mov (.t 9)),
 ⟨some 11, .fad 1 1 29 3 (.t 1),some (10,false),[]⟩,
 ⟨some 12, .ld lI 3 (.t 11),some (10,false),[]⟩,
 ⟨some 13, .icmp .eql (.t 12) (.c lI [.int 1]),some (10,false),[]⟩,
 oq 14 (.pick (.t 10) (.c lB [.bool true]) (.t 13)),
 oq 2 (.mov (.t 14))] false 0)
 .ret)
 (.seq (.region [] [oq 16 (.icmp .eql (.t 4) (.c lI [.int 2])),
 oq 15 (.mov (.t 16))] false 0)
 (.cond (.t 15) (.seq (.region [] [oq 17 (.fad 1 1 29 3 (.t 1)),
 oq 18 (.ld lI 3 (.t 17)),
 oq 19 (.icmp .geq (.t 18) (.c lI [.int (-9007199254740992)])),
 oq 20 (.mov (.t 19)),
 ⟨some 21, .fad 1 1 29 3 (.t 1),some (20,true),[]⟩,
 ⟨some 22, .ld lI 3 (.t 21),some (20,true),[]⟩,
 ⟨some 23, .icmp .leq (.t 22) (.c lI [.int 9007199254740992]),some (20,true),[]⟩,
 oq 24 (.pick (.t 20) (.t 23) (.c lB [.bool false])),
 oq 2 (.mov (.t 24))] false 0)
 .ret)
 (.seq (.region [] [oq 26 (.icmp .eql (.t 4) (.c lI [.int 4])),
 oq 25 (.mov (.t 26))] false 0)
 (.cond (.t 25) (.seq (.region [] [oq 27 (.fad 1 1 29 3 (.t 1)),
 oq 28 (.ld lI 3 (.t 27)),
 oq 29 (.icmp .geq (.t 28) (.c lI [.int 0])),
 oq 30 (.mov (.t 29)),
 ⟨some 31, .fad 1 1 29 3 (.t 1),some (30,true),[]⟩,
 ⟨some 32, .ld lI 3 (.t 31),some (30,true),[]⟩,
 ⟨some 33, .icmp .leq (.t 32) (.c lI [.int 4194304]),some (30,true),[]⟩,
 oq 34 (.pick (.t 30) (.t 33) (.c lB [.bool false])),
 oq 2 (.mov (.t 34))] false 0)
 .ret)
 (.seq (.region [] [oq 36 (.icmp .eql (.t 4) (.c lI [.int 11])),
 oq 35 (.mov (.t 36))] false 0)
 (.cond (.t 35) (.seq (.region [] [oq 37 (.fad 1 1 29 3 (.t 1)),
 oq 38 (.ld lI 3 (.t 37)),
 oq 39 (.icmp .geq (.t 38) (.c lI [.int 0])),
 oq 40 (.mov (.t 39)),
 ⟨some 41, .fad 1 1 29 3 (.t 1),some (40,true),[]⟩,
 ⟨some 42, .ld lI 3 (.t 41),some (40,true),[]⟩,
 ⟨some 43, .icmp .leq (.t 42) (.c lI [.int 9007199254740992]),some (40,true),[]⟩,
 oq 44 (.pick (.t 40) (.t 43) (.c lB [.bool false])),
 oq 2 (.mov (.t 44))] false 0)
 .ret)
 .skip))))))))))
 (.seq (.region [] [oq 2 (.mov (.c lB [.bool true]))] false 0)
 .ret)))}
noncomputable def value_number (E:Env) (p0:Row):Option (List Row):=
 if (((at_ p0 0).toI)==1)=true then
 let K1:Bool→Option (List Row):=fun q2=>
 some [[.bool q2]]
 if (((at_ p0 1).toI)==0)=true then
 K1 true
 else
 K1 (((at_ p0 1).toI)==1)
 else
 if (((at_ p0 0).toI)==2)=true then
 let K3:Bool→Option (List Row):=fun q4=>
 some [[.bool q4]]
 if (decide (((at_ p0 1).toI)≥(-9007199254740992)))=true then
 K3 (decide (((at_ p0 1).toI)≤9007199254740992))
 else
 K3 false
 else
 if (((at_ p0 0).toI)==4)=true then
 let K5:Bool→Option (List Row):=fun q6=>
 some [[.bool q6]]
 if (decide (((at_ p0 1).toI)≥0))=true then
 K5 (decide (((at_ p0 1).toI)≤4194304))
 else
 K5 false
 else
 if (((at_ p0 0).toI)==11)=true then
 let K7:Bool→Option (List Row):=fun q8=>
 some [[.bool q8]]
 if (decide (((at_ p0 1).toI)≥0))=true then
 K7 (decide (((at_ p0 1).toI)≤9007199254740992))
 else
 K7 false
 else
 some [[.bool true]]
theorem value_number_eq (E:Env) (p0:Row):runP E value_number_a [p0]=value_number E p0:=by kernel_rfl
def slices_IndexFunc_api_Field_h0:Shape:={slots:=[(0, .d (.one (.sl 59))),(1, .d (.one (.fn 76))),(7, .d lI),(8, .d lI)],objs:=[]}
def slices_IndexFunc_api_Field_o0:List (Exit'×Shape):=[(.exit 0,{slots:=[],objs:=[]}),(.ret,{slots:=[(4, .d lI)],objs:=[]})]
def slices_IndexFunc_api_Field_c0:ACode:=(.seq (.region [] [oq 9 (.icmp .lss (.t 8) (.t 7))] false 0)
 (.seq (.cond (.t 9) .skip
 (.exit 0))
 (.seq (.block 1 (.seq (.region [] [oq 10 (.mov (.t 8)),
 oq 5 (.mov (.t 10))] false 0)
 (.seq (.region [] [oq 11 (.mov (.t 1)),
 oq 12 (.mov (.t 0)),
 oq 13 (.mov (.t 5)),
 oq 14 (.iad 59 lA7 (.t 12) (.t 13)),
 oq 15 (.ld lA7 59 (.t 14)),
 oq 16 (.callv 76 [lA7] [lB] (.t 11) [(.t 15)])] false 0)
 (.cond (.t 16) (.seq (.region [] [oq 17 (.mov (.t 5)),
 oq 4 (.mov (.t 17))] false 0)
 .ret)
 .skip))))
 (.region [] [oq 18 (.ibin .add (.t 8) (.c lI [.int 1])),
 oq 8 (.mov (.t 18))] false 0))))
noncomputable def slices_IndexFunc_api_Field_l0 (E:Env) (v0:C) (v1:C) (v2:Int) (v3:Int):Option (Nat×List PV):=E.fix (stepOf E slices_IndexFunc_api_Field_c0 slices_IndexFunc_api_Field_h0 slices_IndexFunc_api_Field_o0) [.r [v0], .r [v1], .r [.int v2], .r [.int v3]]
noncomputable def slices_IndexFunc_api_Field_b0 (E:Env) (X:C→C→Int→Int→Option (Nat×List PV)) (v0:C) (v1:C) (v2:Int) (v3:Int):Option (Nat×List PV):=
 if (decide (v3<v2))=true then
 if (0:Int)≤v3∧v3<(v0.rows.length:Int)then
 (callC E v1 [rowsAt v0.rows v3.toNat]).bind fun y1=>
 if ((at_ (rowsAt y1 0) 0).toB)=true then
 some (1,[.r [.int v3]])
 else
 X v0 v1 v2 (Go.IntKind.i64.wrap (v3+1))
 else none
 else
 some (0,[])
theorem slices_IndexFunc_api_Field_s0 (E:Env) (X:List PV→Option (Nat×List PV)) (v0:C) (v1:C) (v2:Int) (v3:Int):stepOf E slices_IndexFunc_api_Field_c0 slices_IndexFunc_api_Field_h0 slices_IndexFunc_api_Field_o0 X [.r [v0], .r [v1], .r [.int v2], .r [.int v3]]=slices_IndexFunc_api_Field_b0 E (fun (v0:C) (v1:C) (v2:Int) (v3:Int)=>X [.r [v0], .r [v1], .r [.int v2], .r [.int v3]]) v0 v1 v2 v3:=by kernel_rfl
def slices_IndexFunc_api_Field_a:AFun:={ps:=[(.one (.sl 59)),(.one (.fn 76))],rs:=[lI],res:=[(false,4,none)],body:=(.seq (.region [] [oq 4 (.mov (.c lI [.int 0]))] false 0)
 (.seq (.seq (.region [] [oq 6 (.mov (.t 0)),
 oq 7 (.lenL (.t 6)),
 oq 8 (.mov (.c lI [.int 0]))] false 0)
 (.block 0 (.loop slices_IndexFunc_api_Field_h0 slices_IndexFunc_api_Field_o0 slices_IndexFunc_api_Field_c0)))
 (.seq (.region [] [oq 4 (.mov (.c lI [.int (-1)]))] false 0)
 .ret)))}
noncomputable def slices_IndexFunc_api_Field (E:Env) (p0:C) (p1:C):Option (List Row):=
 (slices_IndexFunc_api_Field_l0 E p0 p1 (p0.rows.length:Int) 0).bind fun x2=>
 match x2.1 with
 |0=>
 some [[.int (-1)]]
 |i3+1=>
 some [[.int (gI 0 x2.2)]]
theorem slices_IndexFunc_api_Field_eq (E:Env) (p0:C) (p1:C):runP E slices_IndexFunc_api_Field_a [[p0],[p1]]=slices_IndexFunc_api_Field E p0 p1:=by kernel_rfl
def slices_ContainsFunc_api_Field_a:AFun:={ps:=[(.one (.sl 59)),(.one (.fn 76))],rs:=[lB],res:=[(false,4,none)],body:=(.seq (.region [] [oq 4 (.mov (.c lB [.bool false]))] false 0)
 (.seq (.region [] [oq 5 (.mov (.t 0)),
 oq 6 (.mov (.t 1)),
 oq 7 (.call 77 [(.one (.sl 59)),(.one (.fn 76))] [lI] [(.t 5),(.t 6)]),
 oq 8 (.icmp .geq (.t 7) (.c lI [.int 0])),
 oq 4 (.mov (.t 8))] false 0)
 .ret))}
noncomputable def slices_ContainsFunc_api_Field (E:Env) (p0:C) (p1:C):Option (List Row):=
 (E.pc n_slices_IndexFunc_api_Field [[p0],[p1]]).bind fun y1=>
 some [[.bool (decide (((at_ (rowsAt y1 0) 0).toI)≥0))]]
theorem slices_ContainsFunc_api_Field_eq (E:Env) (p0:C) (p1:C):runP E slices_ContainsFunc_api_Field_a [[p0],[p1]]=slices_ContainsFunc_api_Field E p0 p1:=by kernel_rfl
def value_names_1_a:AFun:={ps:=[lA7,(.one (.ref 59))],rs:=[lB],res:=[(false,3,none)],body:=(.seq (.region [] [oq 2 (.boxP lA7 59 (.t 0)),
 oq 3 (.mov (.c lB [.bool false]))] false 0)
 (.seq (.region [] [oq 4 (.fad 0 1 59 9 (.t 2)),
 oq 5 (.ld lS 9 (.t 4)),
 oq 6 (.fad 0 1 59 9 (.t 1)),
 oq 7 (.ld lS 9 (.t 6)),
 oq 8 (.scmp .eql (.t 5) (.t 7)),
 oq 3 (.mov (.t 8))] false 0)
 .ret))}
noncomputable def value_names_1 (E:Env) (p0:Row) (p1:C):Option (List Row):=
 if p1.isDp=true then
 some [[.bool (((at_ p0 0).toS)==((at_ p1.dpRow 0).toS))]]
 else none
theorem value_names_1_eq (E:Env) (p0:Row) (p1:C):runP E value_names_1_a [p0,[p1]]=value_names_1 E p0 p1:=by kernel_rfl
def value_names_h0:Shape:={slots:=[(0, .d (.one (.sl 59))),(5, .d (.one (.sl 59))),(6, .d lI),(7, .d lI)],objs:=[]}
def value_names_o0:List (Exit'×Shape):=[(.exit 0,{slots:=[],objs:=[]}),(.ret,{slots:=[(2, .d lI)],objs:=[]})]
def value_names_c0:ACode:=(.seq (.region [] [oq 8 (.icmp .lss (.t 7) (.t 6))] false 0)
 (.seq (.cond (.t 8) .skip
 (.exit 0))
 (.seq (.block 1 (.seq (.region [] [oq 9 (.mov (.t 7)),
 oq 10 (.iad 59 lA7 (.t 5) (.t 7)),
 oq 11 (.ld lA7 59 (.t 10)),
 oq 4 (.allocO 0 lA7 [.str [], .int 0, .int 0, .str [], .nils]),
 oq 3 (.mov (.t 9)),
 ⟨none, .st lA7 (.t 4) (.t 11),none,[]⟩] false 1)
 (.seq (.seq (.region [] [oq 12 (.fad 0 1 59 9 (.t 4)),
 oq 13 (.ld lS 9 (.t 12)),
 oq 14 (.call 30 [lS] [lB] [(.t 13)]),
 oq 15 (.not (.t 14))] false 0)
 (.cond (.t 15) (.seq (.region [] [oq 2 (.mov (.c lI [.int 15]))] false 0)
 .ret)
 .skip))
 (.seq (.region [(4,59,some lA7)] [oq 16 (.mov (.t 0)),
 oq 17 (.mov (.t 3)),
 oq 18 (.slc 59 lA7 (.t 16) none (some (.t 17))),
 oq 19 (.mkf 80 76 [.ref 59] [(.t 4)]),
 oq 20 (.call 49 [(.one (.sl 59)),(.one (.fn 76))] [lB] [(.t 18),(.t 19)])] false 0)
 (.cond (.t 20) (.seq (.region [] [oq 2 (.mov (.c lI [.int 5]))] false 0)
 .ret)
 .skip)))))
 (.region [] [oq 21 (.ibin .add (.t 7) (.c lI [.int 1])),
 oq 7 (.mov (.t 21))] false 0))))
noncomputable def value_names_l0 (E:Env) (v0:C) (v1:C) (v2:Int) (v3:Int):Option (Nat×List PV):=E.fix (stepOf E value_names_c0 value_names_h0 value_names_o0) [.r [v0], .r [v1], .r [.int v2], .r [.int v3]]
noncomputable def value_names_b0 (E:Env) (X:C→C→Int→Int→Option (Nat×List PV)) (v0:C) (v1:C) (v2:Int) (v3:Int):Option (Nat×List PV):=
 if (decide (v3<v2))=true then
 if (0:Int)≤v3∧v3<(v1.rows.length:Int)then
 (E.pc n_value_Name [[.str ((at_ (rowsAt v1.rows v3.toNat) 0).toS)]]).bind fun y1=>
 if (!((at_ (rowsAt y1 0) 0).toB))=true then
 some (1,[.r [.int 15]])
 else
 if (0:Int)≤0∧0≤v3∧v3≤(v0.rows.length:Int)then
 (E.pc n_slices_ContainsFunc_api_Field [[slcC v0 0 v3],[.fn n_value_names_1 [.dp (rowsAt v1.rows v3.toNat)]]]).bind fun y2=>
 if ((at_ (rowsAt y2 0) 0).toB)=true then
 some (1,[.r [.int 5]])
 else
 X v0 v1 v2 (Go.IntKind.i64.wrap (v3+1))
 else none
 else none
 else
 some (0,[])
theorem value_names_s0 (E:Env) (X:List PV→Option (Nat×List PV)) (v0:C) (v1:C) (v2:Int) (v3:Int):stepOf E value_names_c0 value_names_h0 value_names_o0 X [.r [v0], .r [v1], .r [.int v2], .r [.int v3]]=value_names_b0 E (fun (v0:C) (v1:C) (v2:Int) (v3:Int)=>X [.r [v0], .r [v1], .r [.int v2], .r [.int v3]]) v0 v1 v2 v3:=by kernel_rfl
def value_names_a:AFun:={ps:=[(.one (.sl 59))],rs:=[lI],res:=[(false,2,none)],body:=(.seq (.region [] [oq 2 (.mov (.c lI [.int 0]))] false 0)
 (.seq (.seq (.region [] [oq 5 (.mov (.t 0)),
 oq 6 (.lenL (.t 5)),
 oq 7 (.mov (.c lI [.int 0]))] false 0)
 (.block 0 (.loop value_names_h0 value_names_o0 value_names_c0)))
 (.seq (.region [] [oq 2 (.mov (.c lI [.int 0]))] false 0)
 .ret)))}
noncomputable def value_names (E:Env) (p0:C):Option (List Row):=
 (value_names_l0 E p0 p0 (p0.rows.length:Int) 0).bind fun x3=>
 match x3.1 with
 |0=>
 some [[.int 0]]
 |i4+1=>
 some [[.int (gI 0 x3.2)]]
theorem value_names_eq (E:Env) (p0:C):runP E value_names_a [[p0]]=value_names E p0:=by kernel_rfl
def value_keys_h0:Shape:={slots:=[(1, .d (.one (.ref 29))),(6, .d (.one (.sl 59))),(7, .d lI),(8, .d lI)],objs:=[]}
def value_keys_o0:List (Exit'×Shape):=[(.exit 0,{slots:=[],objs:=[]}),(.ret,{slots:=[(2, .d lI)],objs:=[]})]
def value_keys_c0:ACode:=(.seq (.region [] [oq 9 (.icmp .lss (.t 8) (.t 7))] false 0)
 (.seq (.cond (.t 9) .skip
 (.exit 0))
 (.seq (.join [(.normal,{slots:=[(1, .d (.one (.ref 29))),(6, .d (.one (.sl 59))),(7, .d lI),(8, .d lI)],objs:=[]}),(.ret,{slots:=[(2, .d lI)],objs:=[]})] (.block 1 (.seq (.region [] [oq 10 (.mov (.t 8)),
 oq 11 (.iad 59 lA7 (.t 6) (.t 8)),
 oq 12 (.ld lA7 59 (.t 11)),
 oq 4 (.allocO 0 lA7 [.str [], .int 0, .int 0, .str [], .nils]),
 oq 3 (.mov (.t 10)),
 ⟨none, .st lA7 (.t 4) (.t 12),none,[]⟩] false 1)
 (.block 2 (.seq (.join [(.normal,{slots:=[(1, .d (.one (.ref 29))),(3, .d lI),(4, .ptr 0 0),(6, .d (.one (.sl 59))),(7, .d lI),(8, .d lI),(13, .d lB)],objs:=[.var lA7]})] (.region [] [oq 14 (.fad 0 1 29 3 (.t 1)),
 oq 15 (.ld lI 3 (.t 14)),
 oq 16 (.icmp .eql (.t 15) (.c lI [.int 8])),
 oq 17 (.mov (.t 16)),
 ⟨some 18, .fad 0 1 59 9 (.t 4),some (17,true),[]⟩,
 ⟨some 19, .ld lS 9 (.t 18),some (17,true),[]⟩,
 ⟨some 20, .scmp .neq (.t 19) (.c lS [.str ([]:List UInt8)]),some (17,true),[]⟩,
 oq 21 (.pick (.t 17) (.t 20) (.c lB [.bool false])),
 oq 13 (.mov (.t 21))] false 0))
 (.cond (.t 13) (.seq (.region [] [oq 2 (.mov (.c lI [.int 3]))] false 0)
 .ret)
 (.seq (.region [] [oq 23 (.fad 0 1 29 3 (.t 1)),
 oq 24 (.ld lI 3 (.t 23)),
 oq 25 (.icmp .eql (.t 24) (.c lI [.int 8])),
 oq 22 (.mov (.t 25))] false 0)
 (.cond (.t 22) .skip
 (.seq (.region [] [oq 27 (.fad 0 1 59 9 (.t 4)),
 oq 28 (.ld lS 9 (.t 27)),
 oq 29 (.lenS (.t 28)),
 oq 30 (.icmp .gtr (.t 29) (.c lI [.int 4000])),
 oq 26 (.mov (.t 30))] false 0)
 (.cond (.t 26) (.seq (.region [] [oq 2 (.mov (.c lI [.int 2]))] false 0)
 .ret)
 (.seq (.region [] [oq 32 (.mov (.t 3)),
 ⟨some 33, .icmp .gtr (.t 32) (.c lI [.int 0]),none,[0]⟩,
 ⟨some 34, .mov (.t 33),none,[0,1]⟩,
 ⟨some 35, .fad 0 1 59 9 (.t 4),some (34,true),[0,1,2]⟩,
 ⟨some 36, .ld lS 9 (.t 35),some (34,true),[0,1,2,3]⟩,
 ⟨some 37, .fad 3 1 29 27 (.t 1),some (34,true),[0,1,2]⟩,
 ⟨some 38, .ld (.one (.sl 59)) 27 (.t 37),some (34,true),[0,1,2,5]⟩,
 ⟨some 39, .mov (.t 3),some (34,true),[0,1,2]⟩,
 ⟨some 40, .ibin .sub (.t 39) (.c lI [.int 1]),some (34,true),[0,1,2,7]⟩,
 ⟨some 41, .iad 59 lA7 (.t 38) (.t 40),some (34,true),[0,1,2,5,6,7,8]⟩,
 ⟨some 42, .fad 0 1 59 9 (.t 41),some (34,true),[0,1,2,5,6,7,8,9]⟩,
 ⟨some 43, .ld lS 9 (.t 42),some (34,true),[0,1,2,5,6,7,8,9,10]⟩,
 ⟨some 44, .scmp .leq (.t 36) (.t 43),some (34,true),[0,1,2,3,4,5,6,7,8,9,10,11]⟩,
 ⟨some 45, .pick (.t 34) (.t 44) (.c lB [.bool false]),none,[0,1,2,3,4,5,6,7,8,9,10,11,12]⟩,
 ⟨some 31, .mov (.t 45),none,[0,1,2,3,4,5,6,7,8,9,10,11,12,13]⟩] true 0)
 (.cond (.t 31) (.seq (.region [] [oq 2 (.mov (.c lI [.int 9]))] false 0)
 .ret)
 .skip))))))))))))
 (.region [] [oq 46 (.ibin .add (.t 8) (.c lI [.int 1])),
 oq 8 (.mov (.t 46))] false 0))))
noncomputable def value_keys_l0 (E:Env) (v0:C) (v1:C) (v2:Int) (v3:Int):Option (Nat×List PV):=E.fix (stepOf E value_keys_c0 value_keys_h0 value_keys_o0) [.r [v0], .r [v1], .r [.int v2], .r [.int v3]]
noncomputable def value_keys_b0 (E:Env) (X:C→C→Int→Int→Option (Nat×List PV)) (v0:C) (v1:C) (v2:Int) (v3:Int):Option (Nat×List PV):=
 if (decide (v3<v2))=true then
 (if (0:Int)≤v3∧v3<(v1.rows.length:Int)then
 (if v0.isDp=true then
 let K1:Bool→Option (Nat×List PV):=fun q2=>
 some (0,[.r [v0], .r [.int v3], .r [v1], .r [.int v2], .r [.int v3], .r [.bool q2], .r (rowsAt v1.rows v3.toNat)])
 if (((at_ v0.dpRow 0).toI)==8)=true then
 K1 (!(((at_ (rowsAt v1.rows v3.toNat) 0).toS)==([]:List UInt8)))
 else
 K1 false
 else none).bind fun x3=>
 if (gB 5 x3.2)=true then
 some (1,[.r [.int 3]])
 else
 if (gC 0 x3.2).isDp=true then
 if (((at_ ((gC 0 x3.2).dpRow) 0).toI)==8)=true then
 some (0,[.r [gC 0 x3.2], .r [gC 2 x3.2], .r [.int (gI 3 x3.2)], .r [.int (gI 4 x3.2)]])
 else
 if (decide (((gS 6 x3.2).length:Int)>4000))=true then
 some (1,[.r [.int 2]])
 else
 let K4:Bool→Option (Nat×List PV):=fun q5=>
 if q5=true then
 some (1,[.r [.int 9]])
 else
 some (0,[.r [gC 0 x3.2], .r [gC 2 x3.2], .r [.int (gI 3 x3.2)], .r [.int (gI 4 x3.2)]])
 if (decide ((gI 1 x3.2)>0))=true then
 if (gC 0 x3.2).isDp=true then
 if (0:Int)≤(Go.IntKind.i64.wrap ((gI 1 x3.2) - 1))∧(Go.IntKind.i64.wrap ((gI 1 x3.2) - 1))<(((at_ ((gC 0 x3.2).dpRow) 3).rows).length:Int)then
 K4 (Go.Op.bytesLess (gS 6 x3.2) ((at_ (rowsAt ((at_ ((gC 0 x3.2).dpRow) 3).rows) ((Go.IntKind.i64.wrap ((gI 1 x3.2) - 1)).toNat)) 0).toS)||(gS 6 x3.2)==((at_ (rowsAt ((at_ ((gC 0 x3.2).dpRow) 3).rows) ((Go.IntKind.i64.wrap ((gI 1 x3.2) - 1)).toNat)) 0).toS))
 else none
 else none
 else
 K4 false
 else none
 else none).bind fun x6=>
 match x6.1 with
 |0=>
 X (gC 0 x6.2) (gC 1 x6.2) (gI 2 x6.2) (Go.IntKind.i64.wrap ((gI 3 x6.2)+1))
 |i7+1=>
 some (1,[.r [.int (gI 0 x6.2)]])
 else
 some (0,[])
theorem value_keys_s0 (E:Env) (X:List PV→Option (Nat×List PV)) (v0:C) (v1:C) (v2:Int) (v3:Int):stepOf E value_keys_c0 value_keys_h0 value_keys_o0 X [.r [v0], .r [v1], .r [.int v2], .r [.int v3]]=value_keys_b0 E (fun (v0:C) (v1:C) (v2:Int) (v3:Int)=>X [.r [v0], .r [v1], .r [.int v2], .r [.int v3]]) v0 v1 v2 v3:=by kernel_rfl
def value_keys_a:AFun:={ps:=[lA8],rs:=[lI],res:=[(false,2,none)],body:=(.seq (.region [] [oq 1 (.boxP lA8 29 (.t 0)),
 oq 2 (.mov (.c lI [.int 0]))] false 0)
 (.seq (.seq (.region [] [oq 5 (.fad 3 1 29 27 (.t 1)),
 oq 6 (.ld (.one (.sl 59)) 27 (.t 5)),
 oq 7 (.lenL (.t 6)),
 oq 8 (.mov (.c lI [.int 0]))] false 0)
 (.block 0 (.loop value_keys_h0 value_keys_o0 value_keys_c0)))
 (.seq (.region [] [oq 2 (.mov (.c lI [.int 0]))] false 0)
 .ret)))}
noncomputable def value_keys (E:Env) (p0:Row):Option (List Row):=
 (value_keys_l0 E (.dp p0) (at_ p0 3) (((at_ p0 3).rows).length:Int) 0).bind fun x8=>
 match x8.1 with
 |0=>
 some [[.int 0]]
 |i9+1=>
 some [[.int (gI 0 x8.2)]]
theorem value_keys_eq (E:Env) (p0:Row):runP E value_keys_a [p0]=value_keys E p0:=by kernel_rfl
def value_fields_a:AFun:={ps:=[lA8],rs:=[lI],res:=[(false,2,none)],body:=(.seq (.region [] [oq 1 (.boxP lA8 29 (.t 0)),
 oq 2 (.mov (.c lI [.int 0]))] false 0)
 (.seq (.seq (.region [] [oq 3 (.fad 0 1 29 3 (.t 1)),
 oq 4 (.ld lI 3 (.t 3))] false 0)
 (.block 0 (.seq (.region [] [oq 6 (.icmp .eql (.t 4) (.c lI [.int 5])),
 oq 5 (.mov (.t 6))] false 0)
 (.cond (.t 5) (.seq (.region [] [oq 7 (.fad 2 1 29 9 (.t 1)),
 oq 8 (.ld lS 9 (.t 7)),
 oq 9 (.lenS (.t 8)),
 oq 10 (.icmp .gtr (.t 9) (.c lI [.int 4000]))] false 0)
 (.cond (.t 10) (.seq (.region [] [oq 2 (.mov (.c lI [.int 2]))] false 0)
 .ret)
 .skip))
 (.seq (.region [] [oq 12 (.icmp .eql (.t 4) (.c lI [.int 6])),
 oq 11 (.mov (.t 12))] false 0)
 (.cond (.t 11) (.seq (.seq (.region [] [oq 13 (.fad 3 1 29 27 (.t 1)),
 oq 14 (.ld (.one (.sl 59)) 27 (.t 13)),
 oq 15 (.lenL (.t 14)),
 oq 16 (.icmp .gtr (.t 15) (.c lI [.int 24]))] false 0)
 (.cond (.t 16) (.seq (.region [] [oq 2 (.mov (.c lI [.int 2]))] false 0)
 .ret)
 .skip))
 (.seq (.region [] [oq 17 (.fad 3 1 29 27 (.t 1)),
 oq 18 (.ld (.one (.sl 59)) 27 (.t 17)),
 oq 19 (.call 56 [(.one (.sl 59))] [lI] [(.t 18)]),
 oq 2 (.mov (.t 19))] false 0)
 .ret))
 (.seq (.region [] [oq 21 (.icmp .eql (.t 4) (.c lI [.int 7])),
 oq 20 (.mov (.t 21))] false 0)
 (.cond (.t 20) (.seq (.seq (.region [] [oq 22 (.fad 3 1 29 27 (.t 1)),
 oq 23 (.ld (.one (.sl 59)) 27 (.t 22)),
 oq 24 (.lenL (.t 23)),
 oq 25 (.icmp .neq (.t 24) (.c lI [.int 1]))] false 0)
 (.cond (.t 25) (.seq (.region [] [oq 2 (.mov (.c lI [.int 3]))] false 0)
 .ret)
 .skip))
 (.seq (.region [] [oq 26 (.fad 3 1 29 27 (.t 1)),
 oq 27 (.ld (.one (.sl 59)) 27 (.t 26)),
 oq 28 (.call 56 [(.one (.sl 59))] [lI] [(.t 27)]),
 oq 2 (.mov (.t 28))] false 0)
 .ret))
 (.seq (.seq (.region [] [oq 30 (.icmp .eql (.t 4) (.c lI [.int 8])),
 oq 29 (.mov (.t 30))] false 0)
 (.cond (.t 29) .skip
 (.region [] [oq 31 (.icmp .eql (.t 4) (.c lI [.int 9])),
 oq 29 (.mov (.t 31))] false 0)))
 (.cond (.t 29) (.seq (.seq (.region [] [oq 32 (.fad 3 1 29 27 (.t 1)),
 oq 33 (.ld (.one (.sl 59)) 27 (.t 32)),
 oq 34 (.lenL (.t 33)),
 oq 35 (.icmp .gtr (.t 34) (.c lI [.int 200]))] false 0)
 (.cond (.t 35) (.seq (.region [] [oq 2 (.mov (.c lI [.int 2]))] false 0)
 .ret)
 .skip))
 (.seq (.region [] [oq 36 (.ld lA8 29 (.t 1)),
 oq 37 (.call 57 [lA8] [lI] [(.t 36)]),
 oq 2 (.mov (.t 37))] false 0)
 .ret))
 .skip))))))))))
 (.seq (.region [] [oq 2 (.mov (.c lI [.int 0]))] false 0)
 .ret)))}
noncomputable def value_fields (E:Env) (p0:Row):Option (List Row):=
 if (((at_ p0 0).toI)==5)=true then
 if (decide ((((at_ p0 2).toS).length:Int)>4000))=true then
 some [[.int 2]]
 else
 some [[.int 0]]
 else
 if (((at_ p0 0).toI)==6)=true then
 if (decide ((((at_ p0 3).rows).length:Int)>24))=true then
 some [[.int 2]]
 else
 (E.pc n_value_names [[at_ p0 3]]).bind fun y1=>
 some [[.int ((at_ (rowsAt y1 0) 0).toI)]]
 else
 if (((at_ p0 0).toI)==7)=true then
 if ((((at_ p0 3).rows).length:Int) !=1)=true then
 some [[.int 3]]
 else
 (E.pc n_value_names [[at_ p0 3]]).bind fun y2=>
 some [[.int ((at_ (rowsAt y2 0) 0).toI)]]
 else
 if (((at_ p0 0).toI)==8)=true then
 if (((at_ p0 0).toI)==8)=true then
 if (decide ((((at_ p0 3).rows).length:Int)>200))=true then
 some [[.int 2]]
 else
 (E.pc n_value_keys [p0]).bind fun y3=>
 some [[.int ((at_ (rowsAt y3 0) 0).toI)]]
 else
 some [[.int 0]]
 else
 if (((at_ p0 0).toI)==9)=true then
 if (decide ((((at_ p0 3).rows).length:Int)>200))=true then
 some [[.int 2]]
 else
 (E.pc n_value_keys [p0]).bind fun y4=>
 some [[.int ((at_ (rowsAt y4 0) 0).toI)]]
 else
 some [[.int 0]]
theorem value_fields_eq (E:Env) (p0:Row):runP E value_fields_a [p0]=value_fields E p0:=by kernel_rfl
end Go.Ev
