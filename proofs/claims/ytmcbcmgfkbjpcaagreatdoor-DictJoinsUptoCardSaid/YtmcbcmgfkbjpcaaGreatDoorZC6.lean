/-
  A part of the proof: what the functions of the program compute.
-/
import Derived.Test.YtmcbcmgfkbjpcaaGreatDoorZNum
set_option linter.all false
set_option maxRecDepth 100000
namespace Go.Ev
def claplaw3_looked_a:AFun:={ps:=[],rs:=[lB],res:=[(false,0,none)],body:=(.seq (.region [] [oq 0 (.mov (.c lB [.bool false]))] false 0)
 (.seq (.region [] [oq 6 (.call 13 [] [(.one (.sl 40))] []),
 oq 7 (.call 14 [lI] [lA2] [(.c lI [.int 1])]),
 oq 8 (.call 12 [(.one (.sl 40)),lA2] [lA2,lB] [(.t 6),(.t 7)]),
 oq 5 (.mov (.t 8)),
 oq 9 (.ext 0 (.t 5)),
 oq 10 (.ext 1 (.t 5)),
 oq 1 (.allocO 0 lA2 [.int 0, .int 0, .str [], .nils]),
 ⟨none, .st lA2 (.t 1) (.t 9),none,[]⟩,
 oq 2 (.mov (.t 10))] false 1)
 (.seq (.region [] [oq 12 (.call 13 [] [(.one (.sl 40))] []),
 oq 13 (.call 15 [(.one (.sl 40))] [(.one (.sl 40)),lI] [(.t 12)]),
 oq 11 (.mov (.t 13)),
 oq 14 (.ext 0 (.t 11)),
 oq 15 (.ext 1 (.t 11)),
 oq 3 (.mov (.t 14)),
 oq 4 (.mov (.t 15))] false 0)
 (.seq (.region [] [oq 16 (.mov (.t 2)),
 ⟨some 17, .mov (.t 16),none,[0]⟩,
 ⟨some 18, .ld lA2 33 (.t 1),some (17,true),[0,1]⟩,
 ⟨some 19, .call 14 [lI] [lA2] [(.c lI [.int 0])],some (17,true),[0,1]⟩,
 ⟨some 20, .call 16 [lA2,lA2] [lB] [(.t 18),(.t 19)],some (17,true),[0,1,2,3]⟩,
 ⟨some 21, .pick (.t 17) (.t 20) (.c lB [.bool false]),none,[0,1,2,3,4]⟩,
 ⟨some 22, .mov (.t 21),none,[0,1,2,3,4,5]⟩,
 ⟨some 23, .mov (.t 4),some (22,true),[0,1,2,3,4,5,6]⟩,
 ⟨some 24, .icmp .eql (.t 23) (.c lI [.int 0]),some (22,true),[0,1,2,3,4,5,6,7]⟩,
 ⟨some 25, .pick (.t 22) (.t 24) (.c lB [.bool false]),none,[0,1,2,3,4,5,6,7,8]⟩,
 ⟨some 26, .mov (.t 25),none,[0,1,2,3,4,5,6,7,8,9]⟩,
 ⟨some 27, .mov (.t 3),some (26,true),[0,1,2,3,4,5,6,7,8,9,10]⟩,
 ⟨some 28, .lenL (.t 27),some (26,true),[0,1,2,3,4,5,6,7,8,9,10,11]⟩,
 ⟨some 29, .icmp .eql (.t 28) (.c lI [.int 2]),some (26,true),[0,1,2,3,4,5,6,7,8,9,10,11,12]⟩,
 ⟨some 30, .pick (.t 26) (.t 29) (.c lB [.bool false]),none,[0,1,2,3,4,5,6,7,8,9,10,11,12,13]⟩,
 ⟨some 31, .mov (.t 30),none,[0,1,2,3,4,5,6,7,8,9,10,11,12,13,14]⟩,
 ⟨some 32, .mov (.t 3),some (31,true),[0,1,2,3,4,5,6,7,8,9,10,11,12,13,14,15]⟩,
 ⟨some 33, .iad 40 lA0 (.t 32) (.c lI [.int 0]),some (31,true),[0,1,2,3,4,5,6,7,8,9,10,11,12,13,14,15,16]⟩,
 ⟨some 34, .iadA 2 40 33 lA2 (.t 33) (.c lI [.int 0]),some (31,true),[0,1,2,3,4,5,6,7,8,9,10,11,12,13,14,15,16,17]⟩,
 ⟨some 35, .ld lA2 33 (.t 34),some (31,true),[0,1,2,3,4,5,6,7,8,9,10,11,12,13,14,15,16,17,18]⟩,
 ⟨some 36, .call 14 [lI] [lA2] [(.c lI [.int 0])],some (31,true),[0,1,2,3,4,5,6,7,8,9,10,11,12,13,14,15]⟩,
 ⟨some 37, .call 16 [lA2,lA2] [lB] [(.t 35),(.t 36)],some (31,true),[0,1,2,3,4,5,6,7,8,9,10,11,12,13,14,15,16,17,18,19,20]⟩,
 ⟨some 38, .pick (.t 31) (.t 37) (.c lB [.bool false]),none,[0,1,2,3,4,5,6,7,8,9,10,11,12,13,14,15,16,17,18,19,20,21]⟩,
 ⟨some 39, .mov (.t 38),none,[0,1,2,3,4,5,6,7,8,9,10,11,12,13,14,15,16,17,18,19,20,21,22]⟩,
 ⟨some 40, .call 17 [(.one (.sl 40))] [lI] [(.c (.one (.sl 40)) [.nils])],some (39,true),[0,1,2,3,4,5,6,7,8,9,10,11,12,13,14,15,16,17,18,19,20,21,22,23]⟩,
 ⟨some 41, .icmp .eql (.t 40) (.c lI [.int 3]),some (39,true),[0,1,2,3,4,5,6,7,8,9,10,11,12,13,14,15,16,17,18,19,20,21,22,23,24]⟩,
 ⟨some 42, .pick (.t 39) (.t 41) (.c lB [.bool false]),none,[0,1,2,3,4,5,6,7,8,9,10,11,12,13,14,15,16,17,18,19,20,21,22,23,24,25]⟩,
 ⟨some 0, .mov (.t 42),none,[0,1,2,3,4,5,6,7,8,9,10,11,12,13,14,15,16,17,18,19,20,21,22,23,24,25,26]⟩] true 0)
 .ret))))}
def dict_Compose_h0:Shape:={slots:=[(0, .d (.one (.sl 40))),(1, .d (.one (.sl 40))),(15, .d (.one (.sl 24))),(16, .d lI),(17, .d lI)],objs:=[]}
def dict_Compose_o0:List (Exit'×Shape):=[(.exit 0,{slots:=[(0, .d (.one (.sl 40))),(1, .d (.one (.sl 40)))],objs:=[]}),(.ret,{slots:=[(4, .d (.one (.sl 40))),(5, .d lI)],objs:=[]})]
def dict_Compose_c0:ACode:=(.seq (.region [] [oq 18 (.icmp .lss (.t 17) (.t 16))] false 0)
 (.seq (.cond (.t 18) .skip
 (.exit 0))
 (.seq (.block 1 (.seq (.region [] [oq 19 (.iad 24 (.one (.sl 40)) (.t 15) (.t 17)),
 oq 20 (.ld (.one (.sl 40)) 24 (.t 19)),
 oq 7 (.mov (.t 20))] false 0)
 (.seq (.region [] [oq 21 (.mov (.t 7)),
 oq 22 (.call 17 [(.one (.sl 40))] [lI] [(.t 21)]),
 oq 8 (.mov (.t 22))] false 0)
 (.seq (.region [] [oq 23 (.mov (.t 8)),
 oq 24 (.icmp .neq (.t 23) (.c lI [.int 0]))] false 0)
 (.cond (.t 24) (.seq (.region [] [oq 25 (.mov (.t 8)),
 oq 4 (.mov (.c (.one (.sl 40)) [.nils])),
 oq 5 (.mov (.t 25))] false 0)
 .ret)
 .skip)))))
 (.region [] [oq 26 (.ibin .add (.t 17) (.c lI [.int 1])),
 oq 17 (.mov (.t 26))] false 0))))
noncomputable def dict_Compose_l0 (E:Env) (v0:C) (v1:C) (v2:C) (v3:Int) (v4:Int):Option (Nat×List PV):=E.fix (stepOf E dict_Compose_c0 dict_Compose_h0 dict_Compose_o0) [.r [v0], .r [v1], .r [v2], .r [.int v3], .r [.int v4]]
noncomputable def dict_Compose_b0 (E:Env) (X:C→C→C→Int→Int→Option (Nat×List PV)) (v0:C) (v1:C) (v2:C) (v3:Int) (v4:Int):Option (Nat×List PV):=
 if (decide (v4<v3))=true then
 if (0:Int)≤v4∧v4<(v2.rows.length:Int)then
 (E.pc n_dict_Check [[at_ (rowsAt v2.rows v4.toNat) 0]]).bind fun y1=>
 if (((at_ (rowsAt y1 0) 0).toI) !=0)=true then
 some (1,[.r [.nils], .r [.int ((at_ (rowsAt y1 0) 0).toI)]])
 else
 X v0 v1 v2 v3 (Go.IntKind.i64.wrap (v4+1))
 else none
 else
 some (0,[.r [v0], .r [v1]])
theorem dict_Compose_s0 (E:Env) (X:List PV→Option (Nat×List PV)) (v0:C) (v1:C) (v2:C) (v3:Int) (v4:Int):stepOf E dict_Compose_c0 dict_Compose_h0 dict_Compose_o0 X [.r [v0], .r [v1], .r [v2], .r [.int v3], .r [.int v4]]=dict_Compose_b0 E (fun (v0:C) (v1:C) (v2:C) (v3:Int) (v4:Int)=>X [.r [v0], .r [v1], .r [v2], .r [.int v3], .r [.int v4]]) v0 v1 v2 v3 v4:=by kernel_rfl
def dict_Compose_h1:Shape:={slots:=[(1, .d (.one (.sl 40))),(9, .sw 0),(27, .d (.one (.sl 40))),(28, .d lI),(29, .d lI)],objs:=[.sarr 40 lA0]}
def dict_Compose_o1:List (Exit'×Shape):=[(.exit 2,{slots:=[(9, .sw 0)],objs:=[.sarr 40 lA0]})]
def dict_Compose_c1:ACode:=(.seq (.region [] [oq 30 (.icmp .lss (.t 29) (.t 28))] false 0)
 (.seq (.cond (.t 30) .skip
 (.exit 2))
 (.seq (.block 3 (.seq (.region [] [oq 31 (.iad 40 lA0 (.t 27) (.t 29)),
 oq 32 (.ld lA0 40 (.t 31)),
 oq 11 (.allocO 0 lA0 [.int 0, .int 0, .str [], .nils, .int 0, .int 0, .str [], .nils]),
 ⟨none, .st lA0 (.t 11) (.t 32),none,[]⟩] false 1)
 (.seq (.region [] [oq 33 (.mov (.t 1)),
 oq 34 (.iadA 2 40 33 lA2 (.t 11) (.c lI [.int 1])),
 oq 35 (.ld lA2 33 (.t 34)),
 oq 36 (.call 18 [(.one (.sl 40)),lI,lA2] [lI] [(.t 33),(.c lI [.int 0]),(.t 35)]),
 oq 12 (.mov (.t 36))] false 0)
 (.seq (.region [] [oq 37 (.mov (.t 12)),
 oq 38 (.icmp .geq (.t 37) (.c lI [.int 0]))] false 0)
 (.cond (.t 38) (.region [] [oq 39 (.mov (.t 9)),
 oq 40 (.iadA 2 40 33 lA2 (.t 11) (.c lI [.int 0])),
 ⟨some 41, .ld lA2 33 (.t 40),none,[1]⟩,
 oq 42 (.mov (.t 1)),
 oq 43 (.mov (.t 12)),
 ⟨some 44, .iad 40 lA0 (.t 42) (.t 43),none,[3,4]⟩,
 ⟨some 45, .iadA 2 40 33 lA2 (.t 44) (.c lI [.int 1]),none,[3,4,5]⟩,
 ⟨some 46, .ld lA2 33 (.t 45),none,[3,4,5,6]⟩,
 ⟨some 47, .bld lA0 [.int 0, .int 0, .str [], .nils, .int 0, .int 0, .str [], .nils] [(0,4,(.t 41)),(4,4,(.t 46))],none,[1,2,3,4,5,6,7]⟩,
 ⟨some 48, .bsl 40 lA0 1 [.int 0, .int 0, .str [], .nils, .int 0, .int 0, .str [], .nils] [(0,(.t 47))],none,[1,2,3,4,5,6,7,8]⟩,
 ⟨some 49, .appW 0 40 lA0 112 (.t 39) (.t 48),none,[0,1,2,3,4,5,6,7,8,9]⟩,
 ⟨some 9, .mov (.t 49),none,[0,1,2,3,4,5,6,7,8,9,10]⟩] true 1)
 .skip)))))
 (.region [] [oq 50 (.ibin .add (.t 29) (.c lI [.int 1])),
 oq 29 (.mov (.t 50))] false 0))))
noncomputable def dict_Compose_l1 (E:Env) (v0:C) (v1:C) (v2:Int) (v3:Int) (v4:C):Option (Nat×List PV):=E.fix (stepOf E dict_Compose_c1 dict_Compose_h1 dict_Compose_o1) [.r [v0], .r [v1], .r [.int v2], .r [.int v3], .r [v4]]
noncomputable def dict_Compose_b1 (E:Env) (X:C→C→Int→Int→C→Option (Nat×List PV)) (v0:C) (v1:C) (v2:Int) (v3:Int) (v4:C):Option (Nat×List PV):=
 if (decide (v3<v2))=true then
 if (0:Int)≤v3∧v3<(v1.rows.length:Int)then
 (E.pc n_dict_find [[v0],[.int 0],[at_ (rowsAt v1.rows v3.toNat) 4,at_ (rowsAt v1.rows v3.toNat) 5,at_ (rowsAt v1.rows v3.toNat) 6,at_ (rowsAt v1.rows v3.toNat) 7]]).bind fun y4=>
 if (decide (((at_ (rowsAt y4 0) 0).toI)≥0))=true then
 if (0:Int)≤((at_ (rowsAt y4 0) 0).toI)∧((at_ (rowsAt y4 0) 0).toI)<(v0.rows.length:Int)then
 if (v4.rows.length+([[at_ (rowsAt v1.rows v3.toNat) 0,at_ (rowsAt v1.rows v3.toNat) 1,at_ (rowsAt v1.rows v3.toNat) 2,at_ (rowsAt v1.rows v3.toNat) 3,at_ (rowsAt v0.rows (((at_ (rowsAt y4 0) 0).toI).toNat)) 4,at_ (rowsAt v0.rows (((at_ (rowsAt y4 0) 0).toI).toNat)) 5,at_ (rowsAt v0.rows (((at_ (rowsAt y4 0) 0).toI).toNat)) 6,at_ (rowsAt v0.rows (((at_ (rowsAt y4 0) 0).toI).toNat)) 7]]:List Row).length)*112≤140737488355328 then
 X v0 v1 v2 (Go.IntKind.i64.wrap (v3+1)) (appC v4 ([[at_ (rowsAt v1.rows v3.toNat) 0,at_ (rowsAt v1.rows v3.toNat) 1,at_ (rowsAt v1.rows v3.toNat) 2,at_ (rowsAt v1.rows v3.toNat) 3,at_ (rowsAt v0.rows (((at_ (rowsAt y4 0) 0).toI).toNat)) 4,at_ (rowsAt v0.rows (((at_ (rowsAt y4 0) 0).toI).toNat)) 5,at_ (rowsAt v0.rows (((at_ (rowsAt y4 0) 0).toI).toNat)) 6,at_ (rowsAt v0.rows (((at_ (rowsAt y4 0) 0).toI).toNat)) 7]]:List Row))
 else none
 else none
 else
 X v0 v1 v2 (Go.IntKind.i64.wrap (v3+1)) v4
 else none
 else
 some (0,[.r [v4]])
theorem dict_Compose_s1 (E:Env) (X:List PV→Option (Nat×List PV)) (v0:C) (v1:C) (v2:Int) (v3:Int) (v4:C):stepOf E dict_Compose_c1 dict_Compose_h1 dict_Compose_o1 X [.r [v0], .r [v1], .r [.int v2], .r [.int v3], .r [v4]]=dict_Compose_b1 E (fun (v0:C) (v1:C) (v2:Int) (v3:Int) (v4:C)=>X [.r [v0], .r [v1], .r [.int v2], .r [.int v3], .r [v4]]) v0 v1 v2 v3 v4:=by kernel_rfl
def dict_Compose_a:AFun:={ps:=[(.one (.sl 40)),(.one (.sl 40))],rs:=[(.one (.sl 40)),lI],res:=[(false,4,(some lA0)),(false,5,none)],body:=(.seq (.region [] [oq 4 (.mov (.c (.one (.sl 40)) [.nils])),
 oq 5 (.mov (.c lI [.int 0]))] false 0)
 (.seq (.seq (.region [] [oq 13 (.mov (.t 0)),
 oq 14 (.mov (.t 1)),
 oq 15 (.bsl 24 (.one (.sl 40)) 2 [.nils] [(0,(.t 13)),(1,(.t 14))]),
 oq 16 (.lenL (.t 15)),
 oq 17 (.mov (.c lI [.int 0]))] false 0)
 (.block 0 (.loop dict_Compose_h0 dict_Compose_o0 dict_Compose_c0)))
 (.seq (.region [] [oq 9 (.nilS 0 40 lA0)] false 1)
 (.seq (.seq (.region [] [oq 27 (.mov (.t 0)),
 oq 28 (.lenL (.t 27)),
 oq 29 (.mov (.c lI [.int 0]))] false 0)
 (.block 2 (.loop dict_Compose_h1 dict_Compose_o1 dict_Compose_c1)))
 (.seq (.seq (.region [] [oq 51 (.mov (.t 9)),
 oq 52 (.lenL (.t 51)),
 oq 53 (.icmp .eql (.t 52) (.c lI [.int 0]))] false 0)
 (.cond (.t 53) (.seq (.region [] [oq 4 (.mov (.c (.one (.sl 40)) [.nils])),
 oq 5 (.mov (.c lI [.int 4]))] false 0)
 .ret)
 .skip))
 (.seq (.region [] [oq 54 (.mov (.t 9)),
 oq 55 (.call 19 [(.one (.sl 40))] [(.one (.sl 40))] [(.t 54)]),
 oq 4 (.mov (.t 55)),
 oq 5 (.mov (.c lI [.int 0]))] false 0)
 .ret))))))}
noncomputable def dict_Compose (E:Env) (p0:C) (p1:C):Option (List Row):=
 (dict_Compose_l0 E p0 p1 (.sl ([[p0],[p1]]:List Row)) (([[p0],[p1]]:List Row).length:Int) 0).bind fun x2=>
 match x2.1 with
 |0=>
 (dict_Compose_l1 E (gC 1 x2.2) (gC 0 x2.2) (((gC 0 x2.2).rows).length:Int) 0 .nils).bind fun x5=>
 if ((((gC 0 x5.2).rows).length:Int)==0)=true then
 some [[.nils],[.int 4]]
 else
 (E.pc n_dict_sorted [[gC 0 x5.2]]).bind fun y6=>
 some [[at_ (rowsAt y6 0) 0],[.int 0]]
 |i3+1=>
 some [[gC 0 x2.2],[.int (gI 1 x2.2)]]
theorem dict_Compose_eq (E:Env) (p0:C) (p1:C):runP E dict_Compose_a [[p0],[p1]]=dict_Compose E p0 p1:=by kernel_rfl
def clapref3_first_h0:Shape:={slots:=[(5, .d (.one (.sl 25))),(6, .d lI),(7, .d lI)],objs:=[]}
def clapref3_first_o0:List (Exit'×Shape):=[(.exit 0,{slots:=[],objs:=[]}),(.ret,{slots:=[(2, .d lI)],objs:=[]})]
def clapref3_first_c0:ACode:=(.seq (.region [] [oq 8 (.icmp .lss (.t 7) (.t 6))] false 0)
 (.seq (.cond (.t 8) .skip
 (.exit 0))
 (.seq (.block 1 (.seq (.region [] [oq 9 (.iad 25 lI (.t 5) (.t 7)),
 oq 10 (.ld lI 25 (.t 9)),
 oq 4 (.mov (.t 10))] false 0)
 (.seq (.region [] [oq 11 (.mov (.t 4)),
 oq 12 (.icmp .neq (.t 11) (.c lI [.int 0]))] false 0)
 (.cond (.t 12) (.seq (.region [] [oq 13 (.mov (.t 4)),
 oq 2 (.mov (.t 13))] false 0)
 .ret)
 .skip))))
 (.region [] [oq 14 (.ibin .add (.t 7) (.c lI [.int 1])),
 oq 7 (.mov (.t 14))] false 0))))
noncomputable def clapref3_first_l0 (E:Env) (v0:C) (v1:Int) (v2:Int):Option (Nat×List PV):=E.fix (stepOf E clapref3_first_c0 clapref3_first_h0 clapref3_first_o0) [.r [v0], .r [.int v1], .r [.int v2]]
noncomputable def clapref3_first_b0 (E:Env) (X:C→Int→Int→Option (Nat×List PV)) (v0:C) (v1:Int) (v2:Int):Option (Nat×List PV):=
 if (decide (v2<v1))=true then
 if (0:Int)≤v2∧v2<(v0.rows.length:Int)then
 if (((at_ (rowsAt v0.rows v2.toNat) 0).toI) !=0)=true then
 some (1,[.r [.int ((at_ (rowsAt v0.rows v2.toNat) 0).toI)]])
 else
 X v0 v1 (Go.IntKind.i64.wrap (v2+1))
 else none
 else
 some (0,[])
theorem clapref3_first_s0 (E:Env) (X:List PV→Option (Nat×List PV)) (v0:C) (v1:Int) (v2:Int):stepOf E clapref3_first_c0 clapref3_first_h0 clapref3_first_o0 X [.r [v0], .r [.int v1], .r [.int v2]]=clapref3_first_b0 E (fun (v0:C) (v1:Int) (v2:Int)=>X [.r [v0], .r [.int v1], .r [.int v2]]) v0 v1 v2:=by kernel_rfl
def clapref3_first_a:AFun:={ps:=[(.one (.sl 25))],rs:=[lI],res:=[(false,2,none)],body:=(.seq (.region [] [oq 2 (.mov (.c lI [.int 0]))] false 0)
 (.seq (.seq (.region [] [oq 5 (.mov (.t 0)),
 oq 6 (.lenL (.t 5)),
 oq 7 (.mov (.c lI [.int 0]))] false 0)
 (.block 0 (.loop clapref3_first_h0 clapref3_first_o0 clapref3_first_c0)))
 (.seq (.region [] [oq 2 (.mov (.c lI [.int 0]))] false 0)
 .ret)))}
noncomputable def clapref3_first (E:Env) (p0:C):Option (List Row):=
 (clapref3_first_l0 E p0 (p0.rows.length:Int) 0).bind fun x1=>
 match x1.1 with
 |0=>
 some [[.int 0]]
 |i2+1=>
 some [[.int (gI 0 x1.2)]]
theorem clapref3_first_eq (E:Env) (p0:C):runP E clapref3_first_a [[p0]]=clapref3_first E p0:=by kernel_rfl
def clapref3_plain_a:AFun:={ps:=[lI],rs:=[lB],res:=[(false,2,none)],body:=(.seq (.region [] [oq 2 (.mov (.c lB [.bool false]))] false 0)
 (.seq (.seq (.region [] [oq 3 (.mov (.t 0))] false 0)
 (.block 0 (.seq (.seq (.region [] [oq 5 (.icmp .eql (.t 3) (.c lI [.int 1])),
 oq 4 (.mov (.t 5))] false 0)
 (.cond (.t 4) .skip
 (.seq (.region [] [oq 6 (.icmp .eql (.t 3) (.c lI [.int 2])),
 oq 4 (.mov (.t 6))] false 0)
 (.cond (.t 4) .skip
 (.seq (.region [] [oq 7 (.icmp .eql (.t 3) (.c lI [.int 4])),
 oq 4 (.mov (.t 7))] false 0)
 (.cond (.t 4) .skip
 (.region [] [oq 8 (.icmp .eql (.t 3) (.c lI [.int 5])),
 oq 4 (.mov (.t 8))] false 0)))))))
 (.cond (.t 4) (.seq (.region [] [oq 2 (.mov (.c lB [.bool true]))] false 0)
 .ret)
 .skip))))
 (.seq (.region [] [oq 2 (.mov (.c lB [.bool false]))] false 0)
 .ret)))}
noncomputable def clapref3_plain (E:Env) (p0:Int):Option (List Row):=
 if (p0==1)=true then
 if (p0==1)=true then
 some [[.bool true]]
 else
 some [[.bool false]]
 else
 if (p0==2)=true then
 if (p0==2)=true then
 some [[.bool true]]
 else
 some [[.bool false]]
 else
 if (p0==4)=true then
 if (p0==4)=true then
 some [[.bool true]]
 else
 some [[.bool false]]
 else
 if (p0==5)=true then
 some [[.bool true]]
 else
 some [[.bool false]]
theorem clapref3_plain_eq (E:Env) (p0:Int):runP E clapref3_plain_a [[.int p0]]=clapref3_plain E p0:=by kernel_rfl
def clapref3_Pairs_h1:Shape:={slots:=[(0, .d (.one (.sl 40))),(3, .ptr 0 0),(19, .d (.one (.sl 40))),(20, .d lI),(21, .d lI),(25, .d lA0),(26, .d lI)],objs:=[.cells false [.map 1, .map 2], .map lS lB, .map lS lB]}
def clapref3_Pairs_o1:List (Exit'×Shape):=[(.exit 2,{slots:=[(0, .d (.one (.sl 40))),(3, .ptr 0 0),(19, .d (.one (.sl 40))),(20, .d lI),(21, .d lI)],objs:=[.cells false [.map 1, .map 2], .map lS lB, .map lS lB]}),(.ret,{slots:=[(2, .d lI)],objs:=[]})]
def clapref3_Pairs_c1:ACode:=(.seq (.region [] [oq 27 (.icmp .lss (.t 26) (.c lI [.int 2]))] false 0)
 (.seq (.cond (.t 27) .skip
 (.exit 2))
 (.seq (.block 3 (.seq (.region [] [oq 28 (.mov (.t 26)),
 oq 29 (.idxA 2 lA2 (.t 25) (.t 26)),
 oq 7 (.allocO 0 lA2 [.int 0, .int 0, .str [], .nils]),
 oq 6 (.mov (.t 28)),
 ⟨none, .st lA2 (.t 7) (.t 29),none,[]⟩] false 1)
 (.seq (.seq (.region [] [oq 30 (.ld lA2 33 (.t 7)),
 oq 31 (.call 35 [lA2] [lI] [(.t 30)]),
 oq 8 (.mov (.t 31))] false 0)
 (.seq (.region [] [oq 32 (.mov (.t 8)),
 oq 33 (.icmp .neq (.t 32) (.c lI [.int 0]))] false 0)
 (.cond (.t 33) (.seq (.region [] [oq 34 (.mov (.t 8)),
 oq 2 (.mov (.t 34))] false 0)
 .ret)
 .skip)))
 (.seq (.seq (.join [(.normal,{slots:=[(0, .d (.one (.sl 40))),(3, .ptr 0 0),(6, .d lI),(7, .ptr 1 0),(19, .d (.one (.sl 40))),(20, .d lI),(21, .d lI),(25, .d lA0),(26, .d lI),(49, .d lB)],objs:=[.cells false [.map 2, .map 3], .var lA2, .map lS lB, .map lS lB]})] (.region [] [oq 35 (.fad 0 1 33 3 (.t 7)),
 ⟨some 36, .ld lI 3 (.t 35),none,[0]⟩,
 ⟨some 37, .call 36 [lI] [lB] [(.t 36)],none,[0,1]⟩,
 ⟨some 38, .not (.t 37),none,[0,1,2]⟩,
 ⟨some 39, .mov (.t 38),none,[0,1,2,3]⟩,
 ⟨some 40, .fad 0 1 33 3 (.t 7),some (39,false),[0,1,2,3,4]⟩,
 ⟨some 41, .ld lI 3 (.t 40),some (39,false),[0,1,2,3,4,5]⟩,
 ⟨some 42, .mov (.t 0),some (39,false),[0,1,2,3,4]⟩,
 ⟨some 43, .mov (.t 6),some (39,false),[0,1,2,3,4]⟩,
 ⟨some 44, .iad 40 lA0 (.t 42) (.c lI [.int 0]),some (39,false),[0,1,2,3,4,7]⟩,
 ⟨some 45, .iadA 2 40 33 lA2 (.t 44) (.t 43),some (39,false),[0,1,2,3,4,7,8,9]⟩,
 ⟨some 46, .fad 0 1 33 3 (.t 45),some (39,false),[0,1,2,3,4,7,8,9,10]⟩,
 ⟨some 47, .ld lI 3 (.t 46),some (39,false),[0,1,2,3,4,7,8,9,10,11]⟩,
 ⟨some 48, .icmp .neq (.t 41) (.t 47),some (39,false),[0,1,2,3,4,5,6,7,8,9,10,11,12]⟩,
 ⟨some 49, .pick (.t 39) (.c lB [.bool true]) (.t 48),none,[0,1,2,3,4,5,6,7,8,9,10,11,12,13]⟩] true 0))
 (.cond (.t 49) (.seq (.region [] [oq 2 (.mov (.c lI [.int 8]))] false 0)
 .ret)
 .skip))
 (.seq (.region [] [oq 50 (.fad 1 1 33 3 (.t 7)),
 ⟨some 51, .ld lI 3 (.t 50),none,[0]⟩,
 ⟨some 52, .call 37 [lI] [lS] [(.t 51)],none,[0,1]⟩,
 ⟨some 53, .scat (.t 52) (.c lS [.str ([32]:List UInt8)]),none,[0,1,2]⟩,
 oq 54 (.fad 2 1 33 9 (.t 7)),
 ⟨some 55, .ld lS 9 (.t 54),none,[4]⟩,
 ⟨some 56, .scat (.t 53) (.t 55),none,[0,1,2,3,4,5]⟩,
 ⟨some 9, .mov (.t 56),none,[0,1,2,3,4,5,6]⟩] true 0)
 (.seq (.seq (.region [] [oq 57 (.mov (.t 6)),
 oq 58 (.iadV 2 1 (.t 3) (.t 57)),
 oq 59 (.ldC (.t 58)),
 oq 60 (.mov (.t 9)),
 oq 61 (.lk lS lB [.bool false] (.t 59) (.t 60) false)] false 0)
 (.cond (.t 61) (.seq (.region [] [oq 2 (.mov (.c lI [.int 5]))] false 0)
 .ret)
 .skip))
 (.region [] [oq 62 (.mov (.t 6)),
 oq 63 (.iadV 2 1 (.t 3) (.t 62)),
 oq 64 (.ldC (.t 63)),
 oq 65 (.mov (.t 9)),
 ⟨none, .mup lS (.t 64) (.t 65) (.c lB [.bool true]),none,[]⟩] false 0)))))))
 (.region [] [oq 66 (.ibin .add (.t 26) (.c lI [.int 1])),
 oq 26 (.mov (.t 66))] false 0))))
noncomputable def clapref3_Pairs_l1 (E:Env) (v0:C) (v1:C) (v2:Int) (v3:Int) (v4:Row) (v5:Int) (v6:List (Row×Row)) (v7:List (Row×Row)):Option (Nat×List PV):=E.fix (stepOf E clapref3_Pairs_c1 clapref3_Pairs_h1 clapref3_Pairs_o1) [.r [v0], .r [v1], .r [.int v2], .r [.int v3], .r v4, .r [.int v5], .m v6, .m v7]
noncomputable def clapref3_Pairs_b1 (E:Env) (X:C→C→Int→Int→Row→Int→List (Row×Row)→List (Row×Row)→Option (Nat×List PV)) (v0:C) (v1:C) (v2:Int) (v3:Int) (v4:Row) (v5:Int) (v6:List (Row×Row)) (v7:List (Row×Row)):Option (Nat×List PV):=
 if (decide (v5<2))=true then
 if (0:Int)≤v5∧v5<(2:Int)then
 (E.pc n_value_Check [[at_ v4 (v5.toNat*4),at_ v4 (v5.toNat*4+1),at_ v4 (v5.toNat*4+2),at_ v4 (v5.toNat*4+3)]]).bind fun y1=>
 if (((at_ (rowsAt y1 0) 0).toI) !=0)=true then
 some (1,[.r [.int ((at_ (rowsAt y1 0) 0).toI)]])
 else
 ((E.pc n_clapref3_plain [[.int ((at_ v4 (v5.toNat*4)).toI)]]).bind fun y2=>
 let K3:Bool→Option (Nat×List PV):=fun q4=>
 some (0,[.r [v0], .r [.int v5], .r [v1], .r [.int v2], .r [.int v3], .r v4, .r [.int v5], .r [.bool q4], .r [at_ v4 (v5.toNat*4),at_ v4 (v5.toNat*4+1),at_ v4 (v5.toNat*4+2),at_ v4 (v5.toNat*4+3)], .m v6, .m v7])
 if (!((at_ (rowsAt y2 0) 0).toB))=true then
 K3 true
 else
 if (0:Int)≤0∧0<(v0.rows.length:Int)then
 if (0:Int)≤v5∧v5<(2:Int)∧(C.dp (rowsAt v0.rows 0)).isDp=true then
 K3 (((at_ v4 (v5.toNat*4)).toI) !=((at_ (rowsAt v0.rows 0) (v5.toNat*4)).toI))
 else none
 else none).bind fun x5=>
 if (gB 7 x5.2)=true then
 some (1,[.r [.int 8]])
 else
 (E.pc n_strconv_Itoa [[.int ((at_ (gR 8 x5.2) 1).toI)]]).bind fun y6=>
 if ((at_ (rowsAt y6 0) 0).toS).length+([32]:List UInt8).length≤1099511627776 then
 if (((at_ (rowsAt y6 0) 0).toS)++([32]:List UInt8)).length+((at_ (gR 8 x5.2) 2).toS).length≤1099511627776 then
 if (gI 1 x5.2)=0 then
 if ((at_ ((findE lS [.str ((((at_ (rowsAt y6 0) 0).toS)++([32]:List UInt8))++((at_ (gR 8 x5.2) 2).toS))] (gM 9 x5.2)).getD [.bool false]) 0).toB)=true then
 some (1,[.r [.int 5]])
 else
 if (gI 1 x5.2)=0 then
 X (gC 0 x5.2) (gC 2 x5.2) (gI 3 x5.2) (gI 4 x5.2) (gR 5 x5.2) (Go.IntKind.i64.wrap ((gI 6 x5.2)+1)) (setE lS [.str ((((at_ (rowsAt y6 0) 0).toS)++([32]:List UInt8))++((at_ (gR 8 x5.2) 2).toS))] [.bool true] (gM 9 x5.2)) (gM 10 x5.2)
 else
 if (gI 1 x5.2)=1 then
 X (gC 0 x5.2) (gC 2 x5.2) (gI 3 x5.2) (gI 4 x5.2) (gR 5 x5.2) (Go.IntKind.i64.wrap ((gI 6 x5.2)+1)) (gM 9 x5.2) (setE lS [.str ((((at_ (rowsAt y6 0) 0).toS)++([32]:List UInt8))++((at_ (gR 8 x5.2) 2).toS))] [.bool true] (gM 10 x5.2))
 else
 none
 else
 if (gI 1 x5.2)=1 then
 if ((at_ ((findE lS [.str ((((at_ (rowsAt y6 0) 0).toS)++([32]:List UInt8))++((at_ (gR 8 x5.2) 2).toS))] (gM 10 x5.2)).getD [.bool false]) 0).toB)=true then
 some (1,[.r [.int 5]])
 else
 if (gI 1 x5.2)=0 then
 X (gC 0 x5.2) (gC 2 x5.2) (gI 3 x5.2) (gI 4 x5.2) (gR 5 x5.2) (Go.IntKind.i64.wrap ((gI 6 x5.2)+1)) (setE lS [.str ((((at_ (rowsAt y6 0) 0).toS)++([32]:List UInt8))++((at_ (gR 8 x5.2) 2).toS))] [.bool true] (gM 9 x5.2)) (gM 10 x5.2)
 else
 if (gI 1 x5.2)=1 then
 X (gC 0 x5.2) (gC 2 x5.2) (gI 3 x5.2) (gI 4 x5.2) (gR 5 x5.2) (Go.IntKind.i64.wrap ((gI 6 x5.2)+1)) (gM 9 x5.2) (setE lS [.str ((((at_ (rowsAt y6 0) 0).toS)++([32]:List UInt8))++((at_ (gR 8 x5.2) 2).toS))] [.bool true] (gM 10 x5.2))
 else
 none
 else
 none
 else none
 else none
 else none
 else
 some (0,[.r [v0], .r [v1], .r [.int v2], .r [.int v3], .m v6, .m v7])
theorem clapref3_Pairs_s1 (E:Env) (X:List PV→Option (Nat×List PV)) (v0:C) (v1:C) (v2:Int) (v3:Int) (v4:Row) (v5:Int) (v6:List (Row×Row)) (v7:List (Row×Row)):stepOf E clapref3_Pairs_c1 clapref3_Pairs_h1 clapref3_Pairs_o1 X [.r [v0], .r [v1], .r [.int v2], .r [.int v3], .r v4, .r [.int v5], .m v6, .m v7]=clapref3_Pairs_b1 E (fun (v0:C) (v1:C) (v2:Int) (v3:Int) (v4:Row) (v5:Int) (v6:List (Row×Row)) (v7:List (Row×Row))=>X [.r [v0], .r [v1], .r [.int v2], .r [.int v3], .r v4, .r [.int v5], .m v6, .m v7]) v0 v1 v2 v3 v4 v5 v6 v7:=by kernel_rfl
def clapref3_Pairs_h0:Shape:={slots:=[(0, .d (.one (.sl 40))),(3, .ptr 0 0),(19, .d (.one (.sl 40))),(20, .d lI),(21, .d lI)],objs:=[.cells false [.map 1, .map 2], .map lS lB, .map lS lB]}
def clapref3_Pairs_o0:List (Exit'×Shape):=[(.exit 0,{slots:=[],objs:=[]}),(.ret,{slots:=[(2, .d lI)],objs:=[]})]
def clapref3_Pairs_c0:ACode:=(.seq (.region [] [oq 22 (.icmp .lss (.t 21) (.t 20))] false 0)
 (.seq (.cond (.t 22) .skip
 (.exit 0))
 (.seq (.block 1 (.seq (.region [] [oq 23 (.iad 40 lA0 (.t 19) (.t 21)),
 oq 24 (.ld lA0 40 (.t 23)),
 oq 5 (.allocO 0 lA0 [.int 0, .int 0, .str [], .nils, .int 0, .int 0, .str [], .nils]),
 ⟨none, .st lA0 (.t 5) (.t 24),none,[]⟩] false 1)
 (.seq (.region [] [oq 25 (.ld lA0 40 (.t 5)),
 oq 26 (.mov (.c lI [.int 0]))] false 0)
 (.block 2 (.loop clapref3_Pairs_h1 clapref3_Pairs_o1 clapref3_Pairs_c1)))))
 (.region [] [oq 67 (.ibin .add (.t 21) (.c lI [.int 1])),
 oq 21 (.mov (.t 67))] false 0))))
noncomputable def clapref3_Pairs_l0 (E:Env) (v0:C) (v1:C) (v2:Int) (v3:Int) (v4:List (Row×Row)) (v5:List (Row×Row)):Option (Nat×List PV):=E.fix (stepOf E clapref3_Pairs_c0 clapref3_Pairs_h0 clapref3_Pairs_o0) [.r [v0], .r [v1], .r [.int v2], .r [.int v3], .m v4, .m v5]
noncomputable def clapref3_Pairs_b0 (E:Env) (X:C→C→Int→Int→List (Row×Row)→List (Row×Row)→Option (Nat×List PV)) (v0:C) (v1:C) (v2:Int) (v3:Int) (v4:List (Row×Row)) (v5:List (Row×Row)):Option (Nat×List PV):=
 if (decide (v3<v2))=true then
 if (0:Int)≤v3∧v3<(v1.rows.length:Int)then
 (clapref3_Pairs_l1 E v0 v1 v2 v3 (rowsAt v1.rows v3.toNat) 0 v4 v5).bind fun x7=>
 match x7.1 with
 |0=>
 X (gC 0 x7.2) (gC 1 x7.2) (gI 2 x7.2) (Go.IntKind.i64.wrap ((gI 3 x7.2)+1)) (gM 4 x7.2) (gM 5 x7.2)
 |i8+1=>
 some (1,[.r [.int (gI 0 x7.2)]])
 else none
 else
 some (0,[])
theorem clapref3_Pairs_s0 (E:Env) (X:List PV→Option (Nat×List PV)) (v0:C) (v1:C) (v2:Int) (v3:Int) (v4:List (Row×Row)) (v5:List (Row×Row)):stepOf E clapref3_Pairs_c0 clapref3_Pairs_h0 clapref3_Pairs_o0 X [.r [v0], .r [v1], .r [.int v2], .r [.int v3], .m v4, .m v5]=clapref3_Pairs_b0 E (fun (v0:C) (v1:C) (v2:Int) (v3:Int) (v4:List (Row×Row)) (v5:List (Row×Row))=>X [.r [v0], .r [v1], .r [.int v2], .r [.int v3], .m v4, .m v5]) v0 v1 v2 v3 v4 v5:=by kernel_rfl
def clapref3_Pairs_a:AFun:={ps:=[(.one (.sl 40))],rs:=[lI],res:=[(false,2,none)],body:=(.seq (.region [] [oq 2 (.mov (.c lI [.int 0]))] false 0)
 (.seq (.seq (.region [] [oq 10 (.mov (.t 0)),
 oq 11 (.lenL (.t 10)),
 oq 12 (.icmp .eql (.t 11) (.c lI [.int 0]))] false 0)
 (.cond (.t 12) (.seq (.region [] [oq 2 (.mov (.c lI [.int 3]))] false 0)
 .ret)
 .skip))
 (.seq (.seq (.region [] [oq 13 (.mov (.t 0)),
 oq 14 (.lenL (.t 13)),
 oq 15 (.icmp .gtr (.t 14) (.c lI [.int 40]))] false 0)
 (.cond (.t 15) (.seq (.region [] [oq 2 (.mov (.c lI [.int 2]))] false 0)
 .ret)
 .skip))
 (.seq (.region [] [oq 16 (.mkm 0 lS lB),
 oq 17 (.mkm 1 lS lB),
 oq 18 (.bldA [none,none] [(0,1,(.t 16)),(1,1,(.t 17))]),
 oq 3 (.allocA 2 [none,none]),
 ⟨none, .stA 2 (.t 3) (.t 18),none,[]⟩] false 3)
 (.seq (.seq (.region [] [oq 19 (.mov (.t 0)),
 oq 20 (.lenL (.t 19)),
 oq 21 (.mov (.c lI [.int 0]))] false 0)
 (.block 0 (.loop clapref3_Pairs_h0 clapref3_Pairs_o0 clapref3_Pairs_c0)))
 (.seq (.region [] [oq 2 (.mov (.c lI [.int 0]))] false 0)
 .ret))))))}
noncomputable def clapref3_Pairs (E:Env) (p0:C):Option (List Row):=
 if ((p0.rows.length:Int)==0)=true then
 some [[.int 3]]
 else
 if (decide ((p0.rows.length:Int)>40))=true then
 some [[.int 2]]
 else
 (clapref3_Pairs_l0 E p0 p0 (p0.rows.length:Int) 0 [] []).bind fun x9=>
 match x9.1 with
 |0=>
 some [[.int 0]]
 |i10+1=>
 some [[.int (gI 0 x9.2)]]
theorem clapref3_Pairs_eq (E:Env) (p0:C):runP E clapref3_Pairs_a [[p0]]=clapref3_Pairs E p0:=by kernel_rfl
def clapref3_spliced_2_api_Value_a:AFun:={ps:=[(.one (.sl 40)),lI,lI,(.one (.sl 40))],rs:=[(.one (.sl 40))],res:=[(false,8,(some lA0))],body:=(.seq (.region [] [oq 8 (.mov (.c (.one (.sl 40)) [.nils]))] false 0)
 (.seq (.region [] [oq 10 (.mov (.t 0)),
 oq 11 (.mov (.t 1)),
 oq 12 (.slc 40 lA0 (.t 10) none (some (.t 11))),
 oq 13 (.appW 0 40 lA0 112 (.c (.one (.sl 40)) [.nils]) (.t 12)),
 oq 9 (.mov (.t 13))] false 1)
 (.seq (.region [] [oq 14 (.mov (.t 9)),
 oq 15 (.mov (.t 3)),
 oq 16 (.appW 0 40 lA0 112 (.t 14) (.t 15)),
 oq 9 (.mov (.t 16))] false 1)
 (.seq (.region [] [oq 17 (.mov (.t 9)),
 oq 18 (.mov (.t 0)),
 oq 19 (.mov (.t 1)),
 oq 20 (.mov (.t 2)),
 oq 21 (.ibin .add (.t 19) (.t 20)),
 oq 22 (.slc 40 lA0 (.t 18) (some (.t 21)) none),
 oq 23 (.appW 0 40 lA0 112 (.t 17) (.t 22)),
 oq 8 (.mov (.t 23))] false 1)
 .ret))))}
noncomputable def clapref3_spliced_2_api_Value (E:Env) (p0:C) (p1:Int) (p2:Int) (p3:C):Option (List Row):=
 if (0:Int)≤0∧0≤p1∧p1≤(p0.rows.length:Int)then
 if ((slcC p0 0 p1).rows).length*112≤140737488355328 then
 if (((appC .nils ((slcC p0 0 p1).rows)).rows).length+p3.rows.length)*112≤140737488355328 then
 if (0:Int)≤(Go.IntKind.i64.wrap (p1+p2))∧(Go.IntKind.i64.wrap (p1+p2))≤(p0.rows.length:Int)∧(p0.rows.length:Int)≤(p0.rows.length:Int)then
 if (((appC (appC .nils ((slcC p0 0 p1).rows)) p3.rows).rows).length+((slcC p0 (Go.IntKind.i64.wrap (p1+p2)) (p0.rows.length:Int)).rows).length)*112≤140737488355328 then
 some [[appC (appC (appC .nils ((slcC p0 0 p1).rows)) p3.rows) ((slcC p0 (Go.IntKind.i64.wrap (p1+p2)) (p0.rows.length:Int)).rows)]]
 else none
 else none
 else none
 else none
 else none
theorem clapref3_spliced_2_api_Value_eq (E:Env) (p0:C) (p1:Int) (p2:Int) (p3:C):runP E clapref3_spliced_2_api_Value_a [[p0],[.int p1],[.int p2],[p3]]=clapref3_spliced_2_api_Value E p0 p1 p2 p3:=by kernel_rfl
def clapref3_Sorted_h1:Shape:={slots:=[(3, .d (.one (.sl 40))),(4, .sw 0),(5, .d lI),(13, .d (.one (.sl 40))),(14, .d lI),(15, .d lI)],objs:=[.sarr 40 lA0]}
def clapref3_Sorted_o1:List (Exit'×Shape):=[(.exit 2,{slots:=[(3, .d (.one (.sl 40))),(4, .sw 0),(5, .d lI)],objs:=[.sarr 40 lA0]})]
def clapref3_Sorted_c1:ACode:=(.seq (.region [] [oq 16 (.icmp .lss (.t 15) (.t 14))] false 0)
 (.seq (.cond (.t 16) .skip
 (.exit 2))
 (.seq (.block 3 (.seq (.region [] [oq 17 (.mov (.t 15)),
 oq 18 (.iad 40 lA0 (.t 13) (.t 15)),
 oq 19 (.ld lA0 40 (.t 18)),
 oq 7 (.allocO 0 lA0 [.int 0, .int 0, .str [], .nils, .int 0, .int 0, .str [], .nils]),
 oq 6 (.mov (.t 17)),
 ⟨none, .st lA0 (.t 7) (.t 19),none,[]⟩] false 1)
 (.seq (.region [] [oq 20 (.iadA 2 40 33 lA2 (.t 7) (.c lI [.int 0])),
 ⟨some 21, .ld lA2 33 (.t 20),none,[0]⟩,
 oq 22 (.mov (.t 3)),
 oq 23 (.mov (.t 5)),
 ⟨some 24, .iad 40 lA0 (.t 22) (.t 23),none,[2,3]⟩,
 ⟨some 25, .iadA 2 40 33 lA2 (.t 24) (.c lI [.int 0]),none,[2,3,4]⟩,
 ⟨some 26, .ld lA2 33 (.t 25),none,[2,3,4,5]⟩,
 ⟨some 27, .call 29 [lA2,lA2] [lI] [(.t 21),(.t 26)],none,[0,1,2,3,4,5,6]⟩,
 ⟨some 28, .icmp .lss (.t 27) (.c lI [.int 0]),none,[0,1,2,3,4,5,6,7]⟩] true 0)
 (.cond (.t 28) (.region [] [oq 29 (.mov (.t 6)),
 oq 5 (.mov (.t 29))] false 0)
 .skip))))
 (.region [] [oq 30 (.ibin .add (.t 15) (.c lI [.int 1])),
 oq 15 (.mov (.t 30))] false 0))))
noncomputable def clapref3_Sorted_l1 (E:Env) (v0:C) (v1:Int) (v2:C) (v3:Int) (v4:Int) (v5:C):Option (Nat×List PV):=E.fix (stepOf E clapref3_Sorted_c1 clapref3_Sorted_h1 clapref3_Sorted_o1) [.r [v0], .r [.int v1], .r [v2], .r [.int v3], .r [.int v4], .r [v5]]
noncomputable def clapref3_Sorted_b1 (E:Env) (X:C→Int→C→Int→Int→C→Option (Nat×List PV)) (v0:C) (v1:Int) (v2:C) (v3:Int) (v4:Int) (v5:C):Option (Nat×List PV):=
 if (decide (v4<v3))=true then
 if (0:Int)≤v4∧v4<(v2.rows.length:Int)then
 if (0:Int)≤v1∧v1<(v0.rows.length:Int)then
 (E.pc n_value_Cmp [[at_ (rowsAt v2.rows v4.toNat) 0,at_ (rowsAt v2.rows v4.toNat) 1,at_ (rowsAt v2.rows v4.toNat) 2,at_ (rowsAt v2.rows v4.toNat) 3],[at_ (rowsAt v0.rows v1.toNat) 0,at_ (rowsAt v0.rows v1.toNat) 1,at_ (rowsAt v0.rows v1.toNat) 2,at_ (rowsAt v0.rows v1.toNat) 3]]).bind fun y1=>
 if (decide (((at_ (rowsAt y1 0) 0).toI)<0))=true then
 X v0 v4 v2 v3 (Go.IntKind.i64.wrap (v4+1)) v5
 else
 X v0 v1 v2 v3 (Go.IntKind.i64.wrap (v4+1)) v5
 else none
 else none
 else
 some (0,[.r [v0], .r [.int v1], .r [v5]])
theorem clapref3_Sorted_s1 (E:Env) (X:List PV→Option (Nat×List PV)) (v0:C) (v1:Int) (v2:C) (v3:Int) (v4:Int) (v5:C):stepOf E clapref3_Sorted_c1 clapref3_Sorted_h1 clapref3_Sorted_o1 X [.r [v0], .r [.int v1], .r [v2], .r [.int v3], .r [.int v4], .r [v5]]=clapref3_Sorted_b1 E (fun (v0:C) (v1:Int) (v2:C) (v3:Int) (v4:Int) (v5:C)=>X [.r [v0], .r [.int v1], .r [v2], .r [.int v3], .r [.int v4], .r [v5]]) v0 v1 v2 v3 v4 v5:=by kernel_rfl
def clapref3_Sorted_h0:Shape:={slots:=[(3, .d (.one (.sl 40))),(4, .sw 0)],objs:=[.sarr 40 lA0]}
def clapref3_Sorted_o0:List (Exit'×Shape):=[(.exit 0,{slots:=[(4, .sw 0)],objs:=[.sarr 40 lA0]})]
def clapref3_Sorted_c0:ACode:=(.seq (.seq (.region [] [oq 10 (.mov (.t 3)),
 oq 11 (.lenL (.t 10)),
 oq 12 (.icmp .gtr (.t 11) (.c lI [.int 0]))] false 0)
 (.cond (.t 12) .skip
 (.exit 0)))
 (.block 1 (.seq (.region [] [oq 5 (.mov (.c lI [.int 0]))] false 0)
 (.seq (.seq (.region [] [oq 13 (.mov (.t 3)),
 oq 14 (.lenL (.t 13)),
 oq 15 (.mov (.c lI [.int 0]))] false 0)
 (.block 2 (.loop clapref3_Sorted_h1 clapref3_Sorted_o1 clapref3_Sorted_c1)))
 (.seq (.region [] [oq 31 (.mov (.t 4)),
 oq 32 (.mov (.t 3)),
 oq 33 (.mov (.t 5)),
 oq 34 (.iad 40 lA0 (.t 32) (.t 33)),
 oq 35 (.ld lA0 40 (.t 34)),
 oq 36 (.bsl 40 lA0 1 [.int 0, .int 0, .str [], .nils, .int 0, .int 0, .str [], .nils] [(0,(.t 35))]),
 oq 37 (.appW 0 40 lA0 112 (.t 31) (.t 36)),
 oq 4 (.mov (.t 37))] false 1)
 (.region [] [oq 38 (.mov (.t 3)),
 oq 39 (.mov (.t 5)),
 oq 40 (.call 38 [(.one (.sl 40)),lI,lI,(.one (.sl 40))] [(.one (.sl 40))] [(.t 38),(.t 39),(.c lI [.int 1]),(.c (.one (.sl 40)) [.nils])]),
 oq 3 (.mov (.t 40))] false 0))))))
noncomputable def clapref3_Sorted_l0 (E:Env) (v0:C) (v1:C):Option (Nat×List PV):=E.fix (stepOf E clapref3_Sorted_c0 clapref3_Sorted_h0 clapref3_Sorted_o0) [.r [v0], .r [v1]]
noncomputable def clapref3_Sorted_b0 (E:Env) (X:C→C→Option (Nat×List PV)) (v0:C) (v1:C):Option (Nat×List PV):=
 if (decide ((v0.rows.length:Int)>0))=true then
 (clapref3_Sorted_l1 E v0 0 v0 (v0.rows.length:Int) 0 v1).bind fun x2=>
 if (0:Int)≤(gI 1 x2.2)∧(gI 1 x2.2)<(((gC 0 x2.2).rows).length:Int)then
 if (((gC 2 x2.2).rows).length+([rowsAt ((gC 0 x2.2).rows) ((gI 1 x2.2).toNat)]:List Row).length)*112≤140737488355328 then
 (E.pc n_clapref3_spliced_2_api_Value [[gC 0 x2.2],[.int (gI 1 x2.2)],[.int 1],[.nils]]).bind fun y3=>
 X (at_ (rowsAt y3 0) 0) (appC (gC 2 x2.2) ([rowsAt ((gC 0 x2.2).rows) ((gI 1 x2.2).toNat)]:List Row))
 else none
 else none
 else
 some (0,[.r [v1]])
theorem clapref3_Sorted_s0 (E:Env) (X:List PV→Option (Nat×List PV)) (v0:C) (v1:C):stepOf E clapref3_Sorted_c0 clapref3_Sorted_h0 clapref3_Sorted_o0 X [.r [v0], .r [v1]]=clapref3_Sorted_b0 E (fun (v0:C) (v1:C)=>X [.r [v0], .r [v1]]) v0 v1:=by kernel_rfl
def clapref3_Sorted_a:AFun:={ps:=[(.one (.sl 40))],rs:=[(.one (.sl 40))],res:=[(false,2,(some lA0))],body:=(.seq (.region [] [oq 2 (.mov (.c (.one (.sl 40)) [.nils]))] false 0)
 (.seq (.region [] [oq 8 (.mov (.t 0)),
 oq 9 (.appW 0 40 lA0 112 (.c (.one (.sl 40)) [.nils]) (.t 8)),
 oq 3 (.mov (.t 9))] false 1)
 (.seq (.region [] [oq 4 (.nilS 0 40 lA0)] false 1)
 (.seq (.block 0 (.loop clapref3_Sorted_h0 clapref3_Sorted_o0 clapref3_Sorted_c0))
 (.seq (.region [] [oq 41 (.mov (.t 4)),
 oq 2 (.mov (.t 41))] false 0)
 .ret)))))}
noncomputable def clapref3_Sorted (E:Env) (p0:C):Option (List Row):=
 if p0.rows.length*112≤140737488355328 then
 (clapref3_Sorted_l0 E (appC .nils p0.rows) .nils).bind fun x4=>
 some [[gC 0 x4.2]]
 else none
theorem clapref3_Sorted_eq (E:Env) (p0:C):runP E clapref3_Sorted_a [[p0]]=clapref3_Sorted E p0:=by kernel_rfl
def clapref3_id_a:AFun:={ps:=[lA2],rs:=[lS],res:=[(false,2,none)],body:=(.seq (.region [] [oq 1 (.boxP lA2 33 (.t 0)),
 oq 2 (.mov (.c lS [.str ([]:List UInt8)]))] false 0)
 (.seq (.region [] [oq 3 (.fad 0 1 33 3 (.t 1)),
 ⟨some 4, .ld lI 3 (.t 3),none,[0]⟩,
 ⟨some 5, .call 37 [lI] [lS] [(.t 4)],none,[0,1]⟩,
 ⟨some 6, .scat (.t 5) (.c lS [.str ([32]:List UInt8)]),none,[0,1,2]⟩,
 oq 7 (.fad 1 1 33 3 (.t 1)),
 ⟨some 8, .ld lI 3 (.t 7),none,[4]⟩,
 ⟨some 9, .call 37 [lI] [lS] [(.t 8)],none,[0,1,2,4,5]⟩,
 ⟨some 10, .scat (.t 6) (.t 9),none,[0,1,2,3,4,5,6]⟩,
 ⟨some 11, .scat (.t 10) (.c lS [.str ([32]:List UInt8)]),none,[0,1,2,3,4,5,6,7]⟩,
 oq 12 (.fad 2 1 33 9 (.t 1)),
 ⟨some 13, .ld lS 9 (.t 12),none,[9]⟩,
 ⟨some 14, .scat (.t 11) (.t 13),none,[0,1,2,3,4,5,6,7,8,9,10]⟩,
 ⟨some 2, .mov (.t 14),none,[0,1,2,3,4,5,6,7,8,9,10,11]⟩] true 0)
 .ret))}
noncomputable def clapref3_id (E:Env) (p0:Row):Option (List Row):=
 (E.pc n_strconv_Itoa [[.int ((at_ p0 0).toI)]]).bind fun y1=>
 if ((at_ (rowsAt y1 0) 0).toS).length+([32]:List UInt8).length≤1099511627776 then
 (E.pc n_strconv_Itoa [[.int ((at_ p0 1).toI)]]).bind fun y2=>
 if (((at_ (rowsAt y1 0) 0).toS)++([32]:List UInt8)).length+((at_ (rowsAt y2 0) 0).toS).length≤1099511627776 then
 if ((((at_ (rowsAt y1 0) 0).toS)++([32]:List UInt8))++((at_ (rowsAt y2 0) 0).toS)).length+([32]:List UInt8).length≤1099511627776 then
 if (((((at_ (rowsAt y1 0) 0).toS)++([32]:List UInt8))++((at_ (rowsAt y2 0) 0).toS))++([32]:List UInt8)).length+((at_ p0 2).toS).length≤1099511627776 then
 some [[.str ((((((at_ (rowsAt y1 0) 0).toS)++([32]:List UInt8))++((at_ (rowsAt y2 0) 0).toS))++([32]:List UInt8))++((at_ p0 2).toS))]]
 else none
 else none
 else none
 else none
theorem clapref3_id_eq (E:Env) (p0:Row):runP E clapref3_id_a [p0]=clapref3_id E p0:=by kernel_rfl
def clapref3_maps_i17_h0:Shape:={slots:=[(2, .map 0),(3, .map 1),(8, .d (.one (.sl 40))),(9, .d lI),(10, .d lI)],objs:=bS1}
def clapref3_maps_i17_o0:List (Exit'×Shape):=[(.exit 0,{slots:=[(2, .map 0),(3, .map 1)],objs:=bS1})]
def clapref3_maps_i17_c0:ACode:=(.seq (.region [] [oq 11 (.icmp .lss (.t 10) (.t 9))] false 0)
 (.seq (.cond (.t 11) .skip
 (.exit 0))
 (.seq (.block 1 (.seq (.region [] [oq 12 (.iad 40 lA0 (.t 8) (.t 10)),
 oq 13 (.ld lA0 40 (.t 12)),
 oq 5 (.allocO 0 lA0 [.int 0, .int 0, .str [], .nils, .int 0, .int 0, .str [], .nils]),
 ⟨none, .st lA0 (.t 5) (.t 13),none,[]⟩] false 1)
 (.region [] [oq 14 (.mov (.t 2)),
 oq 15 (.iadA 2 40 33 lA2 (.t 5) (.c lI [.int 0])),
 ⟨some 16, .ld lA2 33 (.t 15),none,[1]⟩,
 ⟨some 17, .call 24 [lA2] [lS] [(.t 16)],none,[1,2]⟩,
 oq 18 (.mov (.t 3)),
 oq 19 (.iadA 2 40 33 lA2 (.t 5) (.c lI [.int 1])),
 ⟨some 20, .ld lA2 33 (.t 19),none,[5]⟩,
 ⟨some 21, .call 24 [lA2] [lS] [(.t 20)],none,[1,2,3,5,6]⟩,
 oq 22 (.iadA 2 40 33 lA2 (.t 5) (.c lI [.int 1])),
 ⟨some 23, .ld lA2 33 (.t 22),none,[8]⟩,
 oq 24 (.iadA 2 40 33 lA2 (.t 5) (.c lI [.int 0])),
 ⟨some 25, .ld lA2 33 (.t 24),none,[10]⟩,
 ⟨some 26, .ent lS lA2 [.int 0, .int 0, .str [], .nils] (.t 14) (.t 17),none,[0,1,2,3,5,6,7]⟩,
 ⟨some 27, .ext 1 (.t 26),none,[0,1,2,3,5,6,7,12]⟩,
 ⟨none, .est (.t 14) (.t 27) (.t 23),none,[0,1,2,3,5,6,7,8,9,12,13]⟩,
 ⟨none, .mup lS (.t 18) (.t 21) (.t 25),none,[0,1,2,3,4,5,6,7,8,9,10,11,12,13,14]⟩] true 0)))
 (.region [] [oq 28 (.ibin .add (.t 10) (.c lI [.int 1])),
 oq 10 (.mov (.t 28))] false 0))))
noncomputable def clapref3_maps_i17_l0 (E:Env) (v0:C) (v1:Int) (v2:Int) (v3:List (Row×Row)) (v4:List (Row×Row)):Option (Nat×List PV):=E.fix (stepOf E clapref3_maps_i17_c0 clapref3_maps_i17_h0 clapref3_maps_i17_o0) [.r [v0], .r [.int v1], .r [.int v2], .m v3, .m v4]
noncomputable def clapref3_maps_i17_b0 (E:Env) (X:C→Int→Int→List (Row×Row)→List (Row×Row)→Option (Nat×List PV)) (v0:C) (v1:Int) (v2:Int) (v3:List (Row×Row)) (v4:List (Row×Row)):Option (Nat×List PV):=
 if (decide (v2<v1))=true then
 if (0:Int)≤v2∧v2<(v0.rows.length:Int)then
 (E.pc n_clapref3_id [[at_ (rowsAt v0.rows v2.toNat) 0,at_ (rowsAt v0.rows v2.toNat) 1,at_ (rowsAt v0.rows v2.toNat) 2,at_ (rowsAt v0.rows v2.toNat) 3]]).bind fun y1=>
 (E.pc n_clapref3_id [[at_ (rowsAt v0.rows v2.toNat) 4,at_ (rowsAt v0.rows v2.toNat) 5,at_ (rowsAt v0.rows v2.toNat) 6,at_ (rowsAt v0.rows v2.toNat) 7]]).bind fun y2=>
 if (0:Int)≤((idxE lS [.str ((at_ (rowsAt y1 0) 0).toS)] v3:Nat):Int)∧((idxE lS [.str ((at_ (rowsAt y1 0) 0).toS)] v3:Nat):Int)<((setE lS [.str ((at_ (rowsAt y1 0) 0).toS)] ((findE lS [.str ((at_ (rowsAt y1 0) 0).toS)] v3).getD [.int 0, .int 0, .str [], .nils]) v3).length:Int)then
 X v0 v1 (Go.IntKind.i64.wrap (v2+1)) ((setE lS [.str ((at_ (rowsAt y1 0) 0).toS)] ((findE lS [.str ((at_ (rowsAt y1 0) 0).toS)] v3).getD [.int 0, .int 0, .str [], .nils]) v3).modify ((idxE lS [.str ((at_ (rowsAt y1 0) 0).toS)] v3:Nat):Int).toNat fun e=>(e.1,[at_ (rowsAt v0.rows v2.toNat) 4,at_ (rowsAt v0.rows v2.toNat) 5,at_ (rowsAt v0.rows v2.toNat) 6,at_ (rowsAt v0.rows v2.toNat) 7])) (setE lS [.str ((at_ (rowsAt y2 0) 0).toS)] [at_ (rowsAt v0.rows v2.toNat) 0,at_ (rowsAt v0.rows v2.toNat) 1,at_ (rowsAt v0.rows v2.toNat) 2,at_ (rowsAt v0.rows v2.toNat) 3] v4)
 else none
 else none
 else
 some (0,[.m v3, .m v4])
theorem clapref3_maps_i17_s0 (E:Env) (X:List PV→Option (Nat×List PV)) (v0:C) (v1:Int) (v2:Int) (v3:List (Row×Row)) (v4:List (Row×Row)):stepOf E clapref3_maps_i17_c0 clapref3_maps_i17_h0 clapref3_maps_i17_o0 X [.r [v0], .r [.int v1], .r [.int v2], .m v3, .m v4]=clapref3_maps_i17_b0 E (fun (v0:C) (v1:Int) (v2:Int) (v3:List (Row×Row)) (v4:List (Row×Row))=>X [.r [v0], .r [.int v1], .r [.int v2], .m v3, .m v4]) v0 v1 v2 v3 v4:=by kernel_rfl
def clapref3_maps_i17_a:AImp:={fn:=22,entry:=clapref3_maps_i17_en,res:=[.tmp 2, .tmp 3],exit:=clapref3_maps_i17_ex,body:=(.seq (.region [] [oq 2 (.nilM),
 oq 3 (.nilM)] false 0)
 (.seq (.region [] [oq 6 (.mkm 0 lS lA2),
 oq 7 (.mkm 1 lS lA2),
 oq 2 (.mov (.t 6)),
 oq 3 (.mov (.t 7))] false 2)
 (.seq (.seq (.region [] [oq 8 (.mov (.t 0)),
 oq 9 (.lenL (.t 8)),
 oq 10 (.mov (.c lI [.int 0]))] false 0)
 (.block 0 (.loop clapref3_maps_i17_h0 clapref3_maps_i17_o0 clapref3_maps_i17_c0)))
 (.seq (.region [] [oq 29 (.mov (.t 2)),
 oq 30 (.mov (.t 3)),
 oq 2 (.mov (.t 29)),
 oq 3 (.mov (.t 30))] false 0)
 .ret))))}
noncomputable def clapref3_maps_i17 (E:Env) (p0:C):Option (List PV):=
 (clapref3_maps_i17_l0 E p0 (p0.rows.length:Int) 0 [] []).bind fun x3=>
 some [.m (gM 0 x3.2), .m (gM 1 x3.2)]
theorem clapref3_maps_i17_eq (E:Env) (p0:C):runI E clapref3_maps_i17_a [.r [p0]]=clapref3_maps_i17 E p0:=by kernel_rfl
def clapref3_Compose_h0:Shape:={slots:=[(7, .map 0),(9, .sw 1),(29, .d (.one (.sl 40))),(30, .d lI),(31, .d lI)],objs:=[.map lS lA2, .sarr 40 lA0]}
def clapref3_Compose_o0:List (Exit'×Shape):=[(.exit 0,{slots:=[(9, .sw 0)],objs:=[.sarr 40 lA0]})]
def clapref3_Compose_c0:ACode:=(.seq (.region [] [oq 32 (.icmp .lss (.t 31) (.t 30))] false 0)
 (.seq (.cond (.t 32) .skip
 (.exit 0))
 (.seq (.block 1 (.seq (.region [] [oq 33 (.iad 40 lA0 (.t 29) (.t 31)),
 oq 34 (.ld lA0 40 (.t 33)),
 oq 11 (.allocO 0 lA0 [.int 0, .int 0, .str [], .nils, .int 0, .int 0, .str [], .nils]),
 ⟨none, .st lA0 (.t 11) (.t 34),none,[]⟩] false 1)
 (.seq (.region [] [oq 36 (.mov (.t 7)),
 oq 37 (.iadA 2 40 33 lA2 (.t 11) (.c lI [.int 1])),
 oq 38 (.ld lA2 33 (.t 37)),
 oq 39 (.call 24 [lA2] [lS] [(.t 38)]),
 oq 40 (.lk lS lA2 [.int 0, .int 0, .str [], .nils] (.t 36) (.t 39) true),
 oq 35 (.mov (.t 40)),
 oq 41 (.ext 0 (.t 35)),
 oq 42 (.ext 1 (.t 35)),
 oq 12 (.allocO 0 lA2 [.int 0, .int 0, .str [], .nils]),
 ⟨none, .st lA2 (.t 12) (.t 41),none,[]⟩,
 oq 13 (.mov (.t 42))] false 1)
 (.seq (.region [] [oq 43 (.mov (.t 13))] false 0)
 (.cond (.t 43) (.region [] [oq 44 (.mov (.t 9)),
 oq 45 (.iadA 2 40 33 lA2 (.t 11) (.c lI [.int 0])),
 oq 46 (.ld lA2 33 (.t 45)),
 oq 47 (.ld lA2 33 (.t 12)),
 oq 48 (.bld lA0 [.int 0, .int 0, .str [], .nils, .int 0, .int 0, .str [], .nils] [(0,4,(.t 46)),(4,4,(.t 47))]),
 oq 49 (.bsl 40 lA0 1 [.int 0, .int 0, .str [], .nils, .int 0, .int 0, .str [], .nils] [(0,(.t 48))]),
 oq 50 (.appW 0 40 lA0 112 (.t 44) (.t 49)),
 oq 9 (.mov (.t 50))] false 1)
 .skip)))))
 (.region [] [oq 51 (.ibin .add (.t 31) (.c lI [.int 1])),
 oq 31 (.mov (.t 51))] false 0))))
noncomputable def clapref3_Compose_l0 (E:Env) (v0:C) (v1:Int) (v2:Int) (v3:List (Row×Row)) (v4:C):Option (Nat×List PV):=E.fix (stepOf E clapref3_Compose_c0 clapref3_Compose_h0 clapref3_Compose_o0) [.r [v0], .r [.int v1], .r [.int v2], .m v3, .r [v4]]
noncomputable def clapref3_Compose_b0 (E:Env) (X:C→Int→Int→List (Row×Row)→C→Option (Nat×List PV)) (v0:C) (v1:Int) (v2:Int) (v3:List (Row×Row)) (v4:C):Option (Nat×List PV):=
 if (decide (v2<v1))=true then
 if (0:Int)≤v2∧v2<(v0.rows.length:Int)then
 (E.pc n_clapref3_id [[at_ (rowsAt v0.rows v2.toNat) 4,at_ (rowsAt v0.rows v2.toNat) 5,at_ (rowsAt v0.rows v2.toNat) 6,at_ (rowsAt v0.rows v2.toNat) 7]]).bind fun y6=>
 if ((findE lS [.str ((at_ (rowsAt y6 0) 0).toS)] v3).isSome)=true then
 if (v4.rows.length+([[at_ (rowsAt v0.rows v2.toNat) 0,at_ (rowsAt v0.rows v2.toNat) 1,at_ (rowsAt v0.rows v2.toNat) 2,at_ (rowsAt v0.rows v2.toNat) 3,at_ ((findE lS [.str ((at_ (rowsAt y6 0) 0).toS)] v3).getD [.int 0, .int 0, .str [], .nils]) 0,at_ ((findE lS [.str ((at_ (rowsAt y6 0) 0).toS)] v3).getD [.int 0, .int 0, .str [], .nils]) 1,at_ ((findE lS [.str ((at_ (rowsAt y6 0) 0).toS)] v3).getD [.int 0, .int 0, .str [], .nils]) 2,at_ ((findE lS [.str ((at_ (rowsAt y6 0) 0).toS)] v3).getD [.int 0, .int 0, .str [], .nils]) 3]]:List Row).length)*112≤140737488355328 then
 X v0 v1 (Go.IntKind.i64.wrap (v2+1)) v3 (appC v4 ([[at_ (rowsAt v0.rows v2.toNat) 0,at_ (rowsAt v0.rows v2.toNat) 1,at_ (rowsAt v0.rows v2.toNat) 2,at_ (rowsAt v0.rows v2.toNat) 3,at_ ((findE lS [.str ((at_ (rowsAt y6 0) 0).toS)] v3).getD [.int 0, .int 0, .str [], .nils]) 0,at_ ((findE lS [.str ((at_ (rowsAt y6 0) 0).toS)] v3).getD [.int 0, .int 0, .str [], .nils]) 1,at_ ((findE lS [.str ((at_ (rowsAt y6 0) 0).toS)] v3).getD [.int 0, .int 0, .str [], .nils]) 2,at_ ((findE lS [.str ((at_ (rowsAt y6 0) 0).toS)] v3).getD [.int 0, .int 0, .str [], .nils]) 3]]:List Row))
 else none
 else
 X v0 v1 (Go.IntKind.i64.wrap (v2+1)) v3 v4
 else none
 else
 some (0,[.r [v4]])
theorem clapref3_Compose_s0 (E:Env) (X:List PV→Option (Nat×List PV)) (v0:C) (v1:Int) (v2:Int) (v3:List (Row×Row)) (v4:C):stepOf E clapref3_Compose_c0 clapref3_Compose_h0 clapref3_Compose_o0 X [.r [v0], .r [.int v1], .r [.int v2], .m v3, .r [v4]]=clapref3_Compose_b0 E (fun (v0:C) (v1:Int) (v2:Int) (v3:List (Row×Row)) (v4:C)=>X [.r [v0], .r [.int v1], .r [.int v2], .m v3, .r [v4]]) v0 v1 v2 v3 v4:=by kernel_rfl
def clapref3_Compose_a:AFun:={ps:=[(.one (.sl 40)),(.one (.sl 40))],rs:=[(.one (.sl 40)),lI],res:=[(false,4,(some lA0)),(false,5,none)],body:=(.seq (.region [] [oq 4 (.mov (.c (.one (.sl 40)) [.nils])),
 oq 5 (.mov (.c lI [.int 0]))] false 0)
 (.seq (.seq (.region [] [oq 14 (.mov (.t 0)),
 oq 15 (.call 21 [(.one (.sl 40))] [lI] [(.t 14)]),
 oq 16 (.mov (.t 1)),
 oq 17 (.call 21 [(.one (.sl 40))] [lI] [(.t 16)]),
 oq 18 (.bsl 25 lI 2 [.int 0] [(0,(.t 15)),(1,(.t 17))]),
 oq 19 (.call 20 [(.one (.sl 25))] [lI] [(.t 18)]),
 oq 6 (.mov (.t 19))] false 0)
 (.seq (.region [] [oq 20 (.mov (.t 6)),
 oq 21 (.icmp .neq (.t 20) (.c lI [.int 0]))] false 0)
 (.cond (.t 21) (.seq (.region [] [oq 22 (.mov (.t 6)),
 oq 4 (.mov (.c (.one (.sl 40)) [.nils])),
 oq 5 (.mov (.t 22))] false 0)
 .ret)
 .skip)))
 (.seq (.region [] [oq 24 (.mov (.t 1)),
 oq 25 (.icall 167 22 (clapref3_maps_i17_en) (clapref3_maps_i17_ex) [] 0 none [(.t 24)]),
 oq 23 (.mov (.t 25)),
 oq 26 (.ext 0 (.t 23)),
 oq 27 (.ext 1 (.t 23)),
 oq 7 (.mov (.t 26)),
 oq 8 (.mov (.t 27))] false 2)
 (.seq (.region [] [oq 9 (.nilS 0 40 lA0)] false 1)
 (.seq (.seq (.region [] [oq 28 (.mov (.t 0)),
 oq 29 (.call 23 [(.one (.sl 40))] [(.one (.sl 40))] [(.t 28)]),
 oq 30 (.lenL (.t 29)),
 oq 31 (.mov (.c lI [.int 0]))] false 0)
 (.block 0 (.loop clapref3_Compose_h0 clapref3_Compose_o0 clapref3_Compose_c0)))
 (.seq (.seq (.region [] [oq 52 (.mov (.t 9)),
 oq 53 (.nileq false (.t 52))] false 0)
 (.cond (.t 53) (.seq (.region [] [oq 4 (.mov (.c (.one (.sl 40)) [.nils])),
 oq 5 (.mov (.c lI [.int 4]))] false 0)
 .ret)
 .skip))
 (.seq (.region [] [oq 54 (.mov (.t 9)),
 oq 4 (.mov (.t 54)),
 oq 5 (.mov (.c lI [.int 0]))] false 0)
 .ret)))))))}
noncomputable def clapref3_Compose (E:Env) (p0:C) (p1:C):Option (List Row):=
 (E.pc n_clapref3_Pairs [[p0]]).bind fun y1=>
 (E.pc n_clapref3_Pairs [[p1]]).bind fun y2=>
 (E.pc n_clapref3_first [[.sl ([[.int ((at_ (rowsAt y1 0) 0).toI)],[.int ((at_ (rowsAt y2 0) 0).toI)]]:List Row)]]).bind fun y3=>
 if (((at_ (rowsAt y3 0) 0).toI) !=0)=true then
 some [[.nils],[.int ((at_ (rowsAt y3 0) 0).toI)]]
 else
 (E.ic clapref3_maps_i17_n [.r [p1]]).bind fun y4=>
 (E.pc n_clapref3_Sorted [[p0]]).bind fun y5=>
 (clapref3_Compose_l0 E (at_ (rowsAt y5 0) 0) (((at_ (rowsAt y5 0) 0).rows).length:Int) 0 (gM 0 y4) .nils).bind fun x7=>
 if ((gC 0 x7.2).isNil)=true then
 some [[.nils],[.int 4]]
 else
 some [[gC 0 x7.2],[.int 0]]
theorem clapref3_Compose_eq (E:Env) (p0:C) (p1:C):runP E clapref3_Compose_a [[p0],[p1]]=clapref3_Compose E p0 p1:=by kernel_rfl
def slices_EqualFunc_2_api_Value_h0:Shape:={slots:=[(1, .d (.one (.sl 40))),(2, .d (.one (.fn 53))),(15, .d (.one (.sl 40))),(16, .d lI),(17, .d lI)],objs:=[]}
def slices_EqualFunc_2_api_Value_o0:List (Exit'×Shape):=[(.exit 0,{slots:=[],objs:=[]}),(.ret,{slots:=[(6, .d lB)],objs:=[]})]
def slices_EqualFunc_2_api_Value_c0:ACode:=(.seq (.region [] [oq 18 (.icmp .lss (.t 17) (.t 16))] false 0)
 (.seq (.cond (.t 18) .skip
 (.exit 0))
 (.seq (.block 1 (.seq (.region [] [oq 19 (.mov (.t 17)),
 oq 20 (.iad 40 lA0 (.t 15) (.t 17)),
 oq 21 (.ld lA0 40 (.t 20)),
 oq 8 (.allocO 0 lA0 [.int 0, .int 0, .str [], .nils, .int 0, .int 0, .str [], .nils]),
 oq 7 (.mov (.t 19)),
 ⟨none, .st lA0 (.t 8) (.t 21),none,[]⟩] false 1)
 (.seq (.region [] [oq 22 (.mov (.t 1)),
 oq 23 (.mov (.t 7)),
 oq 24 (.iad 40 lA0 (.t 22) (.t 23)),
 oq 25 (.ld lA0 40 (.t 24)),
 oq 9 (.allocO 0 lA0 [.int 0, .int 0, .str [], .nils, .int 0, .int 0, .str [], .nils]),
 ⟨none, .st lA0 (.t 9) (.t 25),none,[]⟩] false 1)
 (.seq (.region [] [oq 26 (.mov (.t 2)),
 oq 27 (.ld lA0 40 (.t 8)),
 oq 28 (.ld lA0 40 (.t 9)),
 oq 29 (.callv 53 [lA0,lA0] [lB] (.t 26) [(.t 27),(.t 28)]),
 oq 30 (.not (.t 29))] false 0)
 (.cond (.t 30) (.seq (.region [] [oq 6 (.mov (.c lB [.bool false]))] false 0)
 .ret)
 .skip)))))
 (.region [] [oq 31 (.ibin .add (.t 17) (.c lI [.int 1])),
 oq 17 (.mov (.t 31))] false 0))))
noncomputable def slices_EqualFunc_2_api_Value_l0 (E:Env) (v0:C) (v1:C) (v2:C) (v3:Int) (v4:Int):Option (Nat×List PV):=E.fix (stepOf E slices_EqualFunc_2_api_Value_c0 slices_EqualFunc_2_api_Value_h0 slices_EqualFunc_2_api_Value_o0) [.r [v0], .r [v1], .r [v2], .r [.int v3], .r [.int v4]]
noncomputable def slices_EqualFunc_2_api_Value_b0 (E:Env) (X:C→C→C→Int→Int→Option (Nat×List PV)) (v0:C) (v1:C) (v2:C) (v3:Int) (v4:Int):Option (Nat×List PV):=
 if (decide (v4<v3))=true then
 if (0:Int)≤v4∧v4<(v2.rows.length:Int)then
 if (0:Int)≤v4∧v4<(v0.rows.length:Int)then
 (callC E v1 [rowsAt v2.rows v4.toNat,rowsAt v0.rows v4.toNat]).bind fun y1=>
 if (!((at_ (rowsAt y1 0) 0).toB))=true then
 some (1,[.r [.bool false]])
 else
 X v0 v1 v2 v3 (Go.IntKind.i64.wrap (v4+1))
 else none
 else none
 else
 some (0,[])
theorem slices_EqualFunc_2_api_Value_s0 (E:Env) (X:List PV→Option (Nat×List PV)) (v0:C) (v1:C) (v2:C) (v3:Int) (v4:Int):stepOf E slices_EqualFunc_2_api_Value_c0 slices_EqualFunc_2_api_Value_h0 slices_EqualFunc_2_api_Value_o0 X [.r [v0], .r [v1], .r [v2], .r [.int v3], .r [.int v4]]=slices_EqualFunc_2_api_Value_b0 E (fun (v0:C) (v1:C) (v2:C) (v3:Int) (v4:Int)=>X [.r [v0], .r [v1], .r [v2], .r [.int v3], .r [.int v4]]) v0 v1 v2 v3 v4:=by kernel_rfl
def slices_EqualFunc_2_api_Value_a:AFun:={ps:=[(.one (.sl 40)),(.one (.sl 40)),(.one (.fn 53))],rs:=[lB],res:=[(false,6,none)],body:=(.seq (.region [] [oq 6 (.mov (.c lB [.bool false]))] false 0)
 (.seq (.seq (.region [] [oq 10 (.mov (.t 0)),
 oq 11 (.lenL (.t 10)),
 oq 12 (.mov (.t 1)),
 oq 13 (.lenL (.t 12)),
 oq 14 (.icmp .neq (.t 11) (.t 13))] false 0)
 (.cond (.t 14) (.seq (.region [] [oq 6 (.mov (.c lB [.bool false]))] false 0)
 .ret)
 .skip))
 (.seq (.seq (.region [] [oq 15 (.mov (.t 0)),
 oq 16 (.lenL (.t 15)),
 oq 17 (.mov (.c lI [.int 0]))] false 0)
 (.block 0 (.loop slices_EqualFunc_2_api_Value_h0 slices_EqualFunc_2_api_Value_o0 slices_EqualFunc_2_api_Value_c0)))
 (.seq (.region [] [oq 6 (.mov (.c lB [.bool true]))] false 0)
 .ret))))}
noncomputable def slices_EqualFunc_2_api_Value (E:Env) (p0:C) (p1:C) (p2:C):Option (List Row):=
 if ((p0.rows.length:Int) !=(p1.rows.length:Int))=true then
 some [[.bool false]]
 else
 (slices_EqualFunc_2_api_Value_l0 E p1 p2 p0 (p0.rows.length:Int) 0).bind fun x2=>
 match x2.1 with
 |0=>
 some [[.bool true]]
 |i3+1=>
 some [[.bool (gB 0 x2.2)]]
theorem slices_EqualFunc_2_api_Value_eq (E:Env) (p0:C) (p1:C) (p2:C):runP E slices_EqualFunc_2_api_Value_a [[p0],[p1],[p2]]=slices_EqualFunc_2_api_Value E p0 p1 p2:=by kernel_rfl
def claplaw3_samePair_a:AFun:={ps:=[lA0,lA0],rs:=[lB],res:=[(false,4,none)],body:=(.seq (.region [] [oq 2 (.boxP lA0 40 (.t 0)),
 oq 3 (.boxP lA0 40 (.t 1)),
 oq 4 (.mov (.c lB [.bool false]))] false 0)
 (.seq (.region [] [oq 5 (.iadA 2 40 33 lA2 (.t 2) (.c lI [.int 0])),
 oq 6 (.ld lA2 33 (.t 5)),
 oq 7 (.iadA 2 40 33 lA2 (.t 3) (.c lI [.int 0])),
 oq 8 (.ld lA2 33 (.t 7)),
 oq 9 (.call 16 [lA2,lA2] [lB] [(.t 6),(.t 8)]),
 oq 10 (.mov (.t 9)),
 ⟨some 11, .iadA 2 40 33 lA2 (.t 2) (.c lI [.int 1]),some (10,true),[]⟩,
 ⟨some 12, .ld lA2 33 (.t 11),some (10,true),[]⟩,
 ⟨some 13, .iadA 2 40 33 lA2 (.t 3) (.c lI [.int 1]),some (10,true),[]⟩,
 ⟨some 14, .ld lA2 33 (.t 13),some (10,true),[]⟩,
 ⟨some 15, .call 16 [lA2,lA2] [lB] [(.t 12),(.t 14)],some (10,true),[]⟩,
 oq 16 (.pick (.t 10) (.t 15) (.c lB [.bool false])),
 oq 4 (.mov (.t 16))] false 0)
 .ret))}
noncomputable def claplaw3_samePair (E:Env) (p0:Row) (p1:Row):Option (List Row):=
 (E.pc n_value_Same [[at_ p0 0,at_ p0 1,at_ p0 2,at_ p0 3],[at_ p1 0,at_ p1 1,at_ p1 2,at_ p1 3]]).bind fun y1=>
 let K2:Bool→Option (List Row):=fun q3=>
 some [[.bool q3]]
 if ((at_ (rowsAt y1 0) 0).toB)=true then
 (E.pc n_value_Same [[at_ p0 4,at_ p0 5,at_ p0 6,at_ p0 7],[at_ p1 4,at_ p1 5,at_ p1 6,at_ p1 7]]).bind fun y4=>
 K2 ((at_ (rowsAt y4 0) 0).toB)
 else
 K2 false
theorem claplaw3_samePair_eq (E:Env) (p0:Row) (p1:Row):runP E claplaw3_samePair_a [p0,p1]=claplaw3_samePair E p0 p1:=by kernel_rfl
def claplaw3_samePairs_a:AFun:={ps:=[(.one (.sl 40)),(.one (.sl 40))],rs:=[lB],res:=[(false,4,none)],body:=(.seq (.region [] [oq 4 (.mov (.c lB [.bool false]))] false 0)
 (.seq (.region [] [oq 5 (.mov (.t 0)),
 oq 6 (.mov (.t 1)),
 oq 7 (.call 25 [(.one (.sl 40)),(.one (.sl 40)),(.one (.fn 53))] [lB] [(.t 5),(.t 6),(.c (.one (.fn 53)) [.fn n_claplaw3_samePair []])]),
 oq 4 (.mov (.t 7))] false 0)
 .ret))}
noncomputable def claplaw3_samePairs (E:Env) (p0:C) (p1:C):Option (List Row):=
 (E.pc n_slices_EqualFunc_2_api_Value [[p0],[p1],[.fn n_claplaw3_samePair []]]).bind fun y1=>
 some [[.bool ((at_ (rowsAt y1 0) 0).toB)]]
theorem claplaw3_samePairs_eq (E:Env) (p0:C) (p1:C):runP E claplaw3_samePairs_a [[p0],[p1]]=claplaw3_samePairs E p0 p1:=by kernel_rfl
end Go.Ev
