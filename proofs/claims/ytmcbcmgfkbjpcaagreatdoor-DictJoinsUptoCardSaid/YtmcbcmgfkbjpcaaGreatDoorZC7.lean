/-
  A part of the proof: what the functions of the program compute.
-/
import Derived.Test.YtmcbcmgfkbjpcaaGreatDoorZNum
set_option linter.all false
set_option maxRecDepth 100000
namespace Go.Ev
def dict_Clashes_h0:Shape:={slots:=[(0, .d (.one (.sl 40))),(1, .d (.one (.sl 40))),(14, .d (.one (.sl 24))),(15, .d lI),(16, .d lI)],objs:=[]}
def dict_Clashes_o0:List (Exit'×Shape):=[(.exit 0,{slots:=[(0, .d (.one (.sl 40))),(1, .d (.one (.sl 40)))],objs:=[]}),(.ret,{slots:=[(4, .d (.one (.sl 40))),(5, .d lI)],objs:=[]})]
def dict_Clashes_c0:ACode:=(.seq (.region [] [oq 17 (.icmp .lss (.t 16) (.t 15))] false 0)
 (.seq (.cond (.t 17) .skip
 (.exit 0))
 (.seq (.block 1 (.seq (.region [] [oq 18 (.iad 24 (.one (.sl 40)) (.t 14) (.t 16)),
 oq 19 (.ld (.one (.sl 40)) 24 (.t 18)),
 oq 7 (.mov (.t 19))] false 0)
 (.seq (.region [] [oq 20 (.mov (.t 7)),
 oq 21 (.call 17 [(.one (.sl 40))] [lI] [(.t 20)]),
 oq 8 (.mov (.t 21))] false 0)
 (.seq (.region [] [oq 22 (.mov (.t 8)),
 oq 23 (.icmp .neq (.t 22) (.c lI [.int 0]))] false 0)
 (.cond (.t 23) (.seq (.region [] [oq 24 (.mov (.t 8)),
 oq 4 (.mov (.c (.one (.sl 40)) [.nils])),
 oq 5 (.mov (.t 24))] false 0)
 .ret)
 .skip)))))
 (.region [] [oq 25 (.ibin .add (.t 16) (.c lI [.int 1])),
 oq 16 (.mov (.t 25))] false 0))))
noncomputable def dict_Clashes_l0 (E:Env) (v0:C) (v1:C) (v2:C) (v3:Int) (v4:Int):Option (Nat×List PV):=E.fix (stepOf E dict_Clashes_c0 dict_Clashes_h0 dict_Clashes_o0) [.r [v0], .r [v1], .r [v2], .r [.int v3], .r [.int v4]]
noncomputable def dict_Clashes_b0 (E:Env) (X:C→C→C→Int→Int→Option (Nat×List PV)) (v0:C) (v1:C) (v2:C) (v3:Int) (v4:Int):Option (Nat×List PV):=
 if (decide (v4<v3))=true then
 if (0:Int)≤v4∧v4<(v2.rows.length:Int)then
 (E.pc n_dict_Check [[at_ (rowsAt v2.rows v4.toNat) 0]]).bind fun y1=>
 if (((at_ (rowsAt y1 0) 0).toI) !=0)=true then
 some (1,[.r [.nils], .r [.int ((at_ (rowsAt y1 0) 0).toI)]])
 else
 X v0 v1 v2 v3 (Go.IntKind.i64.wrap (v4+1))
 else none
 else
 some (0,[.r [v0], .r [v1]])
theorem dict_Clashes_s0 (E:Env) (X:List PV→Option (Nat×List PV)) (v0:C) (v1:C) (v2:C) (v3:Int) (v4:Int):stepOf E dict_Clashes_c0 dict_Clashes_h0 dict_Clashes_o0 X [.r [v0], .r [v1], .r [v2], .r [.int v3], .r [.int v4]]=dict_Clashes_b0 E (fun (v0:C) (v1:C) (v2:C) (v3:Int) (v4:Int)=>X [.r [v0], .r [v1], .r [v2], .r [.int v3], .r [.int v4]]) v0 v1 v2 v3 v4:=by kernel_rfl
def dict_Clashes_h1:Shape:={slots:=[(0, .d (.one (.sl 40))),(9, .sw 0),(26, .d (.one (.sl 40))),(27, .d lI),(28, .d lI)],objs:=[.sarr 40 lA0]}
def dict_Clashes_o1:List (Exit'×Shape):=[(.exit 2,{slots:=[(9, .sw 0)],objs:=[.sarr 40 lA0]})]
def dict_Clashes_c1:ACode:=(.seq (.region [] [oq 29 (.icmp .lss (.t 28) (.t 27))] false 0)
 (.seq (.cond (.t 29) .skip
 (.exit 2))
 (.seq (.block 3 (.seq (.region [] [oq 30 (.iad 40 lA0 (.t 26) (.t 28)),
 oq 31 (.ld lA0 40 (.t 30)),
 oq 11 (.allocA 0 [some ((.int .i64), .int 0),some ((.int .i64), .int 0),some ((.str), .str []),some ((.sl 74), .nils),some ((.int .i64), .int 0),some ((.int .i64), .int 0),some ((.str), .str []),some ((.sl 74), .nils)]),
 ⟨none, .stA 8 (.t 11) (.t 31),none,[]⟩] false 1)
 (.seq (.region [] [oq 32 (.mov (.t 0)),
 oq 33 (.iadA 2 40 33 lA2 (.t 11) (.c lI [.int 0])),
 ⟨some 34, .ldA 4 (.t 33),none,[1]⟩,
 ⟨some 35, .call 18 [(.one (.sl 40)),lI,lA2] [lI] [(.t 32),(.c lI [.int 0]),(.t 34)],none,[0,1,2]⟩,
 oq 36 (.mov (.t 0)),
 oq 37 (.iadA 2 40 33 lA2 (.t 11) (.c lI [.int 1])),
 ⟨some 38, .ldA 4 (.t 37),none,[5]⟩,
 ⟨some 39, .call 18 [(.one (.sl 40)),lI,lA2] [lI] [(.t 36),(.c lI [.int 1]),(.t 38)],none,[0,1,2,3,4,5,6]⟩,
 ⟨some 40, .icmp .neq (.t 35) (.t 39),none,[0,1,2,3,4,5,6,7]⟩] true 0)
 (.cond (.t 40) (.region [] [oq 41 (.mov (.t 9)),
 oq 42 (.iadA 2 40 33 lA2 (.t 11) (.c lI [.int 0])),
 ⟨some 43, .ldA 4 (.t 42),none,[1]⟩,
 ⟨some 44, .icall 152 27 (value_Copy_i2_en) (value_Copy_i2_ex) [] 0 none [(.t 43)],none,[1,2]⟩,
 oq 45 (.iadA 2 40 33 lA2 (.t 11) (.c lI [.int 1])),
 ⟨some 46, .ldA 4 (.t 45),none,[4]⟩,
 ⟨some 47, .icall 152 27 (value_Copy_i2_en) (value_Copy_i2_ex) [] 0 none [(.t 46)],none,[1,2,3,4,5]⟩,
 ⟨some 48, .bld lA0 [.int 0, .int 0, .str [], .nils, .int 0, .int 0, .str [], .nils] [(0,4,(.t 44)),(4,4,(.t 47))],none,[1,2,3,4,5,6]⟩,
 ⟨some 49, .bsl 40 lA0 1 [.int 0, .int 0, .str [], .nils, .int 0, .int 0, .str [], .nils] [(0,(.t 48))],none,[1,2,3,4,5,6,7]⟩,
 ⟨some 50, .appW 0 40 lA0 112 (.t 41) (.t 49),none,[0,1,2,3,4,5,6,7,8]⟩,
 ⟨some 9, .mov (.t 50),none,[0,1,2,3,4,5,6,7,8,9]⟩] true 1)
 .skip))))
 (.region [] [oq 51 (.ibin .add (.t 28) (.c lI [.int 1])),
 oq 28 (.mov (.t 51))] false 0))))
noncomputable def dict_Clashes_l1 (E:Env) (v0:C) (v1:C) (v2:Int) (v3:Int) (v4:C):Option (Nat×List PV):=E.fix (stepOf E dict_Clashes_c1 dict_Clashes_h1 dict_Clashes_o1) [.r [v0], .r [v1], .r [.int v2], .r [.int v3], .r [v4]]
noncomputable def dict_Clashes_b1 (E:Env) (X:C→C→Int→Int→C→Option (Nat×List PV)) (v0:C) (v1:C) (v2:Int) (v3:Int) (v4:C):Option (Nat×List PV):=
 if (decide (v3<v2))=true then
 if (0:Int)≤v3∧v3<(v1.rows.length:Int)then
 (E.pc n_dict_find [[v0],[.int 0],[.int ((at_ (rowsAt v1.rows v3.toNat) 0).toI), .int ((at_ (rowsAt v1.rows v3.toNat) 1).toI), .str ((at_ (rowsAt v1.rows v3.toNat) 2).toS),at_ (rowsAt v1.rows v3.toNat) 3]]).bind fun y4=>
 (E.pc n_dict_find [[v0],[.int 1],[.int ((at_ (rowsAt v1.rows v3.toNat) 4).toI), .int ((at_ (rowsAt v1.rows v3.toNat) 5).toI), .str ((at_ (rowsAt v1.rows v3.toNat) 6).toS),at_ (rowsAt v1.rows v3.toNat) 7]]).bind fun y5=>
 if (((at_ (rowsAt y4 0) 0).toI) !=((at_ (rowsAt y5 0) 0).toI))=true then
 (E.ic value_Copy_i2_n [.r [.int ((at_ (rowsAt v1.rows v3.toNat) 0).toI)], .r [.int ((at_ (rowsAt v1.rows v3.toNat) 1).toI)], .r [.str ((at_ (rowsAt v1.rows v3.toNat) 2).toS)], .r [at_ (rowsAt v1.rows v3.toNat) 3]]).bind fun y6=>
 (E.ic value_Copy_i2_n [.r [.int ((at_ (rowsAt v1.rows v3.toNat) 4).toI)], .r [.int ((at_ (rowsAt v1.rows v3.toNat) 5).toI)], .r [.str ((at_ (rowsAt v1.rows v3.toNat) 6).toS)], .r [at_ (rowsAt v1.rows v3.toNat) 7]]).bind fun y7=>
 if (v4.rows.length+([[gC 0 y6,at_ (gR 0 y6) 1,at_ (gR 0 y6) 2,at_ (gR 0 y6) 3,gC 0 y7,at_ (gR 0 y7) 1,at_ (gR 0 y7) 2,at_ (gR 0 y7) 3]]:List Row).length)*112≤140737488355328 then
 X v0 v1 v2 (Go.IntKind.i64.wrap (v3+1)) (appC v4 ([[gC 0 y6,at_ (gR 0 y6) 1,at_ (gR 0 y6) 2,at_ (gR 0 y6) 3,gC 0 y7,at_ (gR 0 y7) 1,at_ (gR 0 y7) 2,at_ (gR 0 y7) 3]]:List Row))
 else none
 else
 X v0 v1 v2 (Go.IntKind.i64.wrap (v3+1)) v4
 else none
 else
 some (0,[.r [v4]])
theorem dict_Clashes_s1 (E:Env) (X:List PV→Option (Nat×List PV)) (v0:C) (v1:C) (v2:Int) (v3:Int) (v4:C):stepOf E dict_Clashes_c1 dict_Clashes_h1 dict_Clashes_o1 X [.r [v0], .r [v1], .r [.int v2], .r [.int v3], .r [v4]]=dict_Clashes_b1 E (fun (v0:C) (v1:C) (v2:Int) (v3:Int) (v4:C)=>X [.r [v0], .r [v1], .r [.int v2], .r [.int v3], .r [v4]]) v0 v1 v2 v3 v4:=by kernel_rfl
def dict_Clashes_a:AFun:={ps:=[(.one (.sl 40)),(.one (.sl 40))],rs:=[(.one (.sl 40)),lI],res:=[(false,4,(some lA0)),(false,5,none)],body:=(.seq (.region [] [oq 4 (.mov (.c (.one (.sl 40)) [.nils])),
 oq 5 (.mov (.c lI [.int 0]))] false 0)
 (.seq (.seq (.region [] [oq 12 (.mov (.t 0)),
 oq 13 (.mov (.t 1)),
 oq 14 (.bsl 24 (.one (.sl 40)) 2 [.nils] [(0,(.t 12)),(1,(.t 13))]),
 oq 15 (.lenL (.t 14)),
 oq 16 (.mov (.c lI [.int 0]))] false 0)
 (.block 0 (.loop dict_Clashes_h0 dict_Clashes_o0 dict_Clashes_c0)))
 (.seq (.region [] [oq 9 (.nilS 0 40 lA0)] false 1)
 (.seq (.seq (.region [] [oq 26 (.mov (.t 1)),
 oq 27 (.lenL (.t 26)),
 oq 28 (.mov (.c lI [.int 0]))] false 0)
 (.block 2 (.loop dict_Clashes_h1 dict_Clashes_o1 dict_Clashes_c1)))
 (.seq (.region [] [oq 52 (.mov (.t 9)),
 oq 4 (.mov (.t 52)),
 oq 5 (.mov (.c lI [.int 0]))] false 0)
 .ret)))))}
noncomputable def dict_Clashes (E:Env) (p0:C) (p1:C):Option (List Row):=
 (dict_Clashes_l0 E p0 p1 (.sl ([[p0],[p1]]:List Row)) (([[p0],[p1]]:List Row).length:Int) 0).bind fun x2=>
 match x2.1 with
 |0=>
 (dict_Clashes_l1 E (gC 0 x2.2) (gC 1 x2.2) (((gC 1 x2.2).rows).length:Int) 0 .nils).bind fun x8=>
 some [[gC 0 x8.2],[.int 0]]
 |i3+1=>
 some [[gC 0 x2.2],[.int (gI 1 x2.2)]]
theorem dict_Clashes_eq (E:Env) (p0:C) (p1:C):runP E dict_Clashes_a [[p0],[p1]]=dict_Clashes E p0 p1:=by kernel_rfl
def clapref3_Clashes_h0:Shape:={slots:=[(7, .map 0),(8, .map 1),(9, .sw 2),(30, .d (.one (.sl 40))),(31, .d lI),(32, .d lI)],objs:=[.map lS lA2, .map lS lA2, .sarr 40 lA0]}
def clapref3_Clashes_o0:List (Exit'×Shape):=[(.exit 0,{slots:=[(9, .sw 0)],objs:=[.sarr 40 lA0]})]
def clapref3_Clashes_c0:ACode:=(.seq (.region [] [oq 33 (.icmp .lss (.t 32) (.t 31))] false 0)
 (.seq (.cond (.t 33) .skip
 (.exit 0))
 (.seq (.join [(.normal,{slots:=[(7, .map 0),(8, .map 1),(9, .sw 2),(30, .d (.one (.sl 40))),(31, .d lI),(32, .d lI)],objs:=[.map lS lA2, .map lS lA2, .sarr 40 lA0]})] (.block 1 (.seq (.region [] [oq 34 (.iad 40 lA0 (.t 30) (.t 32)),
 oq 35 (.ld lA0 40 (.t 34)),
 oq 11 (.allocO 0 lA0 [.int 0, .int 0, .str [], .nils, .int 0, .int 0, .str [], .nils]),
 ⟨none, .st lA0 (.t 11) (.t 35),none,[]⟩] false 1)
 (.seq (.region [] [oq 37 (.mov (.t 7)),
 oq 38 (.iadA 2 40 33 lA2 (.t 11) (.c lI [.int 0])),
 oq 39 (.ld lA2 33 (.t 38)),
 oq 40 (.call 24 [lA2] [lS] [(.t 39)]),
 oq 41 (.lk lS lA2 [.int 0, .int 0, .str [], .nils] (.t 37) (.t 40) true),
 oq 36 (.mov (.t 41)),
 oq 42 (.ext 0 (.t 36)),
 oq 43 (.ext 1 (.t 36)),
 oq 12 (.allocO 0 lA2 [.int 0, .int 0, .str [], .nils]),
 ⟨none, .st lA2 (.t 12) (.t 42),none,[]⟩,
 oq 13 (.mov (.t 43))] false 1)
 (.seq (.region [] [oq 45 (.mov (.t 8)),
 oq 46 (.iadA 2 40 33 lA2 (.t 11) (.c lI [.int 1])),
 oq 47 (.ld lA2 33 (.t 46)),
 oq 48 (.call 24 [lA2] [lS] [(.t 47)]),
 oq 49 (.lk lS lA2 [.int 0, .int 0, .str [], .nils] (.t 45) (.t 48) true),
 oq 44 (.mov (.t 49)),
 oq 50 (.ext 0 (.t 44)),
 oq 51 (.ext 1 (.t 44)),
 oq 14 (.allocO 0 lA2 [.int 0, .int 0, .str [], .nils]),
 ⟨none, .st lA2 (.t 14) (.t 50),none,[]⟩,
 oq 15 (.mov (.t 51))] false 1)
 (.seq (.join [(.normal,{slots:=[(7, .map 0),(8, .map 1),(9, .sw 2),(11, .ptr 3 0),(30, .d (.one (.sl 40))),(31, .d lI),(32, .d lI),(71, .d lB)],objs:=[.map lS lA2, .map lS lA2, .sarr 40 lA0, .var lA0]})] (.region [] [oq 52 (.mov (.t 13)),
 ⟨some 53, .mov (.t 52),none,[0]⟩,
 ⟨some 54, .ld lA2 33 (.t 12),some (53,true),[0,1]⟩,
 ⟨some 55, .call 24 [lA2] [lS] [(.t 54)],some (53,true),[0,1,2]⟩,
 ⟨some 56, .iadA 2 40 33 lA2 (.t 11) (.c lI [.int 1]),some (53,true),[0,1]⟩,
 ⟨some 57, .ld lA2 33 (.t 56),some (53,true),[0,1,4]⟩,
 ⟨some 58, .call 24 [lA2] [lS] [(.t 57)],some (53,true),[0,1,2,3,4,5]⟩,
 ⟨some 59, .scmp .neq (.t 55) (.t 58),some (53,true),[0,1,2,3,4,5,6]⟩,
 ⟨some 60, .pick (.t 53) (.t 59) (.c lB [.bool false]),none,[0,1,2,3,4,5,6,7]⟩,
 ⟨some 61, .mov (.t 60),none,[0,1,2,3,4,5,6,7,8]⟩,
 ⟨some 62, .mov (.t 15),some (61,false),[0,1,2,3,4,5,6,7,8,9]⟩,
 ⟨some 63, .mov (.t 62),some (61,false),[0,1,2,3,4,5,6,7,8,9,10]⟩,
 ⟨some 64, .ld lA2 33 (.t 14),some (63,true),[0,1,2,3,4,5,6,7,8,9,10,11]⟩,
 ⟨some 65, .call 24 [lA2] [lS] [(.t 64)],some (63,true),[0,1,2,3,4,5,6,7,8,9,10,11,12]⟩,
 ⟨some 66, .iadA 2 40 33 lA2 (.t 11) (.c lI [.int 0]),some (63,true),[0,1,2,3,4,5,6,7,8,9,10,11]⟩,
 ⟨some 67, .ld lA2 33 (.t 66),some (63,true),[0,1,2,3,4,5,6,7,8,9,10,11,14]⟩,
 ⟨some 68, .call 24 [lA2] [lS] [(.t 67)],some (63,true),[0,1,2,3,4,5,6,7,8,9,10,11,12,13,14,15]⟩,
 ⟨some 69, .scmp .neq (.t 65) (.t 68),some (63,true),[0,1,2,3,4,5,6,7,8,9,10,11,12,13,14,15,16]⟩,
 ⟨some 70, .pick (.t 63) (.t 69) (.c lB [.bool false]),some (61,false),[0,1,2,3,4,5,6,7,8,9,10,11,12,13,14,15,16,17]⟩,
 ⟨some 71, .pick (.t 61) (.c lB [.bool true]) (.t 70),none,[0,1,2,3,4,5,6,7,8,9,10,11,12,13,14,15,16,17,18]⟩] true 0))
 (.cond (.t 71) (.region [] [oq 72 (.mov (.t 9)),
 oq 73 (.ld lA0 40 (.t 11)),
 oq 74 (.bsl 40 lA0 1 [.int 0, .int 0, .str [], .nils, .int 0, .int 0, .str [], .nils] [(0,(.t 73))]),
 oq 75 (.appW 0 40 lA0 112 (.t 72) (.t 74)),
 oq 9 (.mov (.t 75))] false 1)
 .skip)))))))
 (.region [] [oq 76 (.ibin .add (.t 32) (.c lI [.int 1])),
 oq 32 (.mov (.t 76))] false 0))))
noncomputable def clapref3_Clashes_l0 (E:Env) (v0:C) (v1:Int) (v2:Int) (v3:List (Row×Row)) (v4:List (Row×Row)) (v5:C):Option (Nat×List PV):=E.fix (stepOf E clapref3_Clashes_c0 clapref3_Clashes_h0 clapref3_Clashes_o0) [.r [v0], .r [.int v1], .r [.int v2], .m v3, .m v4, .r [v5]]
noncomputable def clapref3_Clashes_b0 (E:Env) (X:C→Int→Int→List (Row×Row)→List (Row×Row)→C→Option (Nat×List PV)) (v0:C) (v1:Int) (v2:Int) (v3:List (Row×Row)) (v4:List (Row×Row)) (v5:C):Option (Nat×List PV):=
 if (decide (v2<v1))=true then
 (if (0:Int)≤v2∧v2<(v0.rows.length:Int)then
 (E.pc n_clapref3_id [[at_ (rowsAt v0.rows v2.toNat) 0,at_ (rowsAt v0.rows v2.toNat) 1,at_ (rowsAt v0.rows v2.toNat) 2,at_ (rowsAt v0.rows v2.toNat) 3]]).bind fun y5=>
 (E.pc n_clapref3_id [[at_ (rowsAt v0.rows v2.toNat) 4,at_ (rowsAt v0.rows v2.toNat) 5,at_ (rowsAt v0.rows v2.toNat) 6,at_ (rowsAt v0.rows v2.toNat) 7]]).bind fun y6=>
 (let K7:Bool→Option (Nat×List PV):=fun q8=>
 let K9:Bool→Option (Nat×List PV):=fun q10=>
 some (0,[.r [v0], .r [.int v1], .r [.int v2], .r [.bool q10], .m v3, .m v4, .r [v5], .r (rowsAt v0.rows v2.toNat)])
 if q8=true then
 K9 true
 else
 let K11:Bool→Option (Nat×List PV):=fun q12=>
 K9 q12
 if ((findE lS [.str ((at_ (rowsAt y6 0) 0).toS)] v4).isSome)=true then
 (E.pc n_clapref3_id [(findE lS [.str ((at_ (rowsAt y6 0) 0).toS)] v4).getD [.int 0, .int 0, .str [], .nils]]).bind fun y13=>
 (E.pc n_clapref3_id [[at_ (rowsAt v0.rows v2.toNat) 0,at_ (rowsAt v0.rows v2.toNat) 1,at_ (rowsAt v0.rows v2.toNat) 2,at_ (rowsAt v0.rows v2.toNat) 3]]).bind fun y14=>
 K11 (!(((at_ (rowsAt y13 0) 0).toS)==((at_ (rowsAt y14 0) 0).toS)))
 else
 K11 false
 if ((findE lS [.str ((at_ (rowsAt y5 0) 0).toS)] v3).isSome)=true then
 (E.pc n_clapref3_id [(findE lS [.str ((at_ (rowsAt y5 0) 0).toS)] v3).getD [.int 0, .int 0, .str [], .nils]]).bind fun y15=>
 (E.pc n_clapref3_id [[at_ (rowsAt v0.rows v2.toNat) 4,at_ (rowsAt v0.rows v2.toNat) 5,at_ (rowsAt v0.rows v2.toNat) 6,at_ (rowsAt v0.rows v2.toNat) 7]]).bind fun y16=>
 K7 (!(((at_ (rowsAt y15 0) 0).toS)==((at_ (rowsAt y16 0) 0).toS)))
 else
 K7 false).bind fun x17=>
 if (gB 3 x17.2)=true then
 if (((gC 6 x17.2).rows).length+([gR 7 x17.2]:List Row).length)*112≤140737488355328 then
 some (0,[.r [gC 0 x17.2], .r [.int (gI 1 x17.2)], .r [.int (gI 2 x17.2)], .m (gM 4 x17.2), .m (gM 5 x17.2), .r [appC (gC 6 x17.2) ([gR 7 x17.2]:List Row)]])
 else none
 else
 some (0,[.r [gC 0 x17.2], .r [.int (gI 1 x17.2)], .r [.int (gI 2 x17.2)], .m (gM 4 x17.2), .m (gM 5 x17.2), .r [gC 6 x17.2]])
 else none).bind fun x18=>
 X (gC 0 x18.2) (gI 1 x18.2) (Go.IntKind.i64.wrap ((gI 2 x18.2)+1)) (gM 3 x18.2) (gM 4 x18.2) (gC 5 x18.2)
 else
 some (0,[.r [v5]])
theorem clapref3_Clashes_s0 (E:Env) (X:List PV→Option (Nat×List PV)) (v0:C) (v1:Int) (v2:Int) (v3:List (Row×Row)) (v4:List (Row×Row)) (v5:C):stepOf E clapref3_Clashes_c0 clapref3_Clashes_h0 clapref3_Clashes_o0 X [.r [v0], .r [.int v1], .r [.int v2], .m v3, .m v4, .r [v5]]=clapref3_Clashes_b0 E (fun (v0:C) (v1:Int) (v2:Int) (v3:List (Row×Row)) (v4:List (Row×Row)) (v5:C)=>X [.r [v0], .r [.int v1], .r [.int v2], .m v3, .m v4, .r [v5]]) v0 v1 v2 v3 v4 v5:=by kernel_rfl
def clapref3_Clashes_a:AFun:={ps:=[(.one (.sl 40)),(.one (.sl 40))],rs:=[(.one (.sl 40)),lI],res:=[(false,4,(some lA0)),(false,5,none)],body:=(.seq (.region [] [oq 4 (.mov (.c (.one (.sl 40)) [.nils])),
 oq 5 (.mov (.c lI [.int 0]))] false 0)
 (.seq (.seq (.region [] [oq 16 (.mov (.t 0)),
 oq 17 (.call 21 [(.one (.sl 40))] [lI] [(.t 16)]),
 oq 18 (.mov (.t 1)),
 oq 19 (.call 21 [(.one (.sl 40))] [lI] [(.t 18)]),
 oq 20 (.bsl 25 lI 2 [.int 0] [(0,(.t 17)),(1,(.t 19))]),
 oq 21 (.call 20 [(.one (.sl 25))] [lI] [(.t 20)]),
 oq 6 (.mov (.t 21))] false 0)
 (.seq (.region [] [oq 22 (.mov (.t 6)),
 oq 23 (.icmp .neq (.t 22) (.c lI [.int 0]))] false 0)
 (.cond (.t 23) (.seq (.region [] [oq 24 (.mov (.t 6)),
 oq 4 (.mov (.c (.one (.sl 40)) [.nils])),
 oq 5 (.mov (.t 24))] false 0)
 .ret)
 .skip)))
 (.seq (.region [] [oq 26 (.mov (.t 0)),
 oq 27 (.icall 167 22 (clapref3_maps_i17_en) (clapref3_maps_i17_ex) [] 0 none [(.t 26)]),
 oq 25 (.mov (.t 27)),
 oq 28 (.ext 0 (.t 25)),
 oq 29 (.ext 1 (.t 25)),
 oq 7 (.mov (.t 28)),
 oq 8 (.mov (.t 29))] false 2)
 (.seq (.region [] [oq 9 (.nilS 0 40 lA0)] false 1)
 (.seq (.seq (.region [] [oq 30 (.mov (.t 1)),
 oq 31 (.lenL (.t 30)),
 oq 32 (.mov (.c lI [.int 0]))] false 0)
 (.block 0 (.loop clapref3_Clashes_h0 clapref3_Clashes_o0 clapref3_Clashes_c0)))
 (.seq (.region [] [oq 77 (.mov (.t 9)),
 oq 4 (.mov (.t 77)),
 oq 5 (.mov (.c lI [.int 0]))] false 0)
 .ret))))))}
noncomputable def clapref3_Clashes (E:Env) (p0:C) (p1:C):Option (List Row):=
 (E.pc n_clapref3_Pairs [[p0]]).bind fun y1=>
 (E.pc n_clapref3_Pairs [[p1]]).bind fun y2=>
 (E.pc n_clapref3_first [[.sl ([[.int ((at_ (rowsAt y1 0) 0).toI)],[.int ((at_ (rowsAt y2 0) 0).toI)]]:List Row)]]).bind fun y3=>
 if (((at_ (rowsAt y3 0) 0).toI) !=0)=true then
 some [[.nils],[.int ((at_ (rowsAt y3 0) 0).toI)]]
 else
 (E.ic clapref3_maps_i17_n [.r [p0]]).bind fun y4=>
 (clapref3_Clashes_l0 E p1 (p1.rows.length:Int) 0 (gM 0 y4) (gM 1 y4) .nils).bind fun x19=>
 some [[gC 0 x19.2],[.int 0]]
theorem clapref3_Clashes_eq (E:Env) (p0:C) (p1:C):runP E clapref3_Clashes_a [[p0],[p1]]=clapref3_Clashes E p0 p1:=by kernel_rfl
def slices_Clone_2_api_Value_i18_a:AImp:={fn:=28,entry:=slices_Clone_2_api_Value_i18_en,res:=[.tmp 2],exit:=slices_Clone_2_api_Value_i18_ex,body:=(.seq (.region [] [oq 2 (.nilS 0 40 lA0)] false 1)
 (.seq (.seq (.region [] [oq 3 (.mov (.t 0)),
 oq 4 (.nileq false (.t 3))] false 0)
 (.cond (.t 4) (.seq (.region [] [oq 2 (.nilS 0 40 lA0)] false 1)
 .ret)
 .skip))
 (.seq (.region [] [oq 5 (.bslS 0 40 lA0 0 [.int 0, .int 0, .str [], .nils, .int 0, .int 0, .str [], .nils] []),
 oq 6 (.mov (.t 0)),
 oq 7 (.appW 1 40 lA0 112 (.t 5) (.t 6)),
 oq 2 (.mov (.t 7))] false 2)
 .ret)))}
noncomputable def slices_Clone_2_api_Value_i18 (E:Env) (p0:C):Option (List PV):=
 if p0.isNil=true then
 some [.r [.nils]]
 else
 if (([]:List Row).length+p0.rows.length)*112≤140737488355328 then
 some [.r [appC (.sl ([]:List Row)) p0.rows]]
 else none
theorem slices_Clone_2_api_Value_i18_eq (E:Env) (p0:C):runI E slices_Clone_2_api_Value_i18_a [.r [p0]]=slices_Clone_2_api_Value_i18 E p0:=by kernel_rfl
def dict_Merge_h0:Shape:={slots:=[(0, .d (.one (.sl 40))),(1, .d (.one (.sl 40))),(16, .d (.one (.sl 24))),(17, .d lI),(18, .d lI)],objs:=[]}
def dict_Merge_o0:List (Exit'×Shape):=[(.exit 0,{slots:=[(0, .d (.one (.sl 40))),(1, .d (.one (.sl 40)))],objs:=[]}),(.ret,{slots:=[(4, .d (.one (.sl 40))),(5, .d lI)],objs:=[]})]
def dict_Merge_c0:ACode:=(.seq (.region [] [oq 19 (.icmp .lss (.t 18) (.t 17))] false 0)
 (.seq (.cond (.t 19) .skip
 (.exit 0))
 (.seq (.block 1 (.seq (.region [] [oq 20 (.iad 24 (.one (.sl 40)) (.t 16) (.t 18)),
 oq 21 (.ld (.one (.sl 40)) 24 (.t 20)),
 oq 7 (.mov (.t 21))] false 0)
 (.seq (.region [] [oq 22 (.mov (.t 7)),
 oq 23 (.call 17 [(.one (.sl 40))] [lI] [(.t 22)]),
 oq 8 (.mov (.t 23))] false 0)
 (.seq (.region [] [oq 24 (.mov (.t 8)),
 oq 25 (.icmp .neq (.t 24) (.c lI [.int 0]))] false 0)
 (.cond (.t 25) (.seq (.region [] [oq 26 (.mov (.t 8)),
 oq 4 (.mov (.c (.one (.sl 40)) [.nils])),
 oq 5 (.mov (.t 26))] false 0)
 .ret)
 .skip)))))
 (.region [] [oq 27 (.ibin .add (.t 18) (.c lI [.int 1])),
 oq 18 (.mov (.t 27))] false 0))))
noncomputable def dict_Merge_l0 (E:Env) (v0:C) (v1:C) (v2:C) (v3:Int) (v4:Int):Option (Nat×List PV):=E.fix (stepOf E dict_Merge_c0 dict_Merge_h0 dict_Merge_o0) [.r [v0], .r [v1], .r [v2], .r [.int v3], .r [.int v4]]
noncomputable def dict_Merge_b0 (E:Env) (X:C→C→C→Int→Int→Option (Nat×List PV)) (v0:C) (v1:C) (v2:C) (v3:Int) (v4:Int):Option (Nat×List PV):=
 if (decide (v4<v3))=true then
 if (0:Int)≤v4∧v4<(v2.rows.length:Int)then
 (E.pc n_dict_Check [[at_ (rowsAt v2.rows v4.toNat) 0]]).bind fun y1=>
 if (((at_ (rowsAt y1 0) 0).toI) !=0)=true then
 some (1,[.r [.nils], .r [.int ((at_ (rowsAt y1 0) 0).toI)]])
 else
 X v0 v1 v2 v3 (Go.IntKind.i64.wrap (v4+1))
 else none
 else
 some (0,[.r [v0], .r [v1]])
theorem dict_Merge_s0 (E:Env) (X:List PV→Option (Nat×List PV)) (v0:C) (v1:C) (v2:C) (v3:Int) (v4:Int):stepOf E dict_Merge_c0 dict_Merge_h0 dict_Merge_o0 X [.r [v0], .r [v1], .r [v2], .r [.int v3], .r [.int v4]]=dict_Merge_b0 E (fun (v0:C) (v1:C) (v2:C) (v3:Int) (v4:Int)=>X [.r [v0], .r [v1], .r [v2], .r [.int v3], .r [.int v4]]) v0 v1 v2 v3 v4:=by kernel_rfl
def dict_Merge_h1:Shape:={slots:=[(0, .d (.one (.sl 40))),(9, .sw 0),(54, .d (.one (.sl 40))),(55, .d lI),(56, .d lI)],objs:=[.sarr 40 lA0]}
def dict_Merge_o1:List (Exit'×Shape):=[(.exit 2,{slots:=[(9, .sw 0)],objs:=[.sarr 40 lA0]}),(.ret,{slots:=[(4, .d (.one (.sl 40))),(5, .d lI)],objs:=[]})]
def dict_Merge_c1:ACode:=(.seq (.region [] [oq 57 (.icmp .lss (.t 56) (.t 55))] false 0)
 (.seq (.cond (.t 57) .skip
 (.exit 2))
 (.seq (.block 3 (.seq (.region [] [oq 58 (.iad 40 lA0 (.t 54) (.t 56)),
 oq 59 (.ld lA0 40 (.t 58)),
 oq 11 (.allocO 0 lA0 [.int 0, .int 0, .str [], .nils, .int 0, .int 0, .str [], .nils]),
 ⟨none, .st lA0 (.t 11) (.t 59),none,[]⟩] false 1)
 (.seq (.region [] [oq 60 (.mov (.t 0)),
 oq 61 (.iadA 2 40 33 lA2 (.t 11) (.c lI [.int 0])),
 ⟨some 62, .ld lA2 33 (.t 61),none,[1]⟩,
 ⟨some 63, .call 18 [(.one (.sl 40)),lI,lA2] [lI] [(.t 60),(.c lI [.int 0]),(.t 62)],none,[0,1,2]⟩,
 oq 64 (.mov (.t 0)),
 oq 65 (.iadA 2 40 33 lA2 (.t 11) (.c lI [.int 1])),
 ⟨some 66, .ld lA2 33 (.t 65),none,[5]⟩,
 ⟨some 67, .call 18 [(.one (.sl 40)),lI,lA2] [lI] [(.t 64),(.c lI [.int 1]),(.t 66)],none,[0,1,2,3,4,5,6]⟩,
 ⟨some 12, .mov (.t 63),none,[0,1,2,3,4,5,6,7]⟩,
 ⟨some 13, .mov (.t 67),none,[0,1,2,3,4,5,6,7,8]⟩] true 0)
 (.block 4 (.seq (.region [] [oq 69 (.mov (.t 12)),
 oq 70 (.mov (.t 13)),
 oq 71 (.icmp .neq (.t 69) (.t 70)),
 oq 68 (.mov (.t 71))] false 0)
 (.cond (.t 68) (.seq (.region [] [oq 4 (.mov (.c (.one (.sl 40)) [.nils])),
 oq 5 (.mov (.c lI [.int 17]))] false 0)
 .ret)
 (.seq (.region [] [oq 73 (.mov (.t 12)),
 oq 74 (.icmp .lss (.t 73) (.c lI [.int 0])),
 oq 72 (.mov (.t 74))] false 0)
 (.cond (.t 72) (.region [] [oq 75 (.mov (.t 9)),
 oq 76 (.ld lA0 40 (.t 11)),
 oq 77 (.bsl 40 lA0 1 [.int 0, .int 0, .str [], .nils, .int 0, .int 0, .str [], .nils] [(0,(.t 76))]),
 oq 78 (.appW 0 40 lA0 112 (.t 75) (.t 77)),
 oq 9 (.mov (.t 78))] false 1)
 .skip))))))))
 (.region [] [oq 79 (.ibin .add (.t 56) (.c lI [.int 1])),
 oq 56 (.mov (.t 79))] false 0))))
noncomputable def dict_Merge_l1 (E:Env) (v0:C) (v1:C) (v2:Int) (v3:Int) (v4:C):Option (Nat×List PV):=E.fix (stepOf E dict_Merge_c1 dict_Merge_h1 dict_Merge_o1) [.r [v0], .r [v1], .r [.int v2], .r [.int v3], .r [v4]]
noncomputable def dict_Merge_b1 (E:Env) (X:C→C→Int→Int→C→Option (Nat×List PV)) (v0:C) (v1:C) (v2:Int) (v3:Int) (v4:C):Option (Nat×List PV):=
 if (decide (v3<v2))=true then
 if (0:Int)≤v3∧v3<(v1.rows.length:Int)then
 (E.pc n_dict_find [[v0],[.int 0],[at_ (rowsAt v1.rows v3.toNat) 0,at_ (rowsAt v1.rows v3.toNat) 1,at_ (rowsAt v1.rows v3.toNat) 2,at_ (rowsAt v1.rows v3.toNat) 3]]).bind fun y8=>
 (E.pc n_dict_find [[v0],[.int 1],[at_ (rowsAt v1.rows v3.toNat) 4,at_ (rowsAt v1.rows v3.toNat) 5,at_ (rowsAt v1.rows v3.toNat) 6,at_ (rowsAt v1.rows v3.toNat) 7]]).bind fun y9=>
 if (((at_ (rowsAt y8 0) 0).toI) !=((at_ (rowsAt y9 0) 0).toI))=true then
 some (1,[.r [.nils], .r [.int 17]])
 else
 if (decide (((at_ (rowsAt y8 0) 0).toI)<0))=true then
 if (v4.rows.length+([rowsAt v1.rows v3.toNat]:List Row).length)*112≤140737488355328 then
 X v0 v1 v2 (Go.IntKind.i64.wrap (v3+1)) (appC v4 ([rowsAt v1.rows v3.toNat]:List Row))
 else none
 else
 X v0 v1 v2 (Go.IntKind.i64.wrap (v3+1)) v4
 else none
 else
 some (0,[.r [v4]])
theorem dict_Merge_s1 (E:Env) (X:List PV→Option (Nat×List PV)) (v0:C) (v1:C) (v2:Int) (v3:Int) (v4:C):stepOf E dict_Merge_c1 dict_Merge_h1 dict_Merge_o1 X [.r [v0], .r [v1], .r [.int v2], .r [.int v3], .r [v4]]=dict_Merge_b1 E (fun (v0:C) (v1:C) (v2:Int) (v3:Int) (v4:C)=>X [.r [v0], .r [v1], .r [.int v2], .r [.int v3], .r [v4]]) v0 v1 v2 v3 v4:=by kernel_rfl
def dict_Merge_a:AFun:={ps:=[(.one (.sl 40)),(.one (.sl 40))],rs:=[(.one (.sl 40)),lI],res:=[(false,4,(some lA0)),(false,5,none)],body:=(.seq (.region [] [oq 4 (.mov (.c (.one (.sl 40)) [.nils])),
 oq 5 (.mov (.c lI [.int 0]))] false 0)
 (.seq (.seq (.region [] [oq 14 (.mov (.t 0)),
 oq 15 (.mov (.t 1)),
 oq 16 (.bsl 24 (.one (.sl 40)) 2 [.nils] [(0,(.t 14)),(1,(.t 15))]),
 oq 17 (.lenL (.t 16)),
 oq 18 (.mov (.c lI [.int 0]))] false 0)
 (.block 0 (.loop dict_Merge_h0 dict_Merge_o0 dict_Merge_c0)))
 (.seq (.seq (.join [(.normal,{slots:=[(0, .d (.one (.sl 40))),(1, .d (.one (.sl 40))),(51, .d lB)],objs:=[]})] (.region [] [oq 28 (.mov (.t 0)),
 ⟨some 29, .iad 40 lA0 (.t 28) (.c lI [.int 0]),none,[0]⟩,
 ⟨some 30, .iadA 2 40 33 lA2 (.t 29) (.c lI [.int 0]),none,[0,1]⟩,
 ⟨some 31, .fad 0 1 33 3 (.t 30),none,[0,1,2]⟩,
 ⟨some 32, .ld lI 3 (.t 31),none,[0,1,2,3]⟩,
 oq 33 (.mov (.t 1)),
 ⟨some 34, .iad 40 lA0 (.t 33) (.c lI [.int 0]),none,[5]⟩,
 ⟨some 35, .iadA 2 40 33 lA2 (.t 34) (.c lI [.int 0]),none,[5,6]⟩,
 ⟨some 36, .fad 0 1 33 3 (.t 35),none,[5,6,7]⟩,
 ⟨some 37, .ld lI 3 (.t 36),none,[5,6,7,8]⟩,
 ⟨some 38, .icmp .neq (.t 32) (.t 37),none,[0,1,2,3,4,5,6,7,8,9]⟩,
 ⟨some 39, .mov (.t 38),none,[0,1,2,3,4,5,6,7,8,9,10]⟩,
 ⟨some 40, .mov (.t 0),some (39,false),[0,1,2,3,4,5,6,7,8,9,10,11]⟩,
 ⟨some 41, .iad 40 lA0 (.t 40) (.c lI [.int 0]),some (39,false),[0,1,2,3,4,5,6,7,8,9,10,11,12]⟩,
 ⟨some 42, .iadA 2 40 33 lA2 (.t 41) (.c lI [.int 1]),some (39,false),[0,1,2,3,4,5,6,7,8,9,10,11,12,13]⟩,
 ⟨some 43, .fad 0 1 33 3 (.t 42),some (39,false),[0,1,2,3,4,5,6,7,8,9,10,11,12,13,14]⟩,
 ⟨some 44, .ld lI 3 (.t 43),some (39,false),[0,1,2,3,4,5,6,7,8,9,10,11,12,13,14,15]⟩,
 ⟨some 45, .mov (.t 1),some (39,false),[0,1,2,3,4,5,6,7,8,9,10,11]⟩,
 ⟨some 46, .iad 40 lA0 (.t 45) (.c lI [.int 0]),some (39,false),[0,1,2,3,4,5,6,7,8,9,10,11,17]⟩,
 ⟨some 47, .iadA 2 40 33 lA2 (.t 46) (.c lI [.int 1]),some (39,false),[0,1,2,3,4,5,6,7,8,9,10,11,17,18]⟩,
 ⟨some 48, .fad 0 1 33 3 (.t 47),some (39,false),[0,1,2,3,4,5,6,7,8,9,10,11,17,18,19]⟩,
 ⟨some 49, .ld lI 3 (.t 48),some (39,false),[0,1,2,3,4,5,6,7,8,9,10,11,17,18,19,20]⟩,
 ⟨some 50, .icmp .neq (.t 44) (.t 49),some (39,false),[0,1,2,3,4,5,6,7,8,9,10,11,12,13,14,15,16,17,18,19,20,21]⟩,
 ⟨some 51, .pick (.t 39) (.c lB [.bool true]) (.t 50),none,[0,1,2,3,4,5,6,7,8,9,10,11,12,13,14,15,16,17,18,19,20,21,22]⟩] true 0))
 (.cond (.t 51) (.seq (.region [] [oq 4 (.mov (.c (.one (.sl 40)) [.nils])),
 oq 5 (.mov (.c lI [.int 8]))] false 0)
 .ret)
 .skip))
 (.seq (.region [] [oq 52 (.mov (.t 0)),
 oq 53 (.icall 168 28 (slices_Clone_2_api_Value_i18_en) (slices_Clone_2_api_Value_i18_ex) [] 0 none [(.t 52)]),
 oq 9 (.mov (.t 53))] false 1)
 (.seq (.seq (.region [] [oq 54 (.mov (.t 1)),
 oq 55 (.lenL (.t 54)),
 oq 56 (.mov (.c lI [.int 0]))] false 0)
 (.block 2 (.loop dict_Merge_h1 dict_Merge_o1 dict_Merge_c1)))
 (.seq (.seq (.region [] [oq 80 (.mov (.t 9)),
 oq 81 (.lenL (.t 80)),
 oq 82 (.icmp .gtr (.t 81) (.c lI [.int 40]))] false 0)
 (.cond (.t 82) (.seq (.region [] [oq 4 (.mov (.c (.one (.sl 40)) [.nils])),
 oq 5 (.mov (.c lI [.int 2]))] false 0)
 .ret)
 .skip))
 (.seq (.region [] [oq 83 (.mov (.t 9)),
 oq 84 (.call 19 [(.one (.sl 40))] [(.one (.sl 40))] [(.t 83)]),
 oq 4 (.mov (.t 84)),
 oq 5 (.mov (.c lI [.int 0]))] false 0)
 .ret)))))))}
noncomputable def dict_Merge (E:Env) (p0:C) (p1:C):Option (List Row):=
 (dict_Merge_l0 E p0 p1 (.sl ([[p0],[p1]]:List Row)) (([[p0],[p1]]:List Row).length:Int) 0).bind fun x2=>
  match x2.1 with
  |0=>
   (if (0:Int)≤0∧0<(((gC 0 x2.2).rows).length:Int)then
    if (0:Int)≤0∧0<(((gC 1 x2.2).rows).length:Int)then
     let K4:Bool→Option (Nat×List PV):=fun q5=>
      some (0,[.r [gC 0 x2.2], .r [gC 1 x2.2], .r [.bool q5]])
     if (((at_ (rowsAt ((gC 0 x2.2).rows) 0) 0).toI) !=((at_ (rowsAt ((gC 1 x2.2).rows) 0) 0).toI))=true then
      K4 true
     else
      if (0:Int)≤0∧0<(((gC 0 x2.2).rows).length:Int)then
       if (0:Int)≤0∧0<(((gC 1 x2.2).rows).length:Int)then
        K4 (((at_ (rowsAt ((gC 0 x2.2).rows) 0) 4).toI) !=((at_ (rowsAt ((gC 1 x2.2).rows) 0) 4).toI))
       else none
      else none
    else none
   else none).bind fun x6=>
    if (gB 2 x6.2)=true then
     some [[.nils],[.int 8]]
    else
     (E.ic slices_Clone_2_api_Value_i18_n [.r [gC 0 x6.2]]).bind fun y7=>
      (dict_Merge_l1 E (gC 0 x6.2) (gC 1 x6.2) (((gC 1 x6.2).rows).length:Int) 0 (gC 0 y7)).bind fun x10=>
       match x10.1 with
       |0=>
        if (decide ((((gC 0 x10.2).rows).length:Int)>40))=true then
         some [[.nils],[.int 2]]
        else
         (E.pc n_dict_sorted [[gC 0 x10.2]]).bind fun y12=>
          some [[at_ (rowsAt y12 0) 0],[.int 0]]
       |i11+1=>
        some [[gC 0 x10.2],[.int (gI 1 x10.2)]]
  |i3+1=>
   some [[gC 0 x2.2],[.int (gI 1 x2.2)]]
theorem dict_Merge_eq (E:Env) (p0:C) (p1:C):runP E dict_Merge_a [[p0],[p1]]=dict_Merge E p0 p1:=by kernel_rfl
def clapref3_Merge_h0:Shape:={slots:=[(8, .map 0),(10, .sw 1),(58, .d (.one (.sl 40))),(59, .d lI),(60, .d lI)],objs:=[.map lS lA2, .sarr 40 lA0]}
def clapref3_Merge_o0:List (Exit'×Shape):=[(.exit 0,{slots:=[(10, .sw 0)],objs:=[.sarr 40 lA0]})]
def clapref3_Merge_c0:ACode:=(.seq (.region [] [oq 61 (.icmp .lss (.t 60) (.t 59))] false 0)
 (.seq (.cond (.t 61) .skip
 (.exit 0))
 (.seq (.block 1 (.seq (.region [] [oq 62 (.iad 40 lA0 (.t 58) (.t 60)),
 oq 63 (.ld lA0 40 (.t 62)),
 oq 12 (.allocO 0 lA0 [.int 0, .int 0, .str [], .nils, .int 0, .int 0, .str [], .nils]),
 ⟨none, .st lA0 (.t 12) (.t 63),none,[]⟩] false 1)
 (.seq (.region [] [oq 65 (.mov (.t 8)),
 oq 66 (.iadA 2 40 33 lA2 (.t 12) (.c lI [.int 0])),
 oq 67 (.ld lA2 33 (.t 66)),
 oq 68 (.call 24 [lA2] [lS] [(.t 67)]),
 oq 69 (.lk lS lA2 [.int 0, .int 0, .str [], .nils] (.t 65) (.t 68) true),
 oq 64 (.mov (.t 69)),
 oq 70 (.ext 0 (.t 64)),
 oq 71 (.ext 1 (.t 64)),
 oq 13 (.allocO 0 lA2 [.int 0, .int 0, .str [], .nils]),
 ⟨none, .st lA2 (.t 13) (.t 70),none,[]⟩,
 oq 14 (.mov (.t 71))] false 1)
 (.seq (.region [] [oq 72 (.mov (.t 14)),
 oq 73 (.not (.t 72))] false 0)
 (.cond (.t 73) (.region [] [oq 74 (.mov (.t 10)),
 oq 75 (.ld lA0 40 (.t 12)),
 oq 76 (.bsl 40 lA0 1 [.int 0, .int 0, .str [], .nils, .int 0, .int 0, .str [], .nils] [(0,(.t 75))]),
 oq 77 (.appW 0 40 lA0 112 (.t 74) (.t 76)),
 oq 10 (.mov (.t 77))] false 1)
 .skip)))))
 (.region [] [oq 78 (.ibin .add (.t 60) (.c lI [.int 1])),
 oq 60 (.mov (.t 78))] false 0))))
noncomputable def clapref3_Merge_l0 (E:Env) (v0:C) (v1:Int) (v2:Int) (v3:List (Row×Row)) (v4:C):Option (Nat×List PV):=E.fix (stepOf E clapref3_Merge_c0 clapref3_Merge_h0 clapref3_Merge_o0) [.r [v0], .r [.int v1], .r [.int v2], .m v3, .r [v4]]
noncomputable def clapref3_Merge_b0 (E:Env) (X:C→Int→Int→List (Row×Row)→C→Option (Nat×List PV)) (v0:C) (v1:Int) (v2:Int) (v3:List (Row×Row)) (v4:C):Option (Nat×List PV):=
 if (decide (v2<v1))=true then
 if (0:Int)≤v2∧v2<(v0.rows.length:Int)then
 (E.pc n_clapref3_id [[at_ (rowsAt v0.rows v2.toNat) 0,at_ (rowsAt v0.rows v2.toNat) 1,at_ (rowsAt v0.rows v2.toNat) 2,at_ (rowsAt v0.rows v2.toNat) 3]]).bind fun y6=>
 if (!((findE lS [.str ((at_ (rowsAt y6 0) 0).toS)] v3).isSome))=true then
 if (v4.rows.length+([rowsAt v0.rows v2.toNat]:List Row).length)*112≤140737488355328 then
 X v0 v1 (Go.IntKind.i64.wrap (v2+1)) v3 (appC v4 ([rowsAt v0.rows v2.toNat]:List Row))
 else none
 else
 X v0 v1 (Go.IntKind.i64.wrap (v2+1)) v3 v4
 else none
 else
 some (0,[.r [v4]])
theorem clapref3_Merge_s0 (E:Env) (X:List PV→Option (Nat×List PV)) (v0:C) (v1:Int) (v2:Int) (v3:List (Row×Row)) (v4:C):stepOf E clapref3_Merge_c0 clapref3_Merge_h0 clapref3_Merge_o0 X [.r [v0], .r [.int v1], .r [.int v2], .m v3, .r [v4]]=clapref3_Merge_b0 E (fun (v0:C) (v1:Int) (v2:Int) (v3:List (Row×Row)) (v4:C)=>X [.r [v0], .r [.int v1], .r [.int v2], .m v3, .r [v4]]) v0 v1 v2 v3 v4:=by kernel_rfl
def clapref3_Merge_a:AFun:={ps:=[(.one (.sl 40)),(.one (.sl 40))],rs:=[(.one (.sl 40)),lI],res:=[(false,4,(some lA0)),(false,5,none)],body:=(.seq (.region [] [oq 4 (.mov (.c (.one (.sl 40)) [.nils])),
 oq 5 (.mov (.c lI [.int 0]))] false 0)
 (.seq (.region [] [oq 16 (.mov (.t 0)),
 oq 17 (.mov (.t 1)),
 oq 18 (.call 9 [(.one (.sl 40)),(.one (.sl 40))] [(.one (.sl 40)),lI] [(.t 16),(.t 17)]),
 oq 15 (.mov (.t 18)),
 oq 19 (.ext 0 (.t 15)),
 oq 20 (.ext 1 (.t 15)),
 oq 6 (.mov (.t 19)),
 oq 7 (.mov (.t 20))] false 0)
 (.seq (.seq (.region [] [oq 21 (.mov (.t 7)),
 oq 22 (.icmp .neq (.t 21) (.c lI [.int 0]))] false 0)
 (.cond (.t 22) (.seq (.region [] [oq 23 (.mov (.t 7)),
 oq 4 (.mov (.c (.one (.sl 40)) [.nils])),
 oq 5 (.mov (.t 23))] false 0)
 .ret)
 .skip))
 (.seq (.seq (.join [(.normal,{slots:=[(0, .d (.one (.sl 40))),(1, .d (.one (.sl 40))),(6, .d (.one (.sl 40))),(47, .d lB)],objs:=[]})] (.region [] [oq 24 (.mov (.t 0)),
 ⟨some 25, .iad 40 lA0 (.t 24) (.c lI [.int 0]),none,[0]⟩,
 ⟨some 26, .iadA 2 40 33 lA2 (.t 25) (.c lI [.int 0]),none,[0,1]⟩,
 ⟨some 27, .fad 0 1 33 3 (.t 26),none,[0,1,2]⟩,
 ⟨some 28, .ld lI 3 (.t 27),none,[0,1,2,3]⟩,
 oq 29 (.mov (.t 1)),
 ⟨some 30, .iad 40 lA0 (.t 29) (.c lI [.int 0]),none,[5]⟩,
 ⟨some 31, .iadA 2 40 33 lA2 (.t 30) (.c lI [.int 0]),none,[5,6]⟩,
 ⟨some 32, .fad 0 1 33 3 (.t 31),none,[5,6,7]⟩,
 ⟨some 33, .ld lI 3 (.t 32),none,[5,6,7,8]⟩,
 ⟨some 34, .icmp .neq (.t 28) (.t 33),none,[0,1,2,3,4,5,6,7,8,9]⟩,
 ⟨some 35, .mov (.t 34),none,[0,1,2,3,4,5,6,7,8,9,10]⟩,
 ⟨some 36, .mov (.t 0),some (35,false),[0,1,2,3,4,5,6,7,8,9,10,11]⟩,
 ⟨some 37, .iad 40 lA0 (.t 36) (.c lI [.int 0]),some (35,false),[0,1,2,3,4,5,6,7,8,9,10,11,12]⟩,
 ⟨some 38, .iadA 2 40 33 lA2 (.t 37) (.c lI [.int 1]),some (35,false),[0,1,2,3,4,5,6,7,8,9,10,11,12,13]⟩,
 ⟨some 39, .fad 0 1 33 3 (.t 38),some (35,false),[0,1,2,3,4,5,6,7,8,9,10,11,12,13,14]⟩,
 ⟨some 40, .ld lI 3 (.t 39),some (35,false),[0,1,2,3,4,5,6,7,8,9,10,11,12,13,14,15]⟩,
 ⟨some 41, .mov (.t 1),some (35,false),[0,1,2,3,4,5,6,7,8,9,10,11]⟩,
 ⟨some 42, .iad 40 lA0 (.t 41) (.c lI [.int 0]),some (35,false),[0,1,2,3,4,5,6,7,8,9,10,11,17]⟩,
 ⟨some 43, .iadA 2 40 33 lA2 (.t 42) (.c lI [.int 1]),some (35,false),[0,1,2,3,4,5,6,7,8,9,10,11,17,18]⟩,
 ⟨some 44, .fad 0 1 33 3 (.t 43),some (35,false),[0,1,2,3,4,5,6,7,8,9,10,11,17,18,19]⟩,
 ⟨some 45, .ld lI 3 (.t 44),some (35,false),[0,1,2,3,4,5,6,7,8,9,10,11,17,18,19,20]⟩,
 ⟨some 46, .icmp .neq (.t 40) (.t 45),some (35,false),[0,1,2,3,4,5,6,7,8,9,10,11,12,13,14,15,16,17,18,19,20,21]⟩,
 ⟨some 47, .pick (.t 35) (.c lB [.bool true]) (.t 46),none,[0,1,2,3,4,5,6,7,8,9,10,11,12,13,14,15,16,17,18,19,20,21,22]⟩] true 0))
 (.cond (.t 47) (.seq (.region [] [oq 4 (.mov (.c (.one (.sl 40)) [.nils])),
 oq 5 (.mov (.c lI [.int 8]))] false 0)
 .ret)
 .skip))
 (.seq (.seq (.region [] [oq 48 (.mov (.t 6)),
 oq 49 (.lenL (.t 48)),
 oq 50 (.icmp .gtr (.t 49) (.c lI [.int 0]))] false 0)
 (.cond (.t 50) (.seq (.region [] [oq 4 (.mov (.c (.one (.sl 40)) [.nils])),
 oq 5 (.mov (.c lI [.int 17]))] false 0)
 .ret)
 .skip))
 (.seq (.region [] [oq 52 (.mov (.t 0)),
 oq 53 (.icall 167 22 (clapref3_maps_i17_en) (clapref3_maps_i17_ex) [] 0 none [(.t 52)]),
 oq 51 (.mov (.t 53)),
 oq 54 (.ext 0 (.t 51)),
 oq 55 (.ext 1 (.t 51)),
 oq 8 (.mov (.t 54)),
 oq 9 (.mov (.t 55))] false 2)
 (.seq (.region [] [oq 56 (.mov (.t 0)),
 oq 57 (.appW 0 40 lA0 112 (.c (.one (.sl 40)) [.nils]) (.t 56)),
 oq 10 (.mov (.t 57))] false 1)
 (.seq (.seq (.region [] [oq 58 (.mov (.t 1)),
 oq 59 (.lenL (.t 58)),
 oq 60 (.mov (.c lI [.int 0]))] false 0)
 (.block 0 (.loop clapref3_Merge_h0 clapref3_Merge_o0 clapref3_Merge_c0)))
 (.seq (.seq (.region [] [oq 79 (.mov (.t 10)),
 oq 80 (.lenL (.t 79)),
 oq 81 (.icmp .gtr (.t 80) (.c lI [.int 40]))] false 0)
 (.cond (.t 81) (.seq (.region [] [oq 4 (.mov (.c (.one (.sl 40)) [.nils])),
 oq 5 (.mov (.c lI [.int 2]))] false 0)
 .ret)
 .skip))
 (.seq (.region [] [oq 82 (.mov (.t 10)),
 oq 83 (.call 23 [(.one (.sl 40))] [(.one (.sl 40))] [(.t 82)]),
 oq 4 (.mov (.t 83)),
 oq 5 (.mov (.c lI [.int 0]))] false 0)
 .ret))))))))))}
noncomputable def clapref3_Merge (E:Env) (p0:C) (p1:C):Option (List Row):=
 (E.pc n_clapref3_Clashes [[p0],[p1]]).bind fun y1=>
 if (((at_ (rowsAt y1 1) 0).toI) !=0)=true then
 some [[.nils],[.int ((at_ (rowsAt y1 1) 0).toI)]]
 else
 (if (0:Int)≤0∧0<(p0.rows.length:Int)then
 if (0:Int)≤0∧0<(p1.rows.length:Int)then
 let K2:Bool→Option (Nat×List PV):=fun q3=>
 some (0,[.r [p0], .r [p1], .r [at_ (rowsAt y1 0) 0], .r [.bool q3]])
 if (((at_ (rowsAt p0.rows 0) 0).toI) !=((at_ (rowsAt p1.rows 0) 0).toI))=true then
 K2 true
 else
 if (0:Int)≤0∧0<(p0.rows.length:Int)then
 if (0:Int)≤0∧0<(p1.rows.length:Int)then
 K2 (((at_ (rowsAt p0.rows 0) 4).toI) !=((at_ (rowsAt p1.rows 0) 4).toI))
 else none
 else none
 else none
 else none).bind fun x4=>
 if (gB 3 x4.2)=true then
 some [[.nils],[.int 8]]
 else
 if (decide ((((gC 2 x4.2).rows).length:Int)>0))=true then
 some [[.nils],[.int 17]]
 else
 (E.ic clapref3_maps_i17_n [.r [gC 0 x4.2]]).bind fun y5=>
 if ((gC 0 x4.2).rows).length*112≤140737488355328 then
 (clapref3_Merge_l0 E (gC 1 x4.2) (((gC 1 x4.2).rows).length:Int) 0 (gM 0 y5) (appC .nils ((gC 0 x4.2).rows))).bind fun x7=>
 if (decide ((((gC 0 x7.2).rows).length:Int)>40))=true then
 some [[.nils],[.int 2]]
 else
 (E.pc n_clapref3_Sorted [[gC 0 x7.2]]).bind fun y8=>
 some [[at_ (rowsAt y8 0) 0],[.int 0]]
 else none
theorem clapref3_Merge_eq (E:Env) (p0:C) (p1:C):runP E clapref3_Merge_a [[p0],[p1]]=clapref3_Merge E p0 p1:=by kernel_rfl
def claplaw3_DictJoins_a:AFun:={ps:=[(.one (.sl 40)),(.one (.sl 40))],rs:=[lB],res:=[(false,4,none)],body:=(.seq (.region [] [oq 4 (.mov (.c lB [.bool false]))] false 0)
 (.seq (.seq (.region [] [oq 9 (.call 4 [] [lB] []),
 oq 10 (.not (.t 9))] false 0)
 (.cond (.t 10) (.seq (.region [] [oq 4 (.mov (.c lB [.bool false]))] false 0)
 .ret)
 .skip))
 (.seq (.region [] [oq 12 (.mov (.t 0)),
 oq 13 (.mov (.t 1)),
 oq 14 (.call 5 [(.one (.sl 40)),(.one (.sl 40))] [(.one (.sl 40)),lI] [(.t 12),(.t 13)]),
 oq 11 (.mov (.t 14)),
 oq 15 (.ext 0 (.t 11)),
 oq 16 (.ext 1 (.t 11)),
 oq 5 (.mov (.t 15)),
 oq 6 (.mov (.t 16))] false 0)
 (.seq (.region [] [oq 18 (.mov (.t 0)),
 oq 19 (.mov (.t 1)),
 oq 20 (.call 6 [(.one (.sl 40)),(.one (.sl 40))] [(.one (.sl 40)),lI] [(.t 18),(.t 19)]),
 oq 17 (.mov (.t 20)),
 oq 21 (.ext 0 (.t 17)),
 oq 22 (.ext 1 (.t 17)),
 oq 7 (.mov (.t 21)),
 oq 8 (.mov (.t 22))] false 0)
 (.seq (.seq (.join [(.normal,{slots:=[(0, .d (.one (.sl 40))),(1, .d (.one (.sl 40))),(31, .d lB)],objs:=[]})] (.region [] [oq 23 (.mov (.t 6)),
 oq 24 (.mov (.t 8)),
 oq 25 (.icmp .neq (.t 23) (.t 24)),
 oq 26 (.mov (.t 25)),
 ⟨some 27, .mov (.t 5),some (26,false),[]⟩,
 ⟨some 28, .mov (.t 7),some (26,false),[]⟩,
 ⟨some 29, .call 7 [(.one (.sl 40)),(.one (.sl 40))] [lB] [(.t 27),(.t 28)],some (26,false),[]⟩,
 ⟨some 30, .not (.t 29),some (26,false),[]⟩,
 oq 31 (.pick (.t 26) (.c lB [.bool true]) (.t 30))] false 0))
 (.cond (.t 31) (.seq (.region [] [oq 4 (.mov (.c lB [.bool false]))] false 0)
 .ret)
 .skip))
 (.seq (.region [] [oq 33 (.mov (.t 0)),
 oq 34 (.mov (.t 1)),
 oq 35 (.call 8 [(.one (.sl 40)),(.one (.sl 40))] [(.one (.sl 40)),lI] [(.t 33),(.t 34)]),
 oq 32 (.mov (.t 35)),
 oq 36 (.ext 0 (.t 32)),
 oq 37 (.ext 1 (.t 32)),
 oq 5 (.mov (.t 36)),
 oq 6 (.mov (.t 37))] false 0)
 (.seq (.region [] [oq 39 (.mov (.t 0)),
 oq 40 (.mov (.t 1)),
 oq 41 (.call 9 [(.one (.sl 40)),(.one (.sl 40))] [(.one (.sl 40)),lI] [(.t 39),(.t 40)]),
 oq 38 (.mov (.t 41)),
 oq 42 (.ext 0 (.t 38)),
 oq 43 (.ext 1 (.t 38)),
 oq 7 (.mov (.t 42)),
 oq 8 (.mov (.t 43))] false 0)
 (.seq (.seq (.join [(.normal,{slots:=[(0, .d (.one (.sl 40))),(1, .d (.one (.sl 40))),(52, .d lB)],objs:=[]})] (.region [] [oq 44 (.mov (.t 6)),
 oq 45 (.mov (.t 8)),
 oq 46 (.icmp .neq (.t 44) (.t 45)),
 oq 47 (.mov (.t 46)),
 ⟨some 48, .mov (.t 5),some (47,false),[]⟩,
 ⟨some 49, .mov (.t 7),some (47,false),[]⟩,
 ⟨some 50, .call 7 [(.one (.sl 40)),(.one (.sl 40))] [lB] [(.t 48),(.t 49)],some (47,false),[]⟩,
 ⟨some 51, .not (.t 50),some (47,false),[]⟩,
 oq 52 (.pick (.t 47) (.c lB [.bool true]) (.t 51))] false 0))
 (.cond (.t 52) (.seq (.region [] [oq 4 (.mov (.c lB [.bool false]))] false 0)
 .ret)
 .skip))
 (.seq (.region [] [oq 54 (.mov (.t 0)),
 oq 55 (.mov (.t 1)),
 oq 56 (.call 10 [(.one (.sl 40)),(.one (.sl 40))] [(.one (.sl 40)),lI] [(.t 54),(.t 55)]),
 oq 53 (.mov (.t 56)),
 oq 57 (.ext 0 (.t 53)),
 oq 58 (.ext 1 (.t 53)),
 oq 5 (.mov (.t 57)),
 oq 6 (.mov (.t 58))] false 0)
 (.seq (.region [] [oq 60 (.mov (.t 0)),
 oq 61 (.mov (.t 1)),
 oq 62 (.call 11 [(.one (.sl 40)),(.one (.sl 40))] [(.one (.sl 40)),lI] [(.t 60),(.t 61)]),
 oq 59 (.mov (.t 62)),
 oq 63 (.ext 0 (.t 59)),
 oq 64 (.ext 1 (.t 59)),
 oq 7 (.mov (.t 63)),
 oq 8 (.mov (.t 64))] false 0)
 (.seq (.region [] [oq 65 (.mov (.t 6)),
 oq 66 (.mov (.t 8)),
 oq 67 (.icmp .eql (.t 65) (.t 66)),
 oq 68 (.mov (.t 67)),
 ⟨some 69, .mov (.t 5),some (68,true),[]⟩,
 ⟨some 70, .mov (.t 7),some (68,true),[]⟩,
 ⟨some 71, .call 7 [(.one (.sl 40)),(.one (.sl 40))] [lB] [(.t 69),(.t 70)],some (68,true),[]⟩,
 oq 72 (.pick (.t 68) (.t 71) (.c lB [.bool false])),
 oq 4 (.mov (.t 72))] false 0)
 .ret)))))))))))}
noncomputable def claplaw3_DictJoins (E:Env) (p0:C) (p1:C):Option (List Row):=
 (E.pc n_claplaw3_looked []).bind fun y1=>
 if (!((at_ (rowsAt y1 0) 0).toB))=true then
 some [[.bool false]]
 else
 (E.pc n_dict_Compose [[p0],[p1]]).bind fun y2=>
 (E.pc n_clapref3_Compose [[p0],[p1]]).bind fun y3=>
 (let K4:Bool→Option (Nat×List PV):=fun q5=>
 some (0,[.r [p0], .r [p1], .r [.bool q5]])
 if (((at_ (rowsAt y2 1) 0).toI) !=((at_ (rowsAt y3 1) 0).toI))=true then
 K4 true
 else
 (E.pc n_claplaw3_samePairs [[at_ (rowsAt y2 0) 0],[at_ (rowsAt y3 0) 0]]).bind fun y6=>
 K4 (!((at_ (rowsAt y6 0) 0).toB))).bind fun x7=>
 if (gB 2 x7.2)=true then
 some [[.bool false]]
 else
 (E.pc n_dict_Clashes [[gC 0 x7.2],[gC 1 x7.2]]).bind fun y8=>
 (E.pc n_clapref3_Clashes [[gC 0 x7.2],[gC 1 x7.2]]).bind fun y9=>
 (let K10:Bool→Option (Nat×List PV):=fun q11=>
 some (0,[.r [gC 0 x7.2], .r [gC 1 x7.2], .r [.bool q11]])
 if (((at_ (rowsAt y8 1) 0).toI) !=((at_ (rowsAt y9 1) 0).toI))=true then
 K10 true
 else
 (E.pc n_claplaw3_samePairs [[at_ (rowsAt y8 0) 0],[at_ (rowsAt y9 0) 0]]).bind fun y12=>
 K10 (!((at_ (rowsAt y12 0) 0).toB))).bind fun x13=>
 if (gB 2 x13.2)=true then
 some [[.bool false]]
 else
 (E.pc n_dict_Merge [[gC 0 x13.2],[gC 1 x13.2]]).bind fun y14=>
 (E.pc n_clapref3_Merge [[gC 0 x13.2],[gC 1 x13.2]]).bind fun y15=>
 let K16:Bool→Option (List Row):=fun q17=>
 some [[.bool q17]]
 if (((at_ (rowsAt y14 1) 0).toI)==((at_ (rowsAt y15 1) 0).toI))=true then
 (E.pc n_claplaw3_samePairs [[at_ (rowsAt y14 0) 0],[at_ (rowsAt y15 0) 0]]).bind fun y18=>
 K16 ((at_ (rowsAt y18 0) 0).toB)
 else
 K16 false
theorem claplaw3_DictJoins_eq (E:Env) (p0:C) (p1:C):runP E claplaw3_DictJoins_a [[p0],[p1]]=claplaw3_DictJoins E p0 p1:=by kernel_rfl
end Go.Ev
