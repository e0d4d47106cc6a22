/-
  A part of the proof: what the functions of the program compute.
-/
import Derived.Test.YtgiibefjiloafaaGreatDoorZNum
set_option linter.all false
set_option maxRecDepth 100000
namespace Go.Ev
def value_node_h0:Shape:={slots:=[(46, .d (.one (.sl 59))),(47, .d lI),(48, .d lI)],objs:=[]}
def value_node_o0:List (Exit'×Shape):=[(.exit 1,{slots:=[],objs:=[]}),(.ret,{slots:=[(4, .d lI)],objs:=[]})]
def value_node_c0:ACode:=(.seq (.region [] [oq 49 (.icmp .lss (.t 48) (.t 47))] false 0)
 (.seq (.cond (.t 49) .skip
 (.exit 1))
 (.seq (.block 2 (.seq (.region [] [oq 50 (.iad 59 lA7 (.t 46) (.t 48)),
 oq 51 (.ld lA7 59 (.t 50)),
 oq 7 (.allocO 0 lA7 [.str [], .int 0, .int 0, .str [], .nils]),
 ⟨none, .st lA7 (.t 7) (.t 51),none,[]⟩] false 1)
 (.seq (.region [] [oq 52 (.fad 1 4 59 29 (.t 7)),
 oq 53 (.ld lA8 29 (.t 52)),
 oq 54 (.call 18 [lA8,lB] [lI] [(.t 53),(.c lB [.bool false])]),
 oq 8 (.mov (.t 54))] false 0)
 (.seq (.region [] [oq 55 (.mov (.t 8)),
 oq 56 (.icmp .neq (.t 55) (.c lI [.int 0]))] false 0)
 (.cond (.t 56) (.seq (.region [] [oq 57 (.mov (.t 8)),
 oq 4 (.mov (.t 57))] false 0)
 .ret)
 .skip)))))
 (.region [] [oq 58 (.ibin .add (.t 48) (.c lI [.int 1])),
 oq 48 (.mov (.t 58))] false 0))))
noncomputable def value_node_l0 (E:Env) (v0:C) (v1:Int) (v2:Int):Option (Nat×List PV):=E.fix (stepOf E value_node_c0 value_node_h0 value_node_o0) [.r [v0], .r [.int v1], .r [.int v2]]
noncomputable def value_node_b0 (E:Env) (X:C→Int→Int→Option (Nat×List PV)) (v0:C) (v1:Int) (v2:Int):Option (Nat×List PV):=
 if (decide (v2<v1))=true then
 if (0:Int)≤v2∧v2<(v0.rows.length:Int)then
 (E.pc n_value_node [[at_ (rowsAt v0.rows v2.toNat) 1,at_ (rowsAt v0.rows v2.toNat) 2,at_ (rowsAt v0.rows v2.toNat) 3,at_ (rowsAt v0.rows v2.toNat) 4],[.bool false]]).bind fun y17=>
 if (((at_ (rowsAt y17 0) 0).toI) !=0)=true then
 some (1,[.r [.int ((at_ (rowsAt y17 0) 0).toI)]])
 else
 X v0 v1 (Go.IntKind.i64.wrap (v2+1))
 else none
 else
 some (0,[])
theorem value_node_s0 (E:Env) (X:List PV→Option (Nat×List PV)) (v0:C) (v1:Int) (v2:Int):stepOf E value_node_c0 value_node_h0 value_node_o0 X [.r [v0], .r [.int v1], .r [.int v2]]=value_node_b0 E (fun (v0:C) (v1:Int) (v2:Int)=>X [.r [v0], .r [.int v1], .r [.int v2]]) v0 v1 v2:=by kernel_rfl
def value_node_a:AFun:={ps:=[lA8,lB],rs:=[lI],res:=[(false,4,none)],body:=(.seq (.region [] [oq 2 (.boxP lA8 29 (.t 0)),
 oq 4 (.mov (.c lI [.int 0]))] false 0)
 (.seq (.join [(.normal,{slots:=[(2, .d (.one (.ref 29)))],objs:=[]}),(.ret,{slots:=[(4, .d lI)],objs:=[]})] (.block 0 (.seq (.join [(.normal,{slots:=[(2, .d (.one (.ref 29))),(9, .d lB)],objs:=[]})] (.region [] [oq 10 (.fad 0 1 29 3 (.t 2)),
 oq 11 (.ld lI 3 (.t 10)),
 oq 12 (.icmp .lss (.t 11) (.c lI [.int 0])),
 oq 13 (.mov (.t 12)),
 ⟨some 14, .fad 0 1 29 3 (.t 2),some (13,false),[]⟩,
 ⟨some 15, .ld lI 3 (.t 14),some (13,false),[]⟩,
 ⟨some 16, .icmp .geq (.t 15) (.c lI [.int 12]),some (13,false),[]⟩,
 oq 17 (.pick (.t 13) (.c lB [.bool true]) (.t 16)),
 oq 18 (.mov (.t 17)),
 ⟨some 19, .fad 0 1 29 3 (.t 2),some (18,false),[]⟩,
 ⟨some 20, .ld lI 3 (.t 19),some (18,false),[]⟩,
 ⟨some 21, .icmp .eql (.t 20) (.c lI [.int 10]),some (18,false),[]⟩,
 oq 22 (.pick (.t 18) (.c lB [.bool true]) (.t 21)),
 oq 23 (.mov (.t 22)),
 ⟨some 24, .fad 0 1 29 3 (.t 2),some (23,false),[]⟩,
 ⟨some 25, .ld lI 3 (.t 24),some (23,false),[]⟩,
 ⟨some 26, .icmp .eql (.t 25) (.c lI [.int 11]),some (23,false),[]⟩,
 ⟨some 27, .mov (.t 26),some (23,false),[]⟩,
 ⟨some 28, .mov (.t 1),some (27,true),[]⟩,
 ⟨some 29, .not (.t 28),some (27,true),[]⟩,
 ⟨some 30, .pick (.t 27) (.t 29) (.c lB [.bool false]),some (23,false),[]⟩,
 oq 31 (.pick (.t 23) (.c lB [.bool true]) (.t 30)),
 oq 32 (.mov (.t 31)),
 ⟨some 33, .ld lA8 29 (.t 2),some (32,false),[]⟩,
 ⟨some 34, .call 27 [lA8] [lB] [(.t 33)],some (32,false),[]⟩,
 oq 35 (.pick (.t 32) (.c lB [.bool true]) (.t 34)),
 oq 9 (.mov (.t 35))] false 0))
 (.cond (.t 9) (.seq (.region [] [oq 4 (.mov (.c lI [.int 3]))] false 0)
 .ret)
 (.seq (.region [] [oq 37 (.ld lA8 29 (.t 2)),
 oq 38 (.call 28 [lA8] [lB] [(.t 37)]),
 oq 39 (.not (.t 38)),
 oq 36 (.mov (.t 39))] false 0)
 (.cond (.t 36) (.seq (.region [] [oq 4 (.mov (.c lI [.int 11]))] false 0)
 .ret)
 .skip))))))
 (.seq (.seq (.region [] [oq 40 (.ld lA8 29 (.t 2)),
 oq 41 (.call 29 [lA8] [lI] [(.t 40)]),
 oq 5 (.mov (.t 41))] false 0)
 (.seq (.region [] [oq 42 (.mov (.t 5)),
 oq 43 (.icmp .neq (.t 42) (.c lI [.int 0]))] false 0)
 (.cond (.t 43) (.seq (.region [] [oq 44 (.mov (.t 5)),
 oq 4 (.mov (.t 44))] false 0)
 .ret)
 .skip)))
 (.seq (.seq (.region [] [oq 45 (.fad 3 1 29 27 (.t 2)),
 oq 46 (.ld (.one (.sl 59)) 27 (.t 45)),
 oq 47 (.lenL (.t 46)),
 oq 48 (.mov (.c lI [.int 0]))] false 0)
 (.block 1 (.loop value_node_h0 value_node_o0 value_node_c0)))
 (.seq (.region [] [oq 4 (.mov (.c lI [.int 0]))] false 0)
 .ret)))))}
noncomputable def value_node (E:Env) (p0:Row) (p1:Bool):Option (List Row):=
 ((let K1:Bool→Option (Nat×List PV):=fun q2=>
  let K3:Bool→Option (Nat×List PV):=fun q4=>
   let K5:Bool→Option (Nat×List PV):=fun q6=>
    let K7:Bool→Option (Nat×List PV):=fun q8=>
     some (0,[.r [.dp p0], .r [.bool q8]])
    if q6=true then
     K7 true
    else
     (E.pc n_value_unused [p0]).bind fun y9=>
      K7 ((at_ (rowsAt y9 0) 0).toB)
   if q4=true then
    K5 true
   else
    let K10:Bool→Option (Nat×List PV):=fun q11=>
     K5 q11
    if (((at_ p0 0).toI)==11)=true then
     K10 (!p1)
    else
     K10 false
  if q2=true then
   K3 true
  else
   K3 (((at_ p0 0).toI)==10)
 if (decide (((at_ p0 0).toI)<0))=true then
  K1 true
 else
  K1 (decide (((at_ p0 0).toI)≥12))).bind fun x12=>
  if (gB 1 x12.2)=true then
   some (1,[.r [.int 3]])
  else
   if (gC 0 x12.2).isDp=true then
    (E.pc n_value_number [(gC 0 x12.2).dpRow]).bind fun y13=>
     if (!((at_ (rowsAt y13 0) 0).toB))=true then
      some (1,[.r [.int 11]])
     else
      some (0,[.r [gC 0 x12.2]])
   else none).bind fun x14=>
  match x14.1 with
  |0=>
   if (gC 0 x14.2).isDp=true then
    (E.pc n_value_fields [(gC 0 x14.2).dpRow]).bind fun y16=>
     if (((at_ (rowsAt y16 0) 0).toI) !=0)=true then
      some [[.int ((at_ (rowsAt y16 0) 0).toI)]]
     else
      if (gC 0 x14.2).isDp=true then
       (value_node_l0 E (at_ ((gC 0 x14.2).dpRow) 3) (((at_ ((gC 0 x14.2).dpRow) 3).rows).length:Int) 0).bind fun x18=>
        match x18.1 with
        |0=>
         some [[.int 0]]
        |i19+1=>
         some [[.int (gI 0 x18.2)]]
      else none
   else none
  |i15+1=>
   some [[.int (gI 0 x14.2)]]
theorem value_node_eq (E:Env) (p0:Row) (p1:Bool):runP E value_node_a [p0,[.bool p1]]=value_node E p0 p1:=by kernel_rfl
def value_Check_a:AFun:={ps:=[lA8],rs:=[lI],res:=[(false,2,none)],body:=(.seq (.region [] [oq 1 (.boxP lA8 29 (.t 0)),
 oq 2 (.mov (.c lI [.int 0]))] false 0)
 (.seq (.seq (.region [] [oq 3 (.ld lA8 29 (.t 1)),
 oq 4 (.call 16 [lA8] [lI] [(.t 3)]),
 oq 5 (.icmp .gtr (.t 4) (.c lI [.int 2000])),
 oq 6 (.mov (.t 5)),
 ⟨some 7, .ld lA8 29 (.t 1),some (6,false),[]⟩,
 ⟨some 8, .call 17 [lA8] [lI] [(.t 7)],some (6,false),[]⟩,
 ⟨some 9, .icmp .gtr (.t 8) (.c lI [.int 40]),some (6,false),[]⟩,
 oq 10 (.pick (.t 6) (.c lB [.bool true]) (.t 9))] false 0)
 (.cond (.t 10) (.seq (.region [] [oq 2 (.mov (.c lI [.int 2]))] false 0)
 .ret)
 .skip))
 (.seq (.region [] [oq 11 (.ld lA8 29 (.t 1)),
 oq 12 (.call 18 [lA8,lB] [lI] [(.t 11),(.c lB [.bool true])]),
 oq 2 (.mov (.t 12))] false 0)
 .ret)))}
noncomputable def value_Check (E:Env) (p0:Row):Option (List Row):=
 (E.pc n_value_Size [p0]).bind fun y1=>
 let K2:Bool→Option (List Row):=fun q3=>
 if q3=true then
 some [[.int 2]]
 else
 (E.pc n_value_node [p0,[.bool true]]).bind fun y4=>
 some [[.int ((at_ (rowsAt y4 0) 0).toI)]]
 if (decide (((at_ (rowsAt y1 0) 0).toI)>2000))=true then
 K2 true
 else
 (E.pc n_value_Deep [p0]).bind fun y5=>
 K2 (decide (((at_ (rowsAt y5 0) 0).toI)>40))
theorem value_Check_eq (E:Env) (p0:Row):runP E value_Check_a [p0]=value_Check E p0:=by kernel_rfl
def lens_table_a:AFun:={ps:=[lI],rs:=[lA9],res:=[(true,2,none)],body:=(.seq (.region [] [oq 2 (.allocO 0 lA9 [.bool false, .bool false, .bool false, .bool false, .bool false, .bool false, .bool false, .bool false, .int 0])] false 1)
 (.seq (.seq (.region [] [oq 3 (.mov (.t 0))] false 0)
 (.join [(.normal,{slots:=[(2, .ptr 0 0)],objs:=[.var lA9]}),(.ret,{slots:=[(2, .ptr 0 0)],objs:=[.var lA9]})] (.block 0 (.seq (.region [] [oq 5 (.icmp .eql (.t 3) (.c lI [.int 1])),
 oq 4 (.mov (.t 5))] false 0)
 (.cond (.t 4) (.seq (.region [] [oq 6 (.bld lA9 [.bool false, .bool false, .bool false, .bool false, .bool false, .bool false, .bool false, .bool false, .int 0] [(8,1,(.c lI [.int (-1)]))]),
 ⟨none, .st lA9 (.t 2) (.t 6),none,[]⟩] false 0)
 .ret)
 (.seq (.region [] [oq 8 (.icmp .eql (.t 3) (.c lI [.int 2])),
 oq 7 (.mov (.t 8))] false 0)
 (.cond (.t 7) (.seq (.region [] [oq 9 (.bld lA9 [.bool false, .bool false, .bool false, .bool false, .bool false, .bool false, .bool false, .bool false, .int 0] [(0,1,(.c lB [.bool true])),(8,1,(.c lI [.int 1]))]),
 ⟨none, .st lA9 (.t 2) (.t 9),none,[]⟩] false 0)
 .ret)
 (.seq (.region [] [oq 11 (.icmp .eql (.t 3) (.c lI [.int 3])),
 oq 10 (.mov (.t 11))] false 0)
 (.cond (.t 10) (.seq (.region [] [oq 12 (.bld lA9 [.bool false, .bool false, .bool false, .bool false, .bool false, .bool false, .bool false, .bool false, .int 0] [(0,1,(.c lB [.bool true])),(1,1,(.c lB [.bool true]))]),
 ⟨none, .st lA9 (.t 2) (.t 12),none,[]⟩] false 0)
 .ret)
 (.seq (.seq (.region [] [oq 14 (.icmp .eql (.t 3) (.c lI [.int 4])),
 oq 13 (.mov (.t 14))] false 0)
 (.join [(.normal,{slots:=[(2, .ptr 0 0),(3, .d lI),(13, .d lB)],objs:=[.var lA9]})] (.cond (.t 13) .skip
 (.seq (.region [] [oq 15 (.icmp .eql (.t 3) (.c lI [.int 5])),
 oq 13 (.mov (.t 15))] false 0)
 (.cond (.t 13) .skip
 (.region [] [oq 16 (.icmp .eql (.t 3) (.c lI [.int 15])),
 oq 13 (.mov (.t 16))] false 0))))))
 (.cond (.t 13) (.seq (.region [] [oq 17 (.bld lA9 [.bool false, .bool false, .bool false, .bool false, .bool false, .bool false, .bool false, .bool false, .int 0] [(0,1,(.c lB [.bool true])),(6,1,(.c lB [.bool true]))]),
 ⟨none, .st lA9 (.t 2) (.t 17),none,[]⟩] false 0)
 .ret)
 (.seq (.region [] [oq 19 (.icmp .eql (.t 3) (.c lI [.int 6])),
 oq 18 (.mov (.t 19))] false 0)
 (.cond (.t 18) (.seq (.region [] [oq 20 (.bld lA9 [.bool false, .bool false, .bool false, .bool false, .bool false, .bool false, .bool false, .bool false, .int 0] [(2,1,(.c lB [.bool true])),(1,1,(.c lB [.bool true]))]),
 ⟨none, .st lA9 (.t 2) (.t 20),none,[]⟩] false 0)
 .ret)
 (.seq (.seq (.region [] [oq 22 (.icmp .eql (.t 3) (.c lI [.int 7])),
 oq 21 (.mov (.t 22))] false 0)
 (.join [(.normal,{slots:=[(2, .ptr 0 0),(3, .d lI),(21, .d lB)],objs:=[.var lA9]})] (.cond (.t 21) .skip
 (.seq (.region [] [oq 23 (.icmp .eql (.t 3) (.c lI [.int 16])),
 oq 21 (.mov (.t 23))] false 0)
 (.cond (.t 21) .skip
 (.region [] [oq 24 (.icmp .eql (.t 3) (.c lI [.int 17])),
 oq 21 (.mov (.t 24))] false 0))))))
 (.cond (.t 21) (.seq (.region [] [oq 25 (.bld lA9 [.bool false, .bool false, .bool false, .bool false, .bool false, .bool false, .bool false, .bool false, .int 0] [(0,1,(.c lB [.bool true]))]),
 ⟨none, .st lA9 (.t 2) (.t 25),none,[]⟩] false 0)
 .ret)
 (.seq (.region [] [oq 27 (.icmp .eql (.t 3) (.c lI [.int 8])),
 oq 26 (.mov (.t 27))] false 0)
 (.cond (.t 26) (.seq (.region [] [oq 28 (.bld lA9 [.bool false, .bool false, .bool false, .bool false, .bool false, .bool false, .bool false, .bool false, .int 0] [(0,1,(.c lB [.bool true])),(3,1,(.c lB [.bool true]))]),
 ⟨none, .st lA9 (.t 2) (.t 28),none,[]⟩] false 0)
 .ret)
 (.seq (.region [] [oq 30 (.icmp .eql (.t 3) (.c lI [.int 9])),
 oq 29 (.mov (.t 30))] false 0)
 (.cond (.t 29) (.seq (.region [] [oq 31 (.bld lA9 [.bool false, .bool false, .bool false, .bool false, .bool false, .bool false, .bool false, .bool false, .int 0] [(0,1,(.c lB [.bool true])),(1,1,(.c lB [.bool true])),(2,1,(.c lB [.bool true])),(5,1,(.c lB [.bool true]))]),
 ⟨none, .st lA9 (.t 2) (.t 31),none,[]⟩] false 0)
 .ret)
 (.seq (.region [] [oq 33 (.icmp .eql (.t 3) (.c lI [.int 10])),
 oq 32 (.mov (.t 33))] false 0)
 (.cond (.t 32) (.seq (.region [] [oq 34 (.bld lA9 [.bool false, .bool false, .bool false, .bool false, .bool false, .bool false, .bool false, .bool false, .int 0] [(0,1,(.c lB [.bool true])),(1,1,(.c lB [.bool true])),(5,1,(.c lB [.bool true]))]),
 ⟨none, .st lA9 (.t 2) (.t 34),none,[]⟩] false 0)
 .ret)
 (.seq (.region [] [oq 36 (.icmp .eql (.t 3) (.c lI [.int 11])),
 oq 35 (.mov (.t 36))] false 0)
 (.cond (.t 35) (.seq (.region [] [oq 37 (.bld lA9 [.bool false, .bool false, .bool false, .bool false, .bool false, .bool false, .bool false, .bool false, .int 0] [(7,1,(.c lB [.bool true]))]),
 ⟨none, .st lA9 (.t 2) (.t 37),none,[]⟩] false 0)
 .ret)
 (.seq (.region [] [oq 39 (.icmp .eql (.t 3) (.c lI [.int 12])),
 oq 38 (.mov (.t 39))] false 0)
 (.cond (.t 38) (.seq (.region [] [oq 40 (.bld lA9 [.bool false, .bool false, .bool false, .bool false, .bool false, .bool false, .bool false, .bool false, .int 0] [(4,1,(.c lB [.bool true]))]),
 ⟨none, .st lA9 (.t 2) (.t 40),none,[]⟩] false 0)
 .ret)
 (.seq (.region [] [oq 42 (.icmp .eql (.t 3) (.c lI [.int 13])),
 oq 41 (.mov (.t 42))] false 0)
 (.cond (.t 41) (.seq (.region [] [oq 43 (.bld lA9 [.bool false, .bool false, .bool false, .bool false, .bool false, .bool false, .bool false, .bool false, .int 0] [(0,1,(.c lB [.bool true])),(8,1,(.c lI [.int 1]))]),
 ⟨none, .st lA9 (.t 2) (.t 43),none,[]⟩] false 0)
 .ret)
 (.seq (.region [] [oq 45 (.icmp .eql (.t 3) (.c lI [.int 14])),
 oq 44 (.mov (.t 45))] false 0)
 (.cond (.t 44) (.seq (.region [] [oq 46 (.bld lA9 [.bool false, .bool false, .bool false, .bool false, .bool false, .bool false, .bool false, .bool false, .int 0] [(2,1,(.c lB [.bool true])),(8,1,(.c lI [.int (-1)]))]),
 ⟨none, .st lA9 (.t 2) (.t 46),none,[]⟩] false 0)
 .ret)
 (.seq (.region [] [oq 48 (.icmp .eql (.t 3) (.c lI [.int 18])),
 oq 47 (.mov (.t 48))] false 0)
 (.cond (.t 47) (.seq (.region [] [oq 49 (.bld lA9 [.bool false, .bool false, .bool false, .bool false, .bool false, .bool false, .bool false, .bool false, .int 0] [(6,1,(.c lB [.bool true]))]),
 ⟨none, .st lA9 (.t 2) (.t 49),none,[]⟩] false 0)
 .ret)
 .skip)))))))))))))))))))))))))))))))
 (.seq (.region [] [oq 50 (.bld lA9 [.bool false, .bool false, .bool false, .bool false, .bool false, .bool false, .bool false, .bool false, .int 0] []),
 ⟨none, .st lA9 (.t 2) (.t 50),none,[]⟩] false 0)
 .ret)))}
def value_order_a:AFun:={ps:=[lI],rs:=[lI],res:=[(false,2,none)],body:=(.seq (.region [] [oq 2 (.mov (.c lI [.int 0]))] false 0)
 (.seq (.seq (.region [] [oq 3 (.mov (.t 0)),
 oq 4 (.icmp .lss (.t 3) (.c lI [.int 0]))] false 0)
 (.cond (.t 4) (.seq (.region [] [oq 5 (.mov (.t 0)),
 oq 6 (.ibin .and (.t 5) (.c lI [.int 9223372036854775807])),
 oq 7 (.ibin .sub (.c lI [.int (-1)]) (.t 6)),
 oq 2 (.mov (.t 7))] false 0)
 .ret)
 .skip))
 (.seq (.region [] [oq 8 (.mov (.t 0)),
 oq 2 (.mov (.t 8))] false 0)
 .ret)))}
def cmp_Or_int_h0:Shape:={slots:=[(3, .d lI),(6, .d (.one (.sl 3))),(7, .d lI),(8, .d lI)],objs:=[]}
def cmp_Or_int_o0:List (Exit'×Shape):=[(.exit 0,{slots:=[(3, .d lI)],objs:=[]}),(.ret,{slots:=[(2, .d lI)],objs:=[]})]
def cmp_Or_int_c0:ACode:=(.seq (.region [] [oq 9 (.icmp .lss (.t 8) (.t 7))] false 0)
 (.seq (.cond (.t 9) .skip
 (.exit 0))
 (.seq (.block 1 (.seq (.region [] [oq 10 (.iad 3 lI (.t 6) (.t 8)),
 oq 11 (.ld lI 3 (.t 10)),
 oq 5 (.mov (.t 11))] false 0)
 (.seq (.region [] [oq 12 (.mov (.t 5)),
 oq 13 (.mov (.t 3)),
 oq 14 (.icmp .neq (.t 12) (.t 13))] false 0)
 (.cond (.t 14) (.seq (.region [] [oq 15 (.mov (.t 5)),
 oq 2 (.mov (.t 15))] false 0)
 .ret)
 .skip))))
 (.region [] [oq 16 (.ibin .add (.t 8) (.c lI [.int 1])),
 oq 8 (.mov (.t 16))] false 0))))
def cmp_Or_int_a:AFun:={ps:=[(.one (.sl 3))],rs:=[lI],res:=[(false,2,none)],body:=(.seq (.region [] [oq 2 (.mov (.c lI [.int 0]))] false 0)
 (.seq (.region [] [oq 3 (.mov (.c lI [.int 0]))] false 0)
 (.seq (.seq (.region [] [oq 6 (.mov (.t 0)),
 oq 7 (.lenL (.t 6)),
 oq 8 (.mov (.c lI [.int 0]))] false 0)
 (.block 0 (.loop cmp_Or_int_h0 cmp_Or_int_o0 cmp_Or_int_c0)))
 (.seq (.region [] [oq 17 (.mov (.t 3)),
 oq 2 (.mov (.t 17))] false 0)
 .ret))))}
def cmp_isNaN_int_a:AFun:={ps:=[lI],rs:=[lB],res:=[(false,2,none)],body:=(.seq (.region [] [oq 2 (.mov (.c lB [.bool false]))] false 0)
 (.seq (.region [] [oq 3 (.mov (.t 0)),
 oq 4 (.mov (.t 0)),
 oq 5 (.icmp .neq (.t 3) (.t 4)),
 oq 2 (.mov (.t 5))] false 0)
 .ret))}
def cmp_Compare_int_a:AFun:={ps:=[lI,lI],rs:=[lI],res:=[(false,4,none)],body:=(.seq (.region [] [oq 4 (.mov (.c lI [.int 0]))] false 0)
 (.seq (.region [] [oq 7 (.mov (.t 0)),
 oq 8 (.call 167 [lI] [lB] [(.t 7)]),
 oq 5 (.mov (.t 8))] false 0)
 (.seq (.region [] [oq 9 (.mov (.t 1)),
 oq 10 (.call 167 [lI] [lB] [(.t 9)]),
 oq 6 (.mov (.t 10))] false 0)
 (.seq (.seq (.region [] [oq 11 (.mov (.t 5))] false 0)
 (.cond (.t 11) (.seq (.seq (.region [] [oq 12 (.mov (.t 6))] false 0)
 (.cond (.t 12) (.seq (.region [] [oq 4 (.mov (.c lI [.int 0]))] false 0)
 .ret)
 .skip))
 (.seq (.region [] [oq 4 (.mov (.c lI [.int (-1)]))] false 0)
 .ret))
 .skip))
 (.seq (.seq (.region [] [oq 13 (.mov (.t 6))] false 0)
 (.cond (.t 13) (.seq (.region [] [oq 4 (.mov (.c lI [.int 1]))] false 0)
 .ret)
 .skip))
 (.seq (.seq (.region [] [oq 14 (.mov (.t 0)),
 oq 15 (.mov (.t 1)),
 oq 16 (.icmp .lss (.t 14) (.t 15))] false 0)
 (.cond (.t 16) (.seq (.region [] [oq 4 (.mov (.c lI [.int (-1)]))] false 0)
 .ret)
 .skip))
 (.seq (.seq (.region [] [oq 17 (.mov (.t 0)),
 oq 18 (.mov (.t 1)),
 oq 19 (.icmp .gtr (.t 17) (.t 18))] false 0)
 (.cond (.t 19) (.seq (.region [] [oq 4 (.mov (.c lI [.int 1]))] false 0)
 .ret)
 .skip))
 (.seq (.region [] [oq 4 (.mov (.c lI [.int 0]))] false 0)
 .ret))))))))}
def internal_bytealg_CompareString_a:AFun:={ps:=[lS,lS],rs:=[lI],res:=[(false,4,none)],body:=(.seq (.region [] [oq 4 (.mov (.c lI [.int 0]))] false 0)
 (.seq (.region [] [oq 5 (.mov (.t 0)),
 oq 6 (.mov (.t 1)),
 oq 7 (.cmpS 184 (.t 5) (.t 6)),
 oq 4 (.mov (.t 7))] false 0)
 .ret))}
def strings_Compare_a:AFun:={ps:=[lS,lS],rs:=[lI],res:=[(false,4,none)],body:=(.seq (.region [] [oq 4 (.mov (.c lI [.int 0]))] false 0)
 (.seq (.region [] [oq 5 (.mov (.t 0)),
 oq 6 (.mov (.t 1)),
 oq 7 (.call 168 [lS,lS] [lI] [(.t 5),(.t 6)]),
 oq 4 (.mov (.t 7))] false 0)
 .ret))}
def slices_CompareFunc_api_Field_h0:Shape:={slots:=[(0, .d (.one (.sl 59))),(1, .d (.one (.sl 59))),(2, .d (.one (.fn 192))),(11, .d (.one (.sl 59))),(12, .d lI),(13, .d lI)],objs:=[]}
def slices_CompareFunc_api_Field_o0:List (Exit'×Shape):=[(.exit 0,{slots:=[(0, .d (.one (.sl 59))),(1, .d (.one (.sl 59)))],objs:=[]}),(.ret,{slots:=[(6, .d lI)],objs:=[]})]
def slices_CompareFunc_api_Field_c0:ACode:=(.seq (.region [] [oq 14 (.icmp .lss (.t 13) (.t 12))] false 0)
 (.seq (.cond (.t 14) .skip
 (.exit 0))
 (.seq (.block 1 (.seq (.region [] [oq 15 (.mov (.t 13)),
 oq 16 (.iad 59 lA7 (.t 11) (.t 13)),
 oq 17 (.ld lA7 59 (.t 16)),
 oq 8 (.allocO 0 lA7 [.str [], .int 0, .int 0, .str [], .nils]),
 oq 7 (.mov (.t 15)),
 ⟨none, .st lA7 (.t 8) (.t 17),none,[]⟩] false 1)
 (.seq (.seq (.region [] [oq 18 (.mov (.t 7)),
 oq 19 (.mov (.t 1)),
 oq 20 (.lenL (.t 19)),
 oq 21 (.icmp .geq (.t 18) (.t 20))] false 0)
 (.cond (.t 21) (.seq (.region [] [oq 6 (.mov (.c lI [.int 1]))] false 0)
 .ret)
 .skip))
 (.seq (.region [] [oq 22 (.mov (.t 1)),
 oq 23 (.mov (.t 7)),
 oq 24 (.iad 59 lA7 (.t 22) (.t 23)),
 oq 25 (.ld lA7 59 (.t 24)),
 oq 9 (.allocO 0 lA7 [.str [], .int 0, .int 0, .str [], .nils]),
 ⟨none, .st lA7 (.t 9) (.t 25),none,[]⟩] false 1)
 (.seq (.region [] [oq 26 (.mov (.t 2)),
 oq 27 (.ld lA7 59 (.t 8)),
 oq 28 (.ld lA7 59 (.t 9)),
 oq 29 (.callv 192 [lA7,lA7] [lI] (.t 26) [(.t 27),(.t 28)]),
 oq 10 (.mov (.t 29))] false 0)
 (.seq (.region [] [oq 30 (.mov (.t 10)),
 oq 31 (.icmp .neq (.t 30) (.c lI [.int 0]))] false 0)
 (.cond (.t 31) (.seq (.region [] [oq 32 (.mov (.t 10)),
 oq 6 (.mov (.t 32))] false 0)
 .ret)
 .skip)))))))
 (.region [] [oq 33 (.ibin .add (.t 13) (.c lI [.int 1])),
 oq 13 (.mov (.t 33))] false 0))))
def slices_CompareFunc_api_Field_a:AFun:={ps:=[(.one (.sl 59)),(.one (.sl 59)),(.one (.fn 192))],rs:=[lI],res:=[(false,6,none)],body:=(.seq (.region [] [oq 6 (.mov (.c lI [.int 0]))] false 0)
 (.seq (.seq (.region [] [oq 11 (.mov (.t 0)),
 oq 12 (.lenL (.t 11)),
 oq 13 (.mov (.c lI [.int 0]))] false 0)
 (.block 0 (.loop slices_CompareFunc_api_Field_h0 slices_CompareFunc_api_Field_o0 slices_CompareFunc_api_Field_c0)))
 (.seq (.seq (.region [] [oq 34 (.mov (.t 0)),
 oq 35 (.lenL (.t 34)),
 oq 36 (.mov (.t 1)),
 oq 37 (.lenL (.t 36)),
 oq 38 (.icmp .lss (.t 35) (.t 37))] false 0)
 (.cond (.t 38) (.seq (.region [] [oq 6 (.mov (.c lI [.int (-1)]))] false 0)
 .ret)
 .skip))
 (.seq (.region [] [oq 6 (.mov (.c lI [.int 0]))] false 0)
 .ret))))}
def value_Cmp_1_a:AFun:={ps:=[lA7,lA7],rs:=[lI],res:=[(false,4,none)],body:=(.seq (.region [] [oq 2 (.boxP lA7 59 (.t 0)),
 oq 3 (.boxP lA7 59 (.t 1)),
 oq 4 (.mov (.c lI [.int 0]))] false 0)
 (.seq (.region [] [oq 5 (.fad 0 1 59 9 (.t 2)),
 ⟨some 6, .ld lS 9 (.t 5),none,[0]⟩,
 oq 7 (.fad 0 1 59 9 (.t 3)),
 ⟨some 8, .ld lS 9 (.t 7),none,[2]⟩,
 ⟨some 9, .call 139 [lS,lS] [lI] [(.t 6),(.t 8)],none,[0,1,2,3]⟩,
 oq 10 (.fad 1 4 59 29 (.t 2)),
 ⟨some 11, .ld lA8 29 (.t 10),none,[5]⟩,
 oq 12 (.fad 1 4 59 29 (.t 3)),
 ⟨some 13, .ld lA8 29 (.t 12),none,[7]⟩,
 ⟨some 14, .call 109 [lA8,lA8] [lI] [(.t 11),(.t 13)],none,[0,1,2,3,4,5,6,7,8]⟩,
 ⟨some 15, .bsl 3 lI 2 [.int 0] [(0,(.t 9)),(1,(.t 14))],none,[0,1,2,3,4,5,6,7,8,9]⟩,
 ⟨some 16, .call 137 [(.one (.sl 3))] [lI] [(.t 15)],none,[0,1,2,3,4,5,6,7,8,9,10]⟩,
 ⟨some 4, .mov (.t 16),none,[0,1,2,3,4,5,6,7,8,9,10,11]⟩] true 0)
 .ret))}
def value_Cmp_a:AFun:={ps:=[lA8,lA8],rs:=[lI],res:=[(false,4,none)],body:=(.seq (.region [] [oq 2 (.boxP lA8 29 (.t 0)),
 oq 3 (.boxP lA8 29 (.t 1)),
 oq 4 (.mov (.c lI [.int 0]))] false 0)
 (.seq (.region [] [oq 8 (.fad 1 1 29 3 (.t 2)),
 ⟨some 9, .ld lI 3 (.t 8),none,[0]⟩,
 oq 10 (.fad 1 1 29 3 (.t 3)),
 ⟨some 11, .ld lI 3 (.t 10),none,[2]⟩,
 ⟨some 5, .mov (.t 9),none,[0,1]⟩,
 ⟨some 6, .mov (.t 11),none,[0,1,2,3,4]⟩] true 0)
 (.seq (.seq (.region [] [oq 12 (.fad 0 1 29 3 (.t 2)),
 oq 13 (.ld lI 3 (.t 12)),
 oq 14 (.icmp .eql (.t 13) (.c lI [.int 3]))] false 0)
 (.join [(.normal,{slots:=[(2, .d (.one (.ref 29))),(3, .d (.one (.ref 29))),(5, .d lI),(6, .d lI)],objs:=[]})] (.cond (.t 14) (.region [] [oq 15 (.mov (.t 5)),
 oq 16 (.call 136 [lI] [lI] [(.t 15)]),
 oq 17 (.mov (.t 6)),
 oq 18 (.call 136 [lI] [lI] [(.t 17)]),
 oq 5 (.mov (.t 16)),
 oq 6 (.mov (.t 18))] false 0)
 .skip)))
 (.seq (.region [] [oq 19 (.fad 0 1 29 3 (.t 2)),
 ⟨some 20, .ld lI 3 (.t 19),none,[0]⟩,
 oq 21 (.fad 0 1 29 3 (.t 3)),
 ⟨some 22, .ld lI 3 (.t 21),none,[2]⟩,
 ⟨some 23, .call 138 [lI,lI] [lI] [(.t 20),(.t 22)],none,[0,1,2,3]⟩,
 oq 24 (.mov (.t 5)),
 oq 25 (.mov (.t 6)),
 ⟨some 26, .call 138 [lI,lI] [lI] [(.t 24),(.t 25)],none,[0,1,2,3,4,5,6]⟩,
 oq 27 (.fad 2 1 29 9 (.t 2)),
 ⟨some 28, .ld lS 9 (.t 27),none,[8]⟩,
 oq 29 (.fad 2 1 29 9 (.t 3)),
 ⟨some 30, .ld lS 9 (.t 29),none,[10]⟩,
 ⟨some 31, .call 139 [lS,lS] [lI] [(.t 28),(.t 30)],none,[0,1,2,3,4,5,6,7,8,9,10,11]⟩,
 ⟨some 32, .bsl 3 lI 3 [.int 0] [(0,(.t 23)),(1,(.t 26)),(2,(.t 31))],none,[0,1,2,3,4,5,6,7,8,9,10,11,12]⟩,
 ⟨some 33, .call 137 [(.one (.sl 3))] [lI] [(.t 32)],none,[0,1,2,3,4,5,6,7,8,9,10,11,12,13]⟩,
 ⟨some 7, .mov (.t 33),none,[0,1,2,3,4,5,6,7,8,9,10,11,12,13,14]⟩] true 0)
 (.seq (.seq (.region [] [oq 34 (.mov (.t 7)),
 oq 35 (.icmp .neq (.t 34) (.c lI [.int 0]))] false 0)
 (.cond (.t 35) (.seq (.region [] [oq 36 (.mov (.t 7)),
 oq 4 (.mov (.t 36))] false 0)
 .ret)
 .skip))
 (.seq (.region [] [oq 37 (.fad 3 1 29 27 (.t 2)),
 oq 38 (.ld (.one (.sl 59)) 27 (.t 37)),
 oq 39 (.fad 3 1 29 27 (.t 3)),
 oq 40 (.ld (.one (.sl 59)) 27 (.t 39)),
 oq 41 (.call 140 [(.one (.sl 59)),(.one (.sl 59)),(.one (.fn 192))] [lI] [(.t 38),(.t 40),(.c (.one (.fn 192)) [.fn n_value_Cmp_1 []])]),
 oq 4 (.mov (.t 41))] false 0)
 .ret))))))}
def value_Same_a:AFun:={ps:=[lA8,lA8],rs:=[lB],res:=[(false,4,none)],body:=(.seq (.region [] [oq 2 (.boxP lA8 29 (.t 0)),
 oq 3 (.boxP lA8 29 (.t 1)),
 oq 4 (.mov (.c lB [.bool false]))] false 0)
 (.seq (.region [] [oq 5 (.ld lA8 29 (.t 2)),
 oq 6 (.ld lA8 29 (.t 3)),
 oq 7 (.call 109 [lA8,lA8] [lI] [(.t 5),(.t 6)]),
 oq 8 (.icmp .eql (.t 7) (.c lI [.int 0])),
 oq 4 (.mov (.t 8))] false 0)
 .ret))}
def lens_Plain_a:AFun:={ps:=[lI],rs:=[lB],res:=[(false,2,none)],body:=(.seq (.region [] [oq 2 (.mov (.c lB [.bool false]))] false 0)
 (.seq (.region [] [oq 3 (.mov (.t 0)),
 oq 4 (.icmp .eql (.t 3) (.c lI [.int 1])),
 oq 5 (.mov (.t 4)),
 ⟨some 6, .mov (.t 0),some (5,false),[]⟩,
 ⟨some 7, .icmp .eql (.t 6) (.c lI [.int 2]),some (5,false),[]⟩,
 oq 8 (.pick (.t 5) (.c lB [.bool true]) (.t 7)),
 oq 9 (.mov (.t 8)),
 ⟨some 10, .mov (.t 0),some (9,false),[]⟩,
 ⟨some 11, .icmp .eql (.t 10) (.c lI [.int 4]),some (9,false),[]⟩,
 oq 12 (.pick (.t 9) (.c lB [.bool true]) (.t 11)),
 oq 13 (.mov (.t 12)),
 ⟨some 14, .mov (.t 0),some (13,false),[]⟩,
 ⟨some 15, .icmp .eql (.t 14) (.c lI [.int 5]),some (13,false),[]⟩,
 oq 16 (.pick (.t 13) (.c lB [.bool true]) (.t 15)),
 oq 2 (.mov (.t 16))] false 0)
 .ret))}
def lens_special_h0:Shape:={slots:=[(52, .d (.one (.sl 9))),(53, .d lI),(54, .d lI)],objs:=[]}
def lens_special_o0:List (Exit'×Shape):=[(.exit 1,{slots:=[],objs:=[]}),(.ret,{slots:=[(2, .d lI)],objs:=[]})]
def lens_special_c0:ACode:=(.seq (.region [] [oq 55 (.icmp .lss (.t 54) (.t 53))] false 0)
 (.seq (.cond (.t 55) .skip
 (.exit 1))
 (.seq (.block 2 (.seq (.region [] [oq 56 (.iad 9 lS (.t 52) (.t 54)),
 oq 57 (.ld lS 9 (.t 56)),
 oq 4 (.mov (.t 57))] false 0)
 (.seq (.region [] [oq 58 (.mov (.t 4)),
 oq 59 (.call 95 [lS] [lI] [(.t 58)]),
 oq 5 (.mov (.t 59))] false 0)
 (.seq (.region [] [oq 60 (.mov (.t 5)),
 oq 61 (.icmp .neq (.t 60) (.c lI [.int 0]))] false 0)
 (.cond (.t 61) (.seq (.region [] [oq 62 (.mov (.t 5)),
 oq 2 (.mov (.t 62))] false 0)
 .ret)
 .skip)))))
 (.region [] [oq 63 (.ibin .add (.t 54) (.c lI [.int 1])),
 oq 54 (.mov (.t 63))] false 0))))
def lens_special_a:AFun:={ps:=[lA6],rs:=[lI],res:=[(false,2,none)],body:=(.seq (.region [] [oq 1 (.boxP lA6 44 (.t 0)),
 oq 2 (.mov (.c lI [.int 0]))] false 0)
 (.seq (.seq (.region [] [oq 6 (.fad 0 1 44 3 (.t 1)),
 oq 7 (.ld lI 3 (.t 6))] false 0)
 (.block 0 (.seq (.region [] [oq 9 (.icmp .eql (.t 7) (.c lI [.int 5])),
 oq 8 (.mov (.t 9))] false 0)
 (.cond (.t 8) (.seq (.region [] [oq 10 (.fad 8 4 44 29 (.t 1)),
 oq 11 (.fad 0 1 29 3 (.t 10)),
 oq 12 (.ld lI 3 (.t 11)),
 oq 13 (.icmp .neq (.t 12) (.c lI [.int 0])),
 oq 14 (.mov (.t 13)),
 ⟨some 15, .fad 8 4 44 29 (.t 1),some (14,true),[]⟩,
 ⟨some 16, .fad 0 1 29 3 (.t 15),some (14,true),[]⟩,
 ⟨some 17, .ld lI 3 (.t 16),some (14,true),[]⟩,
 ⟨some 18, .call 110 [lI] [lB] [(.t 17)],some (14,true),[]⟩,
 ⟨some 19, .not (.t 18),some (14,true),[]⟩,
 oq 20 (.pick (.t 14) (.t 19) (.c lB [.bool false]))] false 0)
 (.cond (.t 20) (.seq (.region [] [oq 2 (.mov (.c lI [.int 8]))] false 0)
 .ret)
 .skip))
 (.seq (.region [] [oq 22 (.icmp .eql (.t 7) (.c lI [.int 15])),
 oq 21 (.mov (.t 22))] false 0)
 (.cond (.t 21) (.seq (.region [] [oq 23 (.fad 8 4 44 29 (.t 1)),
 oq 24 (.fad 0 1 29 3 (.t 23)),
 oq 25 (.ld lI 3 (.t 24)),
 oq 26 (.call 110 [lI] [lB] [(.t 25)]),
 oq 27 (.not (.t 26))] false 0)
 (.cond (.t 27) (.seq (.region [] [oq 2 (.mov (.c lI [.int 8]))] false 0)
 .ret)
 .skip))
 (.seq (.region [] [oq 29 (.icmp .eql (.t 7) (.c lI [.int 6])),
 oq 28 (.mov (.t 29))] false 0)
 (.cond (.t 28) (.seq (.region [] [oq 30 (.fad 3 1 44 34 (.t 1)),
 oq 31 (.ld (.one (.sl 9)) 34 (.t 30)),
 oq 32 (.bad),
 oq 2 (.bad)] false 0)
 .ret)
 (.seq (.region [] [oq 34 (.icmp .eql (.t 7) (.c lI [.int 14])),
 oq 33 (.mov (.t 34))] false 0)
 (.cond (.t 33) (.seq (.seq (.region [] [oq 35 (.fad 3 1 44 34 (.t 1)),
 oq 36 (.ld (.one (.sl 9)) 34 (.t 35)),
 oq 37 (.lenL (.t 36)),
 oq 38 (.fad 13 1 44 42 (.t 1)),
 oq 39 (.ld (.one (.sl 44)) 42 (.t 38)),
 oq 40 (.lenL (.t 39)),
 oq 41 (.icmp .neq (.t 37) (.t 40))] false 0)
 (.cond (.t 41) (.seq (.region [] [oq 2 (.mov (.c lI [.int 3]))] false 0)
 .ret)
 .skip))
 (.seq (.region [] [oq 42 (.fad 3 1 44 34 (.t 1)),
 oq 43 (.ld (.one (.sl 9)) 34 (.t 42)),
 oq 44 (.bad),
 oq 2 (.bad)] false 0)
 .ret))
 (.seq (.region [] [oq 46 (.icmp .eql (.t 7) (.c lI [.int 9])),
 oq 45 (.mov (.t 46))] false 0)
 (.cond (.t 45) (.seq (.seq (.region [] [oq 47 (.fad 3 1 44 34 (.t 1)),
 oq 48 (.ld (.one (.sl 9)) 34 (.t 47)),
 oq 49 (.lenL (.t 48)),
 oq 50 (.icmp .neq (.t 49) (.c lI [.int 2]))] false 0)
 (.cond (.t 50) (.seq (.region [] [oq 2 (.mov (.c lI [.int 3]))] false 0)
 .ret)
 .skip))
 (.seq (.region [] [oq 51 (.fad 3 1 44 34 (.t 1)),
 oq 52 (.ld (.one (.sl 9)) 34 (.t 51)),
 oq 53 (.lenL (.t 52)),
 oq 54 (.mov (.c lI [.int 0]))] false 0)
 (.block 1 (.loop lens_special_h0 lens_special_o0 lens_special_c0))))
 (.seq (.region [] [oq 65 (.icmp .eql (.t 7) (.c lI [.int 11])),
 oq 64 (.mov (.t 65))] false 0)
 (.cond (.t 64) (.seq (.region [] [oq 66 (.fad 12 1 44 41 (.t 1)),
 oq 67 (.ld (.one (.sl 88)) 41 (.t 66)),
 oq 68 (.bad),
 oq 2 (.bad)] false 0)
 .ret)
 (.seq (.region [] [oq 70 (.icmp .eql (.t 7) (.c lI [.int 12])),
 oq 69 (.mov (.t 70))] false 0)
 (.cond (.t 69) (.seq (.region [] [oq 71 (.fad 5 1 44 3 (.t 1)),
 oq 72 (.ld lI 3 (.t 71)),
 oq 73 (.icmp .lss (.t 72) (.c lI [.int 0])),
 oq 74 (.mov (.t 73)),
 ⟨some 75, .fad 6 1 44 3 (.t 1),some (74,false),[]⟩,
 ⟨some 76, .ld lI 3 (.t 75),some (74,false),[]⟩,
 ⟨some 77, .fad 5 1 44 3 (.t 1),some (74,false),[]⟩,
 ⟨some 78, .ld lI 3 (.t 77),some (74,false),[]⟩,
 ⟨some 79, .icmp .lss (.t 76) (.t 78),some (74,false),[]⟩,
 oq 80 (.pick (.t 74) (.c lB [.bool true]) (.t 79)),
 oq 81 (.mov (.t 80)),
 ⟨some 82, .fad 6 1 44 3 (.t 1),some (81,false),[]⟩,
 ⟨some 83, .ld lI 3 (.t 82),some (81,false),[]⟩,
 ⟨some 84, .icmp .gtr (.t 83) (.c lI [.int 999999999]),some (81,false),[]⟩,
 oq 85 (.pick (.t 81) (.c lB [.bool true]) (.t 84))] false 0)
 (.cond (.t 85) (.seq (.region [] [oq 2 (.mov (.c lI [.int 11]))] false 0)
 .ret)
 .skip))
 .skip))))))))))))))))
 (.seq (.region [] [oq 2 (.mov (.c lI [.int 0]))] false 0)
 .ret)))}
def lens_Node_a:AFun:={ps:=[lA6],rs:=[lI],res:=[(false,2,none)],body:=(.seq (.region [] [oq 1 (.boxP lA6 44 (.t 0)),
 oq 2 (.mov (.c lI [.int 0]))] false 0)
 (.seq (.seq (.join [(.normal,{slots:=[(1, .d (.one (.ref 44))),(12, .d lB)],objs:=[]})] (.region [] [oq 5 (.fad 0 1 44 3 (.t 1)),
 oq 6 (.ld lI 3 (.t 5)),
 oq 7 (.icmp .lss (.t 6) (.c lI [.int 0])),
 oq 8 (.mov (.t 7)),
 ⟨some 9, .fad 0 1 44 3 (.t 1),some (8,false),[]⟩,
 ⟨some 10, .ld lI 3 (.t 9),some (8,false),[]⟩,
 ⟨some 11, .icmp .geq (.t 10) (.c lI [.int 19]),some (8,false),[]⟩,
 oq 12 (.pick (.t 8) (.c lB [.bool true]) (.t 11))] false 0))
 (.cond (.t 12) (.seq (.region [] [oq 2 (.mov (.c lI [.int 1]))] false 0)
 .ret)
 .skip))
 (.seq (.region [] [oq 13 (.fad 0 1 44 3 (.t 1)),
 oq 14 (.ld lI 3 (.t 13)),
 oq 15 (.call 81 [lI] [lA9] [(.t 14)]),
 oq 3 (.allocO 0 lA9 [.bool false, .bool false, .bool false, .bool false, .bool false, .bool false, .bool false, .bool false, .int 0]),
 ⟨none, .st lA9 (.t 3) (.t 15),none,[]⟩] false 1)
 (.seq (.seq (.join [(.normal,{slots:=[(1, .d (.one (.ref 44))),(3, .ptr 0 0),(102, .d lB)],objs:=[.var lA9]})] (.region [] [oq 16 (.fad 1 1 44 9 (.t 1)),
 oq 17 (.ld lS 9 (.t 16)),
 oq 18 (.scmp .neq (.t 17) (.c lS [.str ([]:List UInt8)])),
 oq 19 (.mov (.t 18)),
 ⟨some 20, .fad 0 1 102 4 (.t 3),some (19,true),[]⟩,
 ⟨some 21, .ld lB 4 (.t 20),some (19,true),[]⟩,
 ⟨some 22, .not (.t 21),some (19,true),[]⟩,
 oq 23 (.pick (.t 19) (.t 22) (.c lB [.bool false])),
 oq 24 (.mov (.t 23)),
 ⟨some 25, .fad 2 1 44 9 (.t 1),some (24,false),[]⟩,
 ⟨some 26, .ld lS 9 (.t 25),some (24,false),[]⟩,
 ⟨some 27, .scmp .neq (.t 26) (.c lS [.str ([]:List UInt8)]),some (24,false),[]⟩,
 ⟨some 28, .mov (.t 27),some (24,false),[]⟩,
 ⟨some 29, .fad 1 1 102 4 (.t 3),some (28,true),[]⟩,
 ⟨some 30, .ld lB 4 (.t 29),some (28,true),[]⟩,
 ⟨some 31, .not (.t 30),some (28,true),[]⟩,
 ⟨some 32, .pick (.t 28) (.t 31) (.c lB [.bool false]),some (24,false),[]⟩,
 oq 33 (.pick (.t 24) (.c lB [.bool true]) (.t 32)),
 oq 34 (.mov (.t 33)),
 ⟨some 35, .fad 3 1 44 34 (.t 1),some (34,false),[]⟩,
 ⟨some 36, .ld (.one (.sl 9)) 34 (.t 35),some (34,false),[]⟩,
 ⟨some 37, .lenL (.t 36),some (34,false),[]⟩,
 ⟨some 38, .icmp .gtr (.t 37) (.c lI [.int 0]),some (34,false),[]⟩,
 ⟨some 39, .mov (.t 38),some (34,false),[]⟩,
 ⟨some 40, .fad 2 1 102 4 (.t 3),some (39,true),[]⟩,
 ⟨some 41, .ld lB 4 (.t 40),some (39,true),[]⟩,
 ⟨some 42, .not (.t 41),some (39,true),[]⟩,
 ⟨some 43, .pick (.t 39) (.t 42) (.c lB [.bool false]),some (34,false),[]⟩,
 oq 44 (.pick (.t 34) (.c lB [.bool true]) (.t 43)),
 oq 45 (.mov (.t 44)),
 ⟨some 46, .fad 4 1 44 3 (.t 1),some (45,false),[]⟩,
 ⟨some 47, .ld lI 3 (.t 46),some (45,false),[]⟩,
 ⟨some 48, .icmp .neq (.t 47) (.c lI [.int 0]),some (45,false),[]⟩,
 ⟨some 49, .mov (.t 48),some (45,false),[]⟩,
 ⟨some 50, .fad 3 1 102 4 (.t 3),some (49,true),[]⟩,
 ⟨some 51, .ld lB 4 (.t 50),some (49,true),[]⟩,
 ⟨some 52, .not (.t 51),some (49,true),[]⟩,
 ⟨some 53, .pick (.t 49) (.t 52) (.c lB [.bool false]),some (45,false),[]⟩,
 oq 54 (.pick (.t 45) (.c lB [.bool true]) (.t 53)),
 oq 55 (.mov (.t 54)),
 ⟨some 56, .fad 5 1 44 3 (.t 1),some (55,false),[]⟩,
 ⟨some 57, .ld lI 3 (.t 56),some (55,false),[]⟩,
 ⟨some 58, .icmp .neq (.t 57) (.c lI [.int 0]),some (55,false),[]⟩,
 ⟨some 59, .mov (.t 58),some (55,false),[]⟩,
 ⟨some 60, .fad 6 1 44 3 (.t 1),some (59,false),[]⟩,
 ⟨some 61, .ld lI 3 (.t 60),some (59,false),[]⟩,
 ⟨some 62, .icmp .neq (.t 61) (.c lI [.int 0]),some (59,false),[]⟩,
 ⟨some 63, .pick (.t 59) (.c lB [.bool true]) (.t 62),some (55,false),[]⟩,
 ⟨some 64, .mov (.t 63),some (55,false),[]⟩,
 ⟨some 65, .fad 4 1 102 4 (.t 3),some (64,true),[]⟩,
 ⟨some 66, .ld lB 4 (.t 65),some (64,true),[]⟩,
 ⟨some 67, .not (.t 66),some (64,true),[]⟩,
 ⟨some 68, .pick (.t 64) (.t 67) (.c lB [.bool false]),some (55,false),[]⟩,
 oq 69 (.pick (.t 55) (.c lB [.bool true]) (.t 68)),
 oq 70 (.mov (.t 69)),
 ⟨some 71, .fad 7 1 44 5 (.t 1),some (70,false),[]⟩,
 ⟨some 72, .ld lU 5 (.t 71),some (70,false),[]⟩,
 ⟨some 73, .icmp .neq (.t 72) (.c lU [.int 0]),some (70,false),[]⟩,
 ⟨some 74, .mov (.t 73),some (70,false),[]⟩,
 ⟨some 75, .fad 5 1 102 4 (.t 3),some (74,true),[]⟩,
 ⟨some 76, .ld lB 4 (.t 75),some (74,true),[]⟩,
 ⟨some 77, .not (.t 76),some (74,true),[]⟩,
 ⟨some 78, .pick (.t 74) (.t 77) (.c lB [.bool false]),some (70,false),[]⟩,
 oq 79 (.pick (.t 70) (.c lB [.bool true]) (.t 78)),
 oq 80 (.mov (.t 79)),
 ⟨some 81, .fad 12 1 44 41 (.t 1),some (80,false),[]⟩,
 ⟨some 82, .ld (.one (.sl 88)) 41 (.t 81),some (80,false),[]⟩,
 ⟨some 83, .lenL (.t 82),some (80,false),[]⟩,
 ⟨some 84, .icmp .gtr (.t 83) (.c lI [.int 0]),some (80,false),[]⟩,
 ⟨some 85, .mov (.t 84),some (80,false),[]⟩,
 ⟨some 86, .fad 7 1 102 4 (.t 3),some (85,true),[]⟩,
 ⟨some 87, .ld lB 4 (.t 86),some (85,true),[]⟩,
 ⟨some 88, .not (.t 87),some (85,true),[]⟩,
 ⟨some 89, .pick (.t 85) (.t 88) (.c lB [.bool false]),some (80,false),[]⟩,
 oq 90 (.pick (.t 80) (.c lB [.bool true]) (.t 89)),
 oq 91 (.mov (.t 90)),
 ⟨some 92, .fad 6 1 102 4 (.t 3),some (91,false),[]⟩,
 ⟨some 93, .ld lB 4 (.t 92),some (91,false),[]⟩,
 ⟨some 94, .not (.t 93),some (91,false),[]⟩,
 ⟨some 95, .mov (.t 94),some (91,false),[]⟩,
 ⟨some 96, .fad 8 4 44 29 (.t 1),some (95,true),[]⟩,
 ⟨some 97, .ld lA8 29 (.t 96),some (95,true),[]⟩,
 ⟨some 98, .bld lA8 [.int 0, .int 0, .str [], .nils] [],some (95,true),[]⟩,
 ⟨some 99, .call 82 [lA8,lA8] [lB] [(.t 97),(.t 98)],some (95,true),[]⟩,
 ⟨some 100, .not (.t 99),some (95,true),[]⟩,
 ⟨some 101, .pick (.t 95) (.t 100) (.c lB [.bool false]),some (91,false),[]⟩,
 oq 102 (.pick (.t 91) (.c lB [.bool true]) (.t 101))] false 0))
 (.cond (.t 102) (.seq (.region [] [oq 2 (.mov (.c lI [.int 3]))] false 0)
 .ret)
 .skip))
 (.seq (.seq (.join [(.normal,{slots:=[(1, .d (.one (.ref 44))),(3, .ptr 0 0),(124, .d lB)],objs:=[.var lA9]})] (.region [] [oq 103 (.fad 8 1 102 3 (.t 3)),
 oq 104 (.ld lI 3 (.t 103)),
 oq 105 (.icmp .geq (.t 104) (.c lI [.int 0])),
 oq 106 (.mov (.t 105)),
 ⟨some 107, .fad 13 1 44 42 (.t 1),some (106,true),[]⟩,
 ⟨some 108, .ld (.one (.sl 44)) 42 (.t 107),some (106,true),[]⟩,
 ⟨some 109, .lenL (.t 108),some (106,true),[]⟩,
 ⟨some 110, .fad 8 1 102 3 (.t 3),some (106,true),[]⟩,
 ⟨some 111, .ld lI 3 (.t 110),some (106,true),[]⟩,
 ⟨some 112, .icmp .neq (.t 109) (.t 111),some (106,true),[]⟩,
 oq 113 (.pick (.t 106) (.t 112) (.c lB [.bool false])),
 oq 114 (.mov (.t 113)),
 ⟨some 115, .fad 8 1 102 3 (.t 3),some (114,false),[]⟩,
 ⟨some 116, .ld lI 3 (.t 115),some (114,false),[]⟩,
 ⟨some 117, .icmp .lss (.t 116) (.c lI [.int 0]),some (114,false),[]⟩,
 ⟨some 118, .mov (.t 117),some (114,false),[]⟩,
 ⟨some 119, .fad 13 1 44 42 (.t 1),some (118,true),[]⟩,
 ⟨some 120, .ld (.one (.sl 44)) 42 (.t 119),some (118,true),[]⟩,
 ⟨some 121, .lenL (.t 120),some (118,true),[]⟩,
 ⟨some 122, .icmp .eql (.t 121) (.c lI [.int 0]),some (118,true),[]⟩,
 ⟨some 123, .pick (.t 118) (.t 122) (.c lB [.bool false]),some (114,false),[]⟩,
 oq 124 (.pick (.t 114) (.c lB [.bool true]) (.t 123))] false 0))
 (.cond (.t 124) (.seq (.region [] [oq 2 (.mov (.c lI [.int 3]))] false 0)
 .ret)
 .skip))
 (.seq (.seq (.join [(.normal,{slots:=[(1, .d (.one (.ref 44))),(3, .ptr 0 0),(153, .d lB)],objs:=[.var lA9]})] (.region [] [oq 125 (.fad 0 1 102 4 (.t 3)),
 oq 126 (.ld lB 4 (.t 125)),
 oq 127 (.mov (.t 126)),
 ⟨some 128, .fad 1 1 44 9 (.t 1),some (127,true),[]⟩,
 ⟨some 129, .ld lS 9 (.t 128),some (127,true),[]⟩,
 ⟨some 130, .call 30 [lS] [lB] [(.t 129)],some (127,true),[]⟩,
 ⟨some 131, .not (.t 130),some (127,true),[]⟩,
 oq 132 (.pick (.t 127) (.t 131) (.c lB [.bool false])),
 oq 133 (.mov (.t 132)),
 ⟨some 134, .fad 0 1 44 3 (.t 1),some (133,true),[]⟩,
 ⟨some 135, .ld lI 3 (.t 134),some (133,true),[]⟩,
 ⟨some 136, .icmp .eql (.t 135) (.c lI [.int 13]),some (133,true),[]⟩,
 ⟨some 137, .mov (.t 136),some (133,true),[]⟩,
 ⟨some 138, .fad 1 1 44 9 (.t 1),some (137,true),[]⟩,
 ⟨some 139, .ld lS 9 (.t 138),some (137,true),[]⟩,
 ⟨some 140, .scmp .eql (.t 139) (.c lS [.str ([]:List UInt8)]),some (137,true),[]⟩,
 ⟨some 141, .pick (.t 137) (.t 140) (.c lB [.bool false]),some (133,true),[]⟩,
 ⟨some 142, .not (.t 141),some (133,true),[]⟩,
 oq 143 (.pick (.t 133) (.t 142) (.c lB [.bool false])),
 oq 144 (.mov (.t 143)),
 ⟨some 145, .fad 1 1 102 4 (.t 3),some (144,false),[]⟩,
 ⟨some 146, .ld lB 4 (.t 145),some (144,false),[]⟩,
 ⟨some 147, .mov (.t 146),some (144,false),[]⟩,
 ⟨some 148, .fad 2 1 44 9 (.t 1),some (147,true),[]⟩,
 ⟨some 149, .ld lS 9 (.t 148),some (147,true),[]⟩,
 ⟨some 150, .call 30 [lS] [lB] [(.t 149)],some (147,true),[]⟩,
 ⟨some 151, .not (.t 150),some (147,true),[]⟩,
 ⟨some 152, .pick (.t 147) (.t 151) (.c lB [.bool false]),some (144,false),[]⟩,
 oq 153 (.pick (.t 144) (.c lB [.bool true]) (.t 152))] false 0))
 (.cond (.t 153) (.seq (.region [] [oq 2 (.mov (.c lI [.int 15]))] false 0)
 .ret)
 .skip))
 (.seq (.seq (.region [] [oq 154 (.fad 6 1 102 4 (.t 3)),
 oq 155 (.ld lB 4 (.t 154))] false 0)
 (.cond (.t 155) (.seq (.region [] [oq 156 (.fad 8 4 44 29 (.t 1)),
 oq 157 (.ld lA8 29 (.t 156)),
 oq 158 (.call 9 [lA8] [lI] [(.t 157)]),
 oq 4 (.mov (.t 158))] false 0)
 (.seq (.region [] [oq 159 (.mov (.t 4)),
 oq 160 (.icmp .neq (.t 159) (.c lI [.int 0]))] false 0)
 (.cond (.t 160) (.seq (.region [] [oq 161 (.mov (.t 4)),
 oq 2 (.mov (.t 161))] false 0)
 .ret)
 .skip)))
 .skip))
 (.seq (.region [] [oq 162 (.ld lA6 44 (.t 1)),
 oq 163 (.call 83 [lA6] [lI] [(.t 162)]),
 oq 2 (.mov (.t 163))] false 0)
 .ret))))))))}
def lens_walk_h0:Shape:={slots:=[(13, .d (.one (.sl 44))),(14, .d lI),(15, .d lI)],objs:=[]}
def lens_walk_o0:List (Exit'×Shape):=[(.exit 0,{slots:=[],objs:=[]}),(.ret,{slots:=[(2, .d lI)],objs:=[]})]
def lens_walk_c0:ACode:=(.seq (.region [] [oq 16 (.icmp .lss (.t 15) (.t 14))] false 0)
 (.seq (.cond (.t 16) .skip
 (.exit 0))
 (.seq (.block 1 (.seq (.region [] [oq 17 (.iad 44 lA6 (.t 13) (.t 15)),
 oq 18 (.ld lA6 44 (.t 17)),
 oq 5 (.allocO 0 lA6 [.int 0, .str [], .str [], .nils, .int 0, .int 0, .int 0, .int 0, .int 0, .int 0, .str [], .nils, .nils, .nils]),
 ⟨none, .st lA6 (.t 5) (.t 18),none,[]⟩] false 1)
 (.seq (.region [] [oq 19 (.ld lA6 44 (.t 5)),
 oq 20 (.call 34 [lA6] [lI] [(.t 19)]),
 oq 6 (.mov (.t 20))] false 0)
 (.seq (.region [] [oq 21 (.mov (.t 6)),
 oq 22 (.icmp .neq (.t 21) (.c lI [.int 0]))] false 0)
 (.cond (.t 22) (.seq (.region [] [oq 23 (.mov (.t 6)),
 oq 2 (.mov (.t 23))] false 0)
 .ret)
 .skip)))))
 (.region [] [oq 24 (.ibin .add (.t 15) (.c lI [.int 1])),
 oq 15 (.mov (.t 24))] false 0))))
def lens_walk_a:AFun:={ps:=[lA6],rs:=[lI],res:=[(false,2,none)],body:=(.seq (.region [] [oq 1 (.boxP lA6 44 (.t 0)),
 oq 2 (.mov (.c lI [.int 0]))] false 0)
 (.seq (.seq (.region [] [oq 7 (.ld lA6 44 (.t 1)),
 oq 8 (.call 60 [lA6] [lI] [(.t 7)]),
 oq 3 (.mov (.t 8))] false 0)
 (.seq (.region [] [oq 9 (.mov (.t 3)),
 oq 10 (.icmp .neq (.t 9) (.c lI [.int 0]))] false 0)
 (.cond (.t 10) (.seq (.region [] [oq 11 (.mov (.t 3)),
 oq 2 (.mov (.t 11))] false 0)
 .ret)
 .skip)))
 (.seq (.seq (.region [] [oq 12 (.fad 13 1 44 42 (.t 1)),
 oq 13 (.ld (.one (.sl 44)) 42 (.t 12)),
 oq 14 (.lenL (.t 13)),
 oq 15 (.mov (.c lI [.int 0]))] false 0)
 (.block 0 (.loop lens_walk_h0 lens_walk_o0 lens_walk_c0)))
 (.seq (.region [] [oq 2 (.mov (.c lI [.int 0]))] false 0)
 .ret))))}
def lens_Check_a:AFun:={ps:=[lA6],rs:=[lI],res:=[(false,2,none)],body:=(.seq (.region [] [oq 1 (.boxP lA6 44 (.t 0)),
 oq 2 (.mov (.c lI [.int 0]))] false 0)
 (.seq (.seq (.region [] [oq 3 (.ld lA6 44 (.t 1)),
 oq 4 (.call 32 [lA6] [lI] [(.t 3)]),
 oq 5 (.icmp .gtr (.t 4) (.c lI [.int 120])),
 oq 6 (.mov (.t 5)),
 ⟨some 7, .ld lA6 44 (.t 1),some (6,false),[]⟩,
 ⟨some 8, .call 33 [lA6] [lI] [(.t 7)],some (6,false),[]⟩,
 ⟨some 9, .icmp .gtr (.t 8) (.c lI [.int 40]),some (6,false),[]⟩,
 oq 10 (.pick (.t 6) (.c lB [.bool true]) (.t 9))] false 0)
 (.cond (.t 10) (.seq (.region [] [oq 2 (.mov (.c lI [.int 2]))] false 0)
 .ret)
 .skip))
 (.seq (.region [] [oq 11 (.ld lA6 44 (.t 1)),
 oq 12 (.call 34 [lA6] [lI] [(.t 11)]),
 oq 2 (.mov (.t 12))] false 0)
 .ret)))}
def typing_copyType_i20_h0:Shape:={slots:=[(1, .ptr 0 0),(2, .ptr 1 0),(9, .d (.one (.sl 55))),(10, .d lI),(11, .d lI)],objs:=[oS3, .var lA1, .sarr 55 lA0]}
def typing_copyType_i20_o0:List (Exit'×Shape):=[(.exit 0,{slots:=[(1, .ptr 0 0),(2, .ptr 1 0)],objs:=[oS3, .var lA1, .sarr 55 lA0]})]
def typing_copyType_i20_c0:ACode:=(.seq (.region [] [oq 12 (.icmp .lss (.t 11) (.t 10))] false 0)
 (.seq (.cond (.t 12) .skip
 (.exit 0))
 (.seq (.block 1 (.seq (.region [] [oq 13 (.iad 55 lA0 (.t 9) (.t 11)),
 oq 14 (.ld lA0 55 (.t 13)),
 oq 5 (.allocA 0 [some ((.str), .str []),some ((.int .i64), .int 0),some ((.str), .str []),some ((.int .i64), .int 0),some ((.int .i64), .int 0),some ((.str), .str []),some ((.sl 55), .nils)]),
 ⟨none, .stA 7 (.t 5) (.t 14),none,[]⟩] false 1)
 (.region [] [oq 15 (.fad 5 1 26 24 (.t 1)),
 ⟨some 16, .ldC (.t 15),none,[0]⟩,
 oq 17 (.fad 0 1 55 9 (.t 5)),
 ⟨some 18, .ldC (.t 17),none,[2]⟩,
 oq 19 (.fad 1 6 55 26 (.t 5)),
 ⟨some 20, .ldA 6 (.t 19),none,[4]⟩,
 ⟨some 21, .icall 237 35 (typing_copyType_i20_en) (typing_copyType_i20_ex) [] 0 none [(.t 20)],none,[4,5]⟩,
 ⟨some 22, .bld lA0 [.str [], .int 0, .str [], .int 0, .int 0, .str [], .nils] [(0,1,(.t 18)),(1,6,(.t 21))],none,[2,3,4,5,6]⟩,
 ⟨some 23, .bsl 55 lA0 1 [.str [], .int 0, .str [], .int 0, .int 0, .str [], .nils] [(0,(.t 22))],none,[2,3,4,5,6,7]⟩,
 ⟨some 24, .appW 0 55 lA0 96 (.t 16) (.t 23),none,[0,1,2,3,4,5,6,7,8]⟩,
 ⟨some 25, .fad 5 1 26 24 (.t 1),none,[0,1,2,3,4,5,6,7,8,9]⟩,
 ⟨none, .stC (.t 25) (.t 24),none,[0,1,2,3,4,5,6,7,8,9,10]⟩] true 1)))
 (.region [] [oq 26 (.ibin .add (.t 11) (.c lI [.int 1])),
 oq 11 (.mov (.t 26))] false 0))))
def typing_copyType_i20_a:AImp:={fn:=35,entry:=typing_copyType_i20_en,res:=[.var 2 lA1],exit:=typing_copyType_i20_ex,body:=(.seq (.region [] [oq 1 (.boxA 0 (.t 0)),
 oq 2 (.allocO 1 lA1 [.int 0, .str [], .int 0, .int 0, .str [], .nils])] false 2)
 (.seq (.region [] [oq 6 (.fad 5 1 26 24 (.t 1)),
 oq 7 (.ldC (.t 6)),
 oq 3 (.mov (.t 7))] false 0)
 (.seq (.post (.lft 8 (some 0) 55 lA0) (.region [] [oq 8 (.fad 5 1 26 24 (.t 1)),
 ⟨none, .stC (.t 8) (.c (.one (.sl 55)) [.nils]),none,[]⟩] false 0))
 (.seq (.seq (.region [] [oq 9 (.mov (.t 3)),
 oq 10 (.lenL (.t 9)),
 oq 11 (.mov (.c lI [.int 0]))] false 0)
 (.block 0 (.loop typing_copyType_i20_h0 typing_copyType_i20_o0 typing_copyType_i20_c0)))
 (.seq (.region [] [oq 27 (.ldA 6 (.t 1)),
 ⟨none, .st lA1 (.t 2) (.t 27),none,[]⟩] false 0)
 .ret)))))}
def slices_Clone_api_Part_i23_a:AImp:={fn:=78,entry:=slices_Clone_api_Part_i23_en,res:=[.tmp 2],exit:=slices_Clone_api_Part_i23_ex,body:=(.seq (.region [] [oq 2 (.nilO 0 lA0)] false 1)
 (.seq (.seq (.region [] [oq 3 (.mov (.t 0)),
 oq 4 (.nileq false (.t 3))] false 0)
 (.cond (.t 4) (.seq (.region [] [oq 2 (.nilO 0 lA0)] false 1)
 .ret)
 .skip))
 (.seq (.region [] [oq 5 (.bslO 0 55 lA0 0 [.str [], .int 0, .str [], .int 0, .int 0, .str [], .nils] []),
 oq 6 (.mov (.t 0)),
 oq 7 (.app 1 55 lA0 96 (.t 5) (.t 6)),
 oq 2 (.mov (.t 7))] false 2)
 .ret)))}
noncomputable def slices_Clone_api_Part_i23 (E:Env) (p0:C):Option (List PV):=
 if p0.isNil=true then
 some [.r [.nils]]
 else
 if (([]:List Row).length+p0.rows.length)*96≤140737488355328 then
 some [.r [appC (.sl ([]:List Row)) p0.rows]]
 else none
theorem slices_Clone_api_Part_i23_eq (E:Env) (p0:C):runI E slices_Clone_api_Part_i23_a [.r [p0]]=slices_Clone_api_Part_i23 E p0:=by kernel_rfl
def types_Copy_i24_h0:Shape:={slots:=[(1, .ptr 0 0),(2, .ptr 1 0),(10, .d lI),(11, .d lI)],objs:=bS6}
def types_Copy_i24_o0:List (Exit'×Shape):=[(.exit 0,{slots:=[(1, .ptr 0 0),(2, .ptr 1 0)],objs:=bS6})]
def types_Copy_i24_c0:ACode:=(.seq (.region [] [oq 12 (.icmp .lss (.t 11) (.t 10))] false 0)
 (.seq (.cond (.t 12) .skip
 (.exit 0))
 (.seq (.block 1 (.seq (.region [] [oq 13 (.mov (.t 11)),
 oq 3 (.mov (.t 13))] false 0)
 (.region [] [oq 14 (.fad 5 1 26 24 (.t 1)),
 ⟨some 15, .ldC (.t 14),none,[0]⟩,
 oq 16 (.mov (.t 3)),
 oq 17 (.fad 5 1 26 24 (.t 1)),
 ⟨some 18, .ldC (.t 17),none,[3]⟩,
 oq 19 (.mov (.t 3)),
 ⟨some 20, .iad 55 lA0 (.t 18) (.t 19),none,[3,4,5]⟩,
 ⟨some 21, .fad 1 6 55 26 (.t 20),none,[3,4,5,6]⟩,
 ⟨some 22, .ld lA1 26 (.t 21),none,[3,4,5,6,7]⟩,
 ⟨some 23, .icall 241 53 (types_Copy_i24_en) (types_Copy_i24_ex) [] 0 none [(.t 22)],none,[3,4,5,6,7,8]⟩,
 ⟨some 24, .iad 55 lA0 (.t 15) (.t 16),none,[0,1,2,3,4,5,6,7,8,9]⟩,
 ⟨some 25, .fad 1 6 55 26 (.t 24),none,[0,1,2,3,4,5,6,7,8,9,10]⟩,
 ⟨none, .st lA1 (.t 25) (.t 23),none,[0,1,2,3,4,5,6,7,8,9,10,11]⟩] true 0)))
 (.region [] [oq 26 (.ibin .add (.t 11) (.c lI [.int 1])),
 oq 11 (.mov (.t 26))] false 0))))
noncomputable def types_Copy_i24_l0 (E:Env) (v0:Int) (v1:Int) (v2:Int) (v3:List UInt8) (v4:Int) (v5:Int) (v6:List UInt8) (v7:Row) (v8:C):Option (Nat×List PV):=E.fix (stepOf E types_Copy_i24_c0 types_Copy_i24_h0 types_Copy_i24_o0) [.r [.int v0], .r [.int v1], .r [.int v2], .r [.str v3], .r [.int v4], .r [.int v5], .r [.str v6], .r v7, .r [v8]]
noncomputable def types_Copy_i24_b0 (E:Env) (X:Int→Int→Int→List UInt8→Int→Int→List UInt8→Row→C→Option (Nat×List PV)) (v0:Int) (v1:Int) (v2:Int) (v3:List UInt8) (v4:Int) (v5:Int) (v6:List UInt8) (v7:Row) (v8:C):Option (Nat×List PV):=
 if (decide (v1<v0))=true then
 if (0:Int)≤v1∧v1<(v8.rows.length:Int)then
 if v1.toNat<v8.rows.length then
 (E.ic types_Copy_i24_n [.r [at_ (rowsAt v8.rows v1.toNat) 1,at_ (rowsAt v8.rows v1.toNat) 2,at_ (rowsAt v8.rows v1.toNat) 3,at_ (rowsAt v8.rows v1.toNat) 4,at_ (rowsAt v8.rows v1.toNat) 5,at_ (rowsAt v8.rows v1.toNat) 6]]).bind fun y2=>
 if (0:Int)≤v1∧v1<(v8.rows.length:Int)then
 if v1.toNat<v8.rows.length then
 X v0 (Go.IntKind.i64.wrap (v1+1)) v2 v3 v4 v5 v6 v7 (.sl (v8.rows.set v1.toNat (put (rowsAt v8.rows v1.toNat) 1 6 (gR 0 y2) 0 7)))
 else none
 else none
 else none
 else none
 else
 some (0,[.r [.int v2], .r [.str v3], .r [.int v4], .r [.int v5], .r [.str v6], .r v7, .r [v8]])
theorem types_Copy_i24_s0 (E:Env) (X:List PV→Option (Nat×List PV)) (v0:Int) (v1:Int) (v2:Int) (v3:List UInt8) (v4:Int) (v5:Int) (v6:List UInt8) (v7:Row) (v8:C):stepOf E types_Copy_i24_c0 types_Copy_i24_h0 types_Copy_i24_o0 X [.r [.int v0], .r [.int v1], .r [.int v2], .r [.str v3], .r [.int v4], .r [.int v5], .r [.str v6], .r v7, .r [v8]]=types_Copy_i24_b0 E (fun (v0:Int) (v1:Int) (v2:Int) (v3:List UInt8) (v4:Int) (v5:Int) (v6:List UInt8) (v7:Row) (v8:C)=>X [.r [.int v0], .r [.int v1], .r [.int v2], .r [.str v3], .r [.int v4], .r [.int v5], .r [.str v6], .r v7, .r [v8]]) v0 v1 v2 v3 v4 v5 v6 v7 v8:=by kernel_rfl
def types_Copy_i24_a:AImp:={fn:=53,entry:=types_Copy_i24_en,res:=[.var 2 lA1],exit:=types_Copy_i24_ex,body:=(.seq (.region [] [oq 1 (.boxA 0 (.t 0)),
 oq 2 (.allocO 1 lA1 [.int 0, .str [], .int 0, .int 0, .str [], .nils])] false 2)
 (.seq (.region [] [oq 4 (.fad 5 1 26 24 (.t 1)),
 oq 5 (.ldC (.t 4)),
 oq 6 (.icall 240 78 (slices_Clone_api_Part_i23_en) (slices_Clone_api_Part_i23_ex) [] 0 none [(.t 5)]),
 oq 7 (.fad 5 1 26 24 (.t 1)),
 ⟨none, .stC (.t 7) (.t 6),none,[]⟩] false 1)
 (.seq (.seq (.region [] [oq 8 (.fad 5 1 26 24 (.t 1)),
 oq 9 (.ldC (.t 8)),
 oq 10 (.lenL (.t 9)),
 oq 11 (.mov (.c lI [.int 0]))] false 0)
 (.block 0 (.loop types_Copy_i24_h0 types_Copy_i24_o0 types_Copy_i24_c0)))
 (.seq (.ghost (.frz 1 5 55 lA0) (.region [] [oq 27 (.ldA 6 (.t 1)),
 ⟨none, .st lA1 (.t 2) (.t 27),none,[]⟩] false 0))
 .ret))))}
noncomputable def types_Copy_i24 (E:Env) (p0:Row):Option (List PV):=
 (E.ic slices_Clone_api_Part_i23_n [.r [at_ p0 5]]).bind fun y1=>
 (types_Copy_i24_l0 E (((gC 0 y1).rows).length:Int) 0 ((at_ p0 0).toI) ((at_ p0 1).toS) ((at_ p0 2).toI) ((at_ p0 3).toI) ((at_ p0 4).toS) [.int 0, .str [], .int 0, .int 0, .str [], .nils] (gC 0 y1)).bind fun x3=>
 some [.r [.int (gI 0 x3.2), .str (gS 1 x3.2), .int (gI 2 x3.2), .int (gI 3 x3.2), .str (gS 4 x3.2),gC 6 x3.2]]
theorem types_Copy_i24_eq (E:Env) (p0:Row):runI E types_Copy_i24_a [.r p0]=types_Copy_i24 E p0:=by kernel_rfl
def types_Copy_i22_h0:Shape:={slots:=[(1, .ptr 0 0),(2, .ptr 1 0),(10, .d lI),(11, .d lI)],objs:=bS6}
def types_Copy_i22_o0:List (Exit'×Shape):=[(.exit 0,{slots:=[(1, .ptr 0 0),(2, .ptr 1 0)],objs:=bS6})]
def types_Copy_i22_c0:ACode:=(.seq (.region [] [oq 12 (.icmp .lss (.t 11) (.t 10))] false 0)
 (.seq (.cond (.t 12) .skip
 (.exit 0))
 (.seq (.block 1 (.seq (.region [] [oq 13 (.mov (.t 11)),
 oq 3 (.mov (.t 13))] false 0)
 (.region [] [oq 14 (.fad 5 1 26 24 (.t 1)),
 ⟨some 15, .ldC (.t 14),none,[0]⟩,
 oq 16 (.mov (.t 3)),
 oq 17 (.fad 5 1 26 24 (.t 1)),
 ⟨some 18, .ldC (.t 17),none,[3]⟩,
 oq 19 (.mov (.t 3)),
 ⟨some 20, .iad 55 lA0 (.t 18) (.t 19),none,[3,4,5]⟩,
 ⟨some 21, .fad 1 6 55 26 (.t 20),none,[3,4,5,6]⟩,
 ⟨some 22, .ld lA1 26 (.t 21),none,[3,4,5,6,7]⟩,
 ⟨some 23, .icall 241 53 (types_Copy_i24_en) (types_Copy_i24_ex) [] 0 none [(.t 22)],none,[3,4,5,6,7,8]⟩,
 ⟨some 24, .iad 55 lA0 (.t 15) (.t 16),none,[0,1,2,3,4,5,6,7,8,9]⟩,
 ⟨some 25, .fad 1 6 55 26 (.t 24),none,[0,1,2,3,4,5,6,7,8,9,10]⟩,
 ⟨none, .st lA1 (.t 25) (.t 23),none,[0,1,2,3,4,5,6,7,8,9,10,11]⟩] true 0)))
 (.region [] [oq 26 (.ibin .add (.t 11) (.c lI [.int 1])),
 oq 11 (.mov (.t 26))] false 0))))
noncomputable def types_Copy_i22_l0 (E:Env) (v0:Int) (v1:Int) (v2:Int) (v3:List UInt8) (v4:Int) (v5:Int) (v6:List UInt8) (v7:Row) (v8:C):Option (Nat×List PV):=E.fix (stepOf E types_Copy_i22_c0 types_Copy_i22_h0 types_Copy_i22_o0) [.r [.int v0], .r [.int v1], .r [.int v2], .r [.str v3], .r [.int v4], .r [.int v5], .r [.str v6], .r v7, .r [v8]]
noncomputable def types_Copy_i22_b0 (E:Env) (X:Int→Int→Int→List UInt8→Int→Int→List UInt8→Row→C→Option (Nat×List PV)) (v0:Int) (v1:Int) (v2:Int) (v3:List UInt8) (v4:Int) (v5:Int) (v6:List UInt8) (v7:Row) (v8:C):Option (Nat×List PV):=
 if (decide (v1<v0))=true then
 if (0:Int)≤v1∧v1<(v8.rows.length:Int)then
 if v1.toNat<v8.rows.length then
 (E.ic types_Copy_i24_n [.r [at_ (rowsAt v8.rows v1.toNat) 1,at_ (rowsAt v8.rows v1.toNat) 2,at_ (rowsAt v8.rows v1.toNat) 3,at_ (rowsAt v8.rows v1.toNat) 4,at_ (rowsAt v8.rows v1.toNat) 5,at_ (rowsAt v8.rows v1.toNat) 6]]).bind fun y2=>
 if (0:Int)≤v1∧v1<(v8.rows.length:Int)then
 if v1.toNat<v8.rows.length then
 X v0 (Go.IntKind.i64.wrap (v1+1)) v2 v3 v4 v5 v6 v7 (.sl (v8.rows.set v1.toNat (put (rowsAt v8.rows v1.toNat) 1 6 (gR 0 y2) 0 7)))
 else none
 else none
 else none
 else none
 else
 some (0,[.r [.int v2], .r [.str v3], .r [.int v4], .r [.int v5], .r [.str v6], .r v7, .r [v8]])
def types_Copy_i22_a:AImp:={fn:=53,entry:=types_Copy_i22_en,res:=[.var 2 lA1],exit:=types_Copy_i22_ex,body:=(.seq (.region [] [oq 1 (.boxA 0 (.t 0)),
 oq 2 (.allocO 1 lA1 [.int 0, .str [], .int 0, .int 0, .str [], .nils])] false 2)
 (.seq (.region [] [oq 4 (.fad 5 1 26 24 (.t 1)),
 oq 5 (.ldC (.t 4)),
 oq 6 (.icall 240 78 (slices_Clone_api_Part_i23_en) (slices_Clone_api_Part_i23_ex) [] 0 none [(.t 5)]),
 oq 7 (.fad 5 1 26 24 (.t 1)),
 ⟨none, .stC (.t 7) (.t 6),none,[]⟩] false 1)
 (.seq (.seq (.region [] [oq 8 (.fad 5 1 26 24 (.t 1)),
 oq 9 (.ldC (.t 8)),
 oq 10 (.lenL (.t 9)),
 oq 11 (.mov (.c lI [.int 0]))] false 0)
 (.block 0 (.loop types_Copy_i22_h0 types_Copy_i22_o0 types_Copy_i22_c0)))
 (.seq (.ghost (.frz 1 5 55 lA0) (.region [] [oq 27 (.ldA 6 (.t 1)),
 ⟨none, .st lA1 (.t 2) (.t 27),none,[]⟩] false 0))
 .ret))))}
noncomputable def types_Copy_i22 (E:Env) (p0:Int) (p1:List UInt8) (p2:Int) (p3:Int) (p4:List UInt8) (p5:C):Option (List PV):=
 (E.ic slices_Clone_api_Part_i23_n [.r [p5]]).bind fun y1=>
 (types_Copy_i22_l0 E (((gC 0 y1).rows).length:Int) 0 p0 p1 p2 p3 p4 [.int 0, .str [], .int 0, .int 0, .str [], .nils] (gC 0 y1)).bind fun x3=>
 some [.r [.int (gI 0 x3.2), .str (gS 1 x3.2), .int (gI 2 x3.2), .int (gI 3 x3.2), .str (gS 4 x3.2),gC 6 x3.2]]
end Go.Ev
