/-
  A part of the proof: what the functions of the program compute.
-/
import Derived.Test.YtmcbcmgfkbjpcaaGreatDoorZNum
set_option linter.all false
set_option maxRecDepth 100000
namespace Go.Ev
def slices_IndexFunc_2_api_Value_h0:Shape:={slots:=[(0, .d (.one (.sl 40))),(1, .d (.one (.fn 62))),(7, .d lI),(8, .d lI)],objs:=[]}
def slices_IndexFunc_2_api_Value_o0:List (Exit'×Shape):=[(.exit 0,{slots:=[],objs:=[]}),(.ret,{slots:=[(4, .d lI)],objs:=[]})]
def slices_IndexFunc_2_api_Value_c0:ACode:=(.seq (.region [] [oq 9 (.icmp .lss (.t 8) (.t 7))] false 0)
 (.seq (.cond (.t 9) .skip
 (.exit 0))
 (.seq (.block 1 (.seq (.region [] [oq 10 (.mov (.t 8)),
 oq 5 (.mov (.t 10))] false 0)
 (.seq (.region [] [oq 11 (.mov (.t 1)),
 oq 12 (.mov (.t 0)),
 oq 13 (.mov (.t 5)),
 oq 14 (.iad 40 lA0 (.t 12) (.t 13)),
 oq 15 (.ld lA0 40 (.t 14)),
 oq 16 (.callv 62 [lA0] [lB] (.t 11) [(.t 15)])] false 0)
 (.cond (.t 16) (.seq (.region [] [oq 17 (.mov (.t 5)),
 oq 4 (.mov (.t 17))] false 0)
 .ret)
 .skip))))
 (.region [] [oq 18 (.ibin .add (.t 8) (.c lI [.int 1])),
 oq 8 (.mov (.t 18))] false 0))))
noncomputable def slices_IndexFunc_2_api_Value_l0 (E:Env) (v0:C) (v1:C) (v2:Int) (v3:Int):Option (Nat×List PV):=E.fix (stepOf E slices_IndexFunc_2_api_Value_c0 slices_IndexFunc_2_api_Value_h0 slices_IndexFunc_2_api_Value_o0) [.r [v0], .r [v1], .r [.int v2], .r [.int v3]]
noncomputable def slices_IndexFunc_2_api_Value_b0 (E:Env) (X:C→C→Int→Int→Option (Nat×List PV)) (v0:C) (v1:C) (v2:Int) (v3:Int):Option (Nat×List PV):=
 if (decide (v3<v2))=true then
 if (0:Int)≤v3∧v3<(v0.rows.length:Int)then
 (callC E v1 [rowsAt v0.rows v3.toNat]).bind fun y1=>
 if ((at_ (rowsAt y1 0) 0).toB)=true then
 some (1,[.r [.int v3]])
 else
 X v0 v1 v2 (Go.IntKind.i64.wrap (v3+1))
 else none
 else
 some (0,[])
theorem slices_IndexFunc_2_api_Value_s0 (E:Env) (X:List PV→Option (Nat×List PV)) (v0:C) (v1:C) (v2:Int) (v3:Int):stepOf E slices_IndexFunc_2_api_Value_c0 slices_IndexFunc_2_api_Value_h0 slices_IndexFunc_2_api_Value_o0 X [.r [v0], .r [v1], .r [.int v2], .r [.int v3]]=slices_IndexFunc_2_api_Value_b0 E (fun (v0:C) (v1:C) (v2:Int) (v3:Int)=>X [.r [v0], .r [v1], .r [.int v2], .r [.int v3]]) v0 v1 v2 v3:=by kernel_rfl
def slices_IndexFunc_2_api_Value_a:AFun:={ps:=[(.one (.sl 40)),(.one (.fn 62))],rs:=[lI],res:=[(false,4,none)],body:=(.seq (.region [] [oq 4 (.mov (.c lI [.int 0]))] false 0)
 (.seq (.seq (.region [] [oq 6 (.mov (.t 0)),
 oq 7 (.lenL (.t 6)),
 oq 8 (.mov (.c lI [.int 0]))] false 0)
 (.block 0 (.loop slices_IndexFunc_2_api_Value_h0 slices_IndexFunc_2_api_Value_o0 slices_IndexFunc_2_api_Value_c0)))
 (.seq (.region [] [oq 4 (.mov (.c lI [.int (-1)]))] false 0)
 .ret)))}
noncomputable def slices_IndexFunc_2_api_Value (E:Env) (p0:C) (p1:C):Option (List Row):=
 (slices_IndexFunc_2_api_Value_l0 E p0 p1 (p0.rows.length:Int) 0).bind fun x2=>
 match x2.1 with
 |0=>
 some [[.int (-1)]]
 |i3+1=>
 some [[.int (gI 0 x2.2)]]
theorem slices_IndexFunc_2_api_Value_eq (E:Env) (p0:C) (p1:C):runP E slices_IndexFunc_2_api_Value_a [[p0],[p1]]=slices_IndexFunc_2_api_Value E p0 p1:=by kernel_rfl
def value_order_a:AFun:={ps:=[lI],rs:=[lI],res:=[(false,2,none)],body:=(.seq (.region [] [oq 2 (.mov (.c lI [.int 0]))] false 0)
 (.seq (.seq (.region [] [oq 3 (.mov (.t 0)),
 oq 4 (.icmp .lss (.t 3) (.c lI [.int 0]))] false 0)
 (.cond (.t 4) (.seq (.region [] [oq 5 (.mov (.t 0)),
 oq 6 (.ibin .and (.t 5) (.c lI [.int 9223372036854775807])),
 oq 7 (.ibin .sub (.c lI [.int (-1)]) (.t 6)),
 oq 2 (.mov (.t 7))] false 0)
 .ret)
 .skip))
 (.seq (.region [] [oq 8 (.mov (.t 0)),
 oq 2 (.mov (.t 8))] false 0)
 .ret)))}
noncomputable def value_order (E:Env) (p0:Int):Option (List Row):=
 if (decide (p0<0))=true then
 some [[.int (Go.IntKind.i64.wrap ((-1) - (bitsOf .and .i64 p0 9223372036854775807)))]]
 else
 some [[.int p0]]
theorem value_order_eq (E:Env) (p0:Int):runP E value_order_a [[.int p0]]=value_order E p0:=by kernel_rfl
def cmp_Or_int_h0:Shape:={slots:=[(3, .d lI),(6, .d (.one (.sl 3))),(7, .d lI),(8, .d lI)],objs:=[]}
def cmp_Or_int_o0:List (Exit'×Shape):=[(.exit 0,{slots:=[(3, .d lI)],objs:=[]}),(.ret,{slots:=[(2, .d lI)],objs:=[]})]
def cmp_Or_int_c0:ACode:=(.seq (.region [] [oq 9 (.icmp .lss (.t 8) (.t 7))] false 0)
 (.seq (.cond (.t 9) .skip
 (.exit 0))
 (.seq (.block 1 (.seq (.region [] [oq 10 (.iad 3 lI (.t 6) (.t 8)),
 oq 11 (.ld lI 3 (.t 10)),
 oq 5 (.mov (.t 11))] false 0)
 (.seq (.region [] [oq 12 (.mov (.t 5)),
 oq 13 (.mov (.t 3)),
 oq 14 (.icmp .neq (.t 12) (.t 13))] false 0)
 (.cond (.t 14) (.seq (.region [] [oq 15 (.mov (.t 5)),
 oq 2 (.mov (.t 15))] false 0)
 .ret)
 .skip))))
 (.region [] [oq 16 (.ibin .add (.t 8) (.c lI [.int 1])),
 oq 8 (.mov (.t 16))] false 0))))
noncomputable def cmp_Or_int_l0 (E:Env) (v0:Int) (v1:C) (v2:Int) (v3:Int):Option (Nat×List PV):=E.fix (stepOf E cmp_Or_int_c0 cmp_Or_int_h0 cmp_Or_int_o0) [.r [.int v0], .r [v1], .r [.int v2], .r [.int v3]]
noncomputable def cmp_Or_int_b0 (E:Env) (X:Int→C→Int→Int→Option (Nat×List PV)) (v0:Int) (v1:C) (v2:Int) (v3:Int):Option (Nat×List PV):=
 if (decide (v3<v2))=true then
 if (0:Int)≤v3∧v3<(v1.rows.length:Int)then
 if (((at_ (rowsAt v1.rows v3.toNat) 0).toI) !=v0)=true then
 some (1,[.r [.int ((at_ (rowsAt v1.rows v3.toNat) 0).toI)]])
 else
 X v0 v1 v2 (Go.IntKind.i64.wrap (v3+1))
 else none
 else
 some (0,[.r [.int v0]])
theorem cmp_Or_int_s0 (E:Env) (X:List PV→Option (Nat×List PV)) (v0:Int) (v1:C) (v2:Int) (v3:Int):stepOf E cmp_Or_int_c0 cmp_Or_int_h0 cmp_Or_int_o0 X [.r [.int v0], .r [v1], .r [.int v2], .r [.int v3]]=cmp_Or_int_b0 E (fun (v0:Int) (v1:C) (v2:Int) (v3:Int)=>X [.r [.int v0], .r [v1], .r [.int v2], .r [.int v3]]) v0 v1 v2 v3:=by kernel_rfl
def cmp_Or_int_a:AFun:={ps:=[(.one (.sl 3))],rs:=[lI],res:=[(false,2,none)],body:=(.seq (.region [] [oq 2 (.mov (.c lI [.int 0]))] false 0)
 (.seq (.region [] [oq 3 (.mov (.c lI [.int 0]))] false 0)
 (.seq (.seq (.region [] [oq 6 (.mov (.t 0)),
 oq 7 (.lenL (.t 6)),
 oq 8 (.mov (.c lI [.int 0]))] false 0)
 (.block 0 (.loop cmp_Or_int_h0 cmp_Or_int_o0 cmp_Or_int_c0)))
 (.seq (.region [] [oq 17 (.mov (.t 3)),
 oq 2 (.mov (.t 17))] false 0)
 .ret))))}
noncomputable def cmp_Or_int (E:Env) (p0:C):Option (List Row):=
 (cmp_Or_int_l0 E 0 p0 (p0.rows.length:Int) 0).bind fun x1=>
 match x1.1 with
 |0=>
 some [[.int (gI 0 x1.2)]]
 |i2+1=>
 some [[.int (gI 0 x1.2)]]
theorem cmp_Or_int_eq (E:Env) (p0:C):runP E cmp_Or_int_a [[p0]]=cmp_Or_int E p0:=by kernel_rfl
def cmp_isNaN_int_a:AFun:={ps:=[lI],rs:=[lB],res:=[(false,2,none)],body:=(.seq (.region [] [oq 2 (.mov (.c lB [.bool false]))] false 0)
 (.seq (.region [] [oq 3 (.mov (.t 0)),
 oq 4 (.mov (.t 0)),
 oq 5 (.icmp .neq (.t 3) (.t 4)),
 oq 2 (.mov (.t 5))] false 0)
 .ret))}
noncomputable def cmp_isNaN_int (E:Env) (p0:Int):Option (List Row):=
 some [[.bool (p0 !=p0)]]
theorem cmp_isNaN_int_eq (E:Env) (p0:Int):runP E cmp_isNaN_int_a [[.int p0]]=cmp_isNaN_int E p0:=by kernel_rfl
def cmp_Compare_int_a:AFun:={ps:=[lI,lI],rs:=[lI],res:=[(false,4,none)],body:=(.seq (.region [] [oq 4 (.mov (.c lI [.int 0]))] false 0)
 (.seq (.region [] [oq 7 (.mov (.t 0)),
 oq 8 (.call 55 [lI] [lB] [(.t 7)]),
 oq 5 (.mov (.t 8))] false 0)
 (.seq (.region [] [oq 9 (.mov (.t 1)),
 oq 10 (.call 55 [lI] [lB] [(.t 9)]),
 oq 6 (.mov (.t 10))] false 0)
 (.seq (.seq (.region [] [oq 11 (.mov (.t 5))] false 0)
 (.cond (.t 11) (.seq (.seq (.region [] [oq 12 (.mov (.t 6))] false 0)
 (.cond (.t 12) (.seq (.region [] [oq 4 (.mov (.c lI [.int 0]))] false 0)
 .ret)
 .skip))
 (.seq (.region [] [oq 4 (.mov (.c lI [.int (-1)]))] false 0)
 .ret))
 .skip))
 (.seq (.seq (.region [] [oq 13 (.mov (.t 6))] false 0)
 (.cond (.t 13) (.seq (.region [] [oq 4 (.mov (.c lI [.int 1]))] false 0)
 .ret)
 .skip))
 (.seq (.seq (.region [] [oq 14 (.mov (.t 0)),
 oq 15 (.mov (.t 1)),
 oq 16 (.icmp .lss (.t 14) (.t 15))] false 0)
 (.cond (.t 16) (.seq (.region [] [oq 4 (.mov (.c lI [.int (-1)]))] false 0)
 .ret)
 .skip))
 (.seq (.seq (.region [] [oq 17 (.mov (.t 0)),
 oq 18 (.mov (.t 1)),
 oq 19 (.icmp .gtr (.t 17) (.t 18))] false 0)
 (.cond (.t 19) (.seq (.region [] [oq 4 (.mov (.c lI [.int 1]))] false 0)
 .ret)
 .skip))
 (.seq (.region [] [oq 4 (.mov (.c lI [.int 0]))] false 0)
 .ret))))))))}
noncomputable def cmp_Compare_int (E:Env) (p0:Int) (p1:Int):Option (List Row):=
 (E.pc n_cmp_isNaN_int [[.int p0]]).bind fun y1=>
 (E.pc n_cmp_isNaN_int [[.int p1]]).bind fun y2=>
 if ((at_ (rowsAt y1 0) 0).toB)=true then
 if ((at_ (rowsAt y2 0) 0).toB)=true then
 some [[.int 0]]
 else
 some [[.int (-1)]]
 else
 if ((at_ (rowsAt y2 0) 0).toB)=true then
 some [[.int 1]]
 else
 if (decide (p0<p1))=true then
 some [[.int (-1)]]
 else
 if (decide (p0>p1))=true then
 some [[.int 1]]
 else
 some [[.int 0]]
theorem cmp_Compare_int_eq (E:Env) (p0:Int) (p1:Int):runP E cmp_Compare_int_a [[.int p0],[.int p1]]=cmp_Compare_int E p0 p1:=by kernel_rfl
def internal_bytealg_CompareString_a:AFun:={ps:=[lS,lS],rs:=[lI],res:=[(false,4,none)],body:=(.seq (.region [] [oq 4 (.mov (.c lI [.int 0]))] false 0)
 (.seq (.region [] [oq 5 (.mov (.t 0)),
 oq 6 (.mov (.t 1)),
 oq 7 (.cmpS 72 (.t 5) (.t 6)),
 oq 4 (.mov (.t 7))] false 0)
 .ret))}
noncomputable def internal_bytealg_CompareString (E:Env) (p0:List UInt8) (p1:List UInt8):Option (List Row):=
 some [[.int (cmpBytes p0 p1)]]
theorem internal_bytealg_CompareString_eq (E:Env) (p0:List UInt8) (p1:List UInt8):runP E internal_bytealg_CompareString_a [[.str p0],[.str p1]]=internal_bytealg_CompareString E p0 p1:=by kernel_rfl
def strings_Compare_a:AFun:={ps:=[lS,lS],rs:=[lI],res:=[(false,4,none)],body:=(.seq (.region [] [oq 4 (.mov (.c lI [.int 0]))] false 0)
 (.seq (.region [] [oq 5 (.mov (.t 0)),
 oq 6 (.mov (.t 1)),
 oq 7 (.call 56 [lS,lS] [lI] [(.t 5),(.t 6)]),
 oq 4 (.mov (.t 7))] false 0)
 .ret))}
noncomputable def strings_Compare (E:Env) (p0:List UInt8) (p1:List UInt8):Option (List Row):=
 (E.pc n_internal_bytealg_CompareString [[.str p0],[.str p1]]).bind fun y1=>
 some [[.int ((at_ (rowsAt y1 0) 0).toI)]]
theorem strings_Compare_eq (E:Env) (p0:List UInt8) (p1:List UInt8):runP E strings_Compare_a [[.str p0],[.str p1]]=strings_Compare E p0 p1:=by kernel_rfl
def slices_CompareFunc_api_Field_h0:Shape:={slots:=[(0, .d (.one (.sl 74))),(1, .d (.one (.sl 74))),(2, .d (.one (.fn 80))),(11, .d (.one (.sl 74))),(12, .d lI),(13, .d lI)],objs:=[]}
def slices_CompareFunc_api_Field_o0:List (Exit'×Shape):=[(.exit 0,{slots:=[(0, .d (.one (.sl 74))),(1, .d (.one (.sl 74)))],objs:=[]}),(.ret,{slots:=[(6, .d lI)],objs:=[]})]
def slices_CompareFunc_api_Field_c0:ACode:=(.seq (.region [] [oq 14 (.icmp .lss (.t 13) (.t 12))] false 0)
 (.seq (.cond (.t 14) .skip
 (.exit 0))
 (.seq (.block 1 (.seq (.region [] [oq 15 (.mov (.t 13)),
 oq 16 (.iad 74 lA1 (.t 11) (.t 13)),
 oq 17 (.ld lA1 74 (.t 16)),
 oq 8 (.allocO 0 lA1 [.str [], .int 0, .int 0, .str [], .nils]),
 oq 7 (.mov (.t 15)),
 ⟨none, .st lA1 (.t 8) (.t 17),none,[]⟩] false 1)
 (.seq (.seq (.region [] [oq 18 (.mov (.t 7)),
 oq 19 (.mov (.t 1)),
 oq 20 (.lenL (.t 19)),
 oq 21 (.icmp .geq (.t 18) (.t 20))] false 0)
 (.cond (.t 21) (.seq (.region [] [oq 6 (.mov (.c lI [.int 1]))] false 0)
 .ret)
 .skip))
 (.seq (.region [] [oq 22 (.mov (.t 1)),
 oq 23 (.mov (.t 7)),
 oq 24 (.iad 74 lA1 (.t 22) (.t 23)),
 oq 25 (.ld lA1 74 (.t 24)),
 oq 9 (.allocO 0 lA1 [.str [], .int 0, .int 0, .str [], .nils]),
 ⟨none, .st lA1 (.t 9) (.t 25),none,[]⟩] false 1)
 (.seq (.region [] [oq 26 (.mov (.t 2)),
 oq 27 (.ld lA1 74 (.t 8)),
 oq 28 (.ld lA1 74 (.t 9)),
 oq 29 (.callv 80 [lA1,lA1] [lI] (.t 26) [(.t 27),(.t 28)]),
 oq 10 (.mov (.t 29))] false 0)
 (.seq (.region [] [oq 30 (.mov (.t 10)),
 oq 31 (.icmp .neq (.t 30) (.c lI [.int 0]))] false 0)
 (.cond (.t 31) (.seq (.region [] [oq 32 (.mov (.t 10)),
 oq 6 (.mov (.t 32))] false 0)
 .ret)
 .skip)))))))
 (.region [] [oq 33 (.ibin .add (.t 13) (.c lI [.int 1])),
 oq 13 (.mov (.t 33))] false 0))))
noncomputable def slices_CompareFunc_api_Field_l0 (E:Env) (v0:C) (v1:C) (v2:C) (v3:C) (v4:Int) (v5:Int):Option (Nat×List PV):=E.fix (stepOf E slices_CompareFunc_api_Field_c0 slices_CompareFunc_api_Field_h0 slices_CompareFunc_api_Field_o0) [.r [v0], .r [v1], .r [v2], .r [v3], .r [.int v4], .r [.int v5]]
noncomputable def slices_CompareFunc_api_Field_b0 (E:Env) (X:C→C→C→C→Int→Int→Option (Nat×List PV)) (v0:C) (v1:C) (v2:C) (v3:C) (v4:Int) (v5:Int):Option (Nat×List PV):=
 if (decide (v5<v4))=true then
 if (0:Int)≤v5∧v5<(v3.rows.length:Int)then
 if (decide (v5≥(v1.rows.length:Int)))=true then
 some (1,[.r [.int 1]])
 else
 if (0:Int)≤v5∧v5<(v1.rows.length:Int)then
 (callC E v2 [rowsAt v3.rows v5.toNat,rowsAt v1.rows v5.toNat]).bind fun y1=>
 if (((at_ (rowsAt y1 0) 0).toI) !=0)=true then
 some (1,[.r [.int ((at_ (rowsAt y1 0) 0).toI)]])
 else
 X v0 v1 v2 v3 v4 (Go.IntKind.i64.wrap (v5+1))
 else none
 else none
 else
 some (0,[.r [v0], .r [v1]])
theorem slices_CompareFunc_api_Field_s0 (E:Env) (X:List PV→Option (Nat×List PV)) (v0:C) (v1:C) (v2:C) (v3:C) (v4:Int) (v5:Int):stepOf E slices_CompareFunc_api_Field_c0 slices_CompareFunc_api_Field_h0 slices_CompareFunc_api_Field_o0 X [.r [v0], .r [v1], .r [v2], .r [v3], .r [.int v4], .r [.int v5]]=slices_CompareFunc_api_Field_b0 E (fun (v0:C) (v1:C) (v2:C) (v3:C) (v4:Int) (v5:Int)=>X [.r [v0], .r [v1], .r [v2], .r [v3], .r [.int v4], .r [.int v5]]) v0 v1 v2 v3 v4 v5:=by kernel_rfl
def slices_CompareFunc_api_Field_a:AFun:={ps:=[(.one (.sl 74)),(.one (.sl 74)),(.one (.fn 80))],rs:=[lI],res:=[(false,6,none)],body:=(.seq (.region [] [oq 6 (.mov (.c lI [.int 0]))] false 0)
 (.seq (.seq (.region [] [oq 11 (.mov (.t 0)),
 oq 12 (.lenL (.t 11)),
 oq 13 (.mov (.c lI [.int 0]))] false 0)
 (.block 0 (.loop slices_CompareFunc_api_Field_h0 slices_CompareFunc_api_Field_o0 slices_CompareFunc_api_Field_c0)))
 (.seq (.seq (.region [] [oq 34 (.mov (.t 0)),
 oq 35 (.lenL (.t 34)),
 oq 36 (.mov (.t 1)),
 oq 37 (.lenL (.t 36)),
 oq 38 (.icmp .lss (.t 35) (.t 37))] false 0)
 (.cond (.t 38) (.seq (.region [] [oq 6 (.mov (.c lI [.int (-1)]))] false 0)
 .ret)
 .skip))
 (.seq (.region [] [oq 6 (.mov (.c lI [.int 0]))] false 0)
 .ret))))}
noncomputable def slices_CompareFunc_api_Field (E:Env) (p0:C) (p1:C) (p2:C):Option (List Row):=
 (slices_CompareFunc_api_Field_l0 E p0 p1 p2 p0 (p0.rows.length:Int) 0).bind fun x2=>
 match x2.1 with
 |0=>
 if (decide ((((gC 0 x2.2).rows).length:Int)<(((gC 1 x2.2).rows).length:Int)))=true then
 some [[.int (-1)]]
 else
 some [[.int 0]]
 |i3+1=>
 some [[.int (gI 0 x2.2)]]
theorem slices_CompareFunc_api_Field_eq (E:Env) (p0:C) (p1:C) (p2:C):runP E slices_CompareFunc_api_Field_a [[p0],[p1],[p2]]=slices_CompareFunc_api_Field E p0 p1 p2:=by kernel_rfl
def value_Cmp_1_a:AFun:={ps:=[lA1,lA1],rs:=[lI],res:=[(false,4,none)],body:=(.seq (.region [] [oq 2 (.boxP lA1 74 (.t 0)),
 oq 3 (.boxP lA1 74 (.t 1)),
 oq 4 (.mov (.c lI [.int 0]))] false 0)
 (.seq (.region [] [oq 5 (.fad 0 1 74 9 (.t 2)),
 ⟨some 6, .ld lS 9 (.t 5),none,[0]⟩,
 oq 7 (.fad 0 1 74 9 (.t 3)),
 ⟨some 8, .ld lS 9 (.t 7),none,[2]⟩,
 ⟨some 9, .call 43 [lS,lS] [lI] [(.t 6),(.t 8)],none,[0,1,2,3]⟩,
 oq 10 (.fad 1 4 74 33 (.t 2)),
 ⟨some 11, .ld lA2 33 (.t 10),none,[5]⟩,
 oq 12 (.fad 1 4 74 33 (.t 3)),
 ⟨some 13, .ld lA2 33 (.t 12),none,[7]⟩,
 ⟨some 14, .call 29 [lA2,lA2] [lI] [(.t 11),(.t 13)],none,[0,1,2,3,4,5,6,7,8]⟩,
 ⟨some 15, .bsl 3 lI 2 [.int 0] [(0,(.t 9)),(1,(.t 14))],none,[0,1,2,3,4,5,6,7,8,9]⟩,
 ⟨some 16, .call 41 [(.one (.sl 3))] [lI] [(.t 15)],none,[0,1,2,3,4,5,6,7,8,9,10]⟩,
 ⟨some 4, .mov (.t 16),none,[0,1,2,3,4,5,6,7,8,9,10,11]⟩] true 0)
 .ret))}
noncomputable def value_Cmp_1 (E:Env) (p0:Row) (p1:Row):Option (List Row):=
 (E.pc n_strings_Compare [[.str ((at_ p0 0).toS)],[.str ((at_ p1 0).toS)]]).bind fun y1=>
 (E.pc n_value_Cmp [[at_ p0 1,at_ p0 2,at_ p0 3,at_ p0 4],[at_ p1 1,at_ p1 2,at_ p1 3,at_ p1 4]]).bind fun y2=>
 (E.pc n_cmp_Or_int [[.sl ([[.int ((at_ (rowsAt y1 0) 0).toI)],[.int ((at_ (rowsAt y2 0) 0).toI)]]:List Row)]]).bind fun y3=>
 some [[.int ((at_ (rowsAt y3 0) 0).toI)]]
theorem value_Cmp_1_eq (E:Env) (p0:Row) (p1:Row):runP E value_Cmp_1_a [p0,p1]=value_Cmp_1 E p0 p1:=by kernel_rfl
def value_Cmp_a:AFun:={ps:=[lA2,lA2],rs:=[lI],res:=[(false,4,none)],body:=(.seq (.region [] [oq 2 (.boxP lA2 33 (.t 0)),
 oq 3 (.boxP lA2 33 (.t 1)),
 oq 4 (.mov (.c lI [.int 0]))] false 0)
 (.seq (.region [] [oq 8 (.fad 1 1 33 3 (.t 2)),
 ⟨some 9, .ld lI 3 (.t 8),none,[0]⟩,
 oq 10 (.fad 1 1 33 3 (.t 3)),
 ⟨some 11, .ld lI 3 (.t 10),none,[2]⟩,
 ⟨some 5, .mov (.t 9),none,[0,1]⟩,
 ⟨some 6, .mov (.t 11),none,[0,1,2,3,4]⟩] true 0)
 (.seq (.seq (.region [] [oq 12 (.fad 0 1 33 3 (.t 2)),
 oq 13 (.ld lI 3 (.t 12)),
 oq 14 (.icmp .eql (.t 13) (.c lI [.int 3]))] false 0)
 (.join [(.normal,{slots:=[(2, .d (.one (.ref 33))),(3, .d (.one (.ref 33))),(5, .d lI),(6, .d lI)],objs:=[]})] (.cond (.t 14) (.region [] [oq 15 (.mov (.t 5)),
 oq 16 (.call 40 [lI] [lI] [(.t 15)]),
 oq 17 (.mov (.t 6)),
 oq 18 (.call 40 [lI] [lI] [(.t 17)]),
 oq 5 (.mov (.t 16)),
 oq 6 (.mov (.t 18))] false 0)
 .skip)))
 (.seq (.region [] [oq 19 (.fad 0 1 33 3 (.t 2)),
 ⟨some 20, .ld lI 3 (.t 19),none,[0]⟩,
 oq 21 (.fad 0 1 33 3 (.t 3)),
 ⟨some 22, .ld lI 3 (.t 21),none,[2]⟩,
 ⟨some 23, .call 42 [lI,lI] [lI] [(.t 20),(.t 22)],none,[0,1,2,3]⟩,
 oq 24 (.mov (.t 5)),
 oq 25 (.mov (.t 6)),
 ⟨some 26, .call 42 [lI,lI] [lI] [(.t 24),(.t 25)],none,[0,1,2,3,4,5,6]⟩,
 oq 27 (.fad 2 1 33 9 (.t 2)),
 ⟨some 28, .ld lS 9 (.t 27),none,[8]⟩,
 oq 29 (.fad 2 1 33 9 (.t 3)),
 ⟨some 30, .ld lS 9 (.t 29),none,[10]⟩,
 ⟨some 31, .call 43 [lS,lS] [lI] [(.t 28),(.t 30)],none,[0,1,2,3,4,5,6,7,8,9,10,11]⟩,
 ⟨some 32, .bsl 3 lI 3 [.int 0] [(0,(.t 23)),(1,(.t 26)),(2,(.t 31))],none,[0,1,2,3,4,5,6,7,8,9,10,11,12]⟩,
 ⟨some 33, .call 41 [(.one (.sl 3))] [lI] [(.t 32)],none,[0,1,2,3,4,5,6,7,8,9,10,11,12,13]⟩,
 ⟨some 7, .mov (.t 33),none,[0,1,2,3,4,5,6,7,8,9,10,11,12,13,14]⟩] true 0)
 (.seq (.seq (.region [] [oq 34 (.mov (.t 7)),
 oq 35 (.icmp .neq (.t 34) (.c lI [.int 0]))] false 0)
 (.cond (.t 35) (.seq (.region [] [oq 36 (.mov (.t 7)),
 oq 4 (.mov (.t 36))] false 0)
 .ret)
 .skip))
 (.seq (.region [] [oq 37 (.fad 3 1 33 31 (.t 2)),
 oq 38 (.ld (.one (.sl 74)) 31 (.t 37)),
 oq 39 (.fad 3 1 33 31 (.t 3)),
 oq 40 (.ld (.one (.sl 74)) 31 (.t 39)),
 oq 41 (.call 44 [(.one (.sl 74)),(.one (.sl 74)),(.one (.fn 80))] [lI] [(.t 38),(.t 40),(.c (.one (.fn 80)) [.fn n_value_Cmp_1 []])]),
 oq 4 (.mov (.t 41))] false 0)
 .ret))))))}
noncomputable def value_Cmp (E:Env) (p0:Row) (p1:Row):Option (List Row):=
 (if (((at_ p0 0).toI)==3)=true then
 (E.pc n_value_order [[.int ((at_ p0 1).toI)]]).bind fun y1=>
 (E.pc n_value_order [[.int ((at_ p1 1).toI)]]).bind fun y2=>
 some (0,[.r [.dp p0], .r [.dp p1], .r [.int ((at_ (rowsAt y1 0) 0).toI)], .r [.int ((at_ (rowsAt y2 0) 0).toI)]])
 else
 some (0,[.r [.dp p0], .r [.dp p1], .r [.int ((at_ p0 1).toI)], .r [.int ((at_ p1 1).toI)]])).bind fun x3=>
 if (gC 0 x3.2).isDp=true then
 if (gC 1 x3.2).isDp=true then
 (E.pc n_cmp_Compare_int [[.int ((at_ ((gC 0 x3.2).dpRow) 0).toI)],[.int ((at_ ((gC 1 x3.2).dpRow) 0).toI)]]).bind fun y4=>
 (E.pc n_cmp_Compare_int [[.int (gI 2 x3.2)],[.int (gI 3 x3.2)]]).bind fun y5=>
 if (gC 0 x3.2).isDp=true then
 if (gC 1 x3.2).isDp=true then
 (E.pc n_strings_Compare [[.str ((at_ ((gC 0 x3.2).dpRow) 2).toS)],[.str ((at_ ((gC 1 x3.2).dpRow) 2).toS)]]).bind fun y6=>
 (E.pc n_cmp_Or_int [[.sl ([[.int ((at_ (rowsAt y4 0) 0).toI)],[.int ((at_ (rowsAt y5 0) 0).toI)],[.int ((at_ (rowsAt y6 0) 0).toI)]]:List Row)]]).bind fun y7=>
 if (((at_ (rowsAt y7 0) 0).toI) !=0)=true then
 some [[.int ((at_ (rowsAt y7 0) 0).toI)]]
 else
 if (gC 0 x3.2).isDp=true then
 if (gC 1 x3.2).isDp=true then
 (E.pc n_slices_CompareFunc_api_Field [[at_ ((gC 0 x3.2).dpRow) 3],[at_ ((gC 1 x3.2).dpRow) 3],[.fn n_value_Cmp_1 []]]).bind fun y8=>
 some [[.int ((at_ (rowsAt y8 0) 0).toI)]]
 else none
 else none
 else none
 else none
 else none
 else none
theorem value_Cmp_eq (E:Env) (p0:Row) (p1:Row):runP E value_Cmp_a [p0,p1]=value_Cmp E p0 p1:=by kernel_rfl
def value_Same_a:AFun:={ps:=[lA2,lA2],rs:=[lB],res:=[(false,4,none)],body:=(.seq (.region [] [oq 2 (.boxP lA2 33 (.t 0)),
 oq 3 (.boxP lA2 33 (.t 1)),
 oq 4 (.mov (.c lB [.bool false]))] false 0)
 (.seq (.region [] [oq 5 (.ld lA2 33 (.t 2)),
 oq 6 (.ld lA2 33 (.t 3)),
 oq 7 (.call 29 [lA2,lA2] [lI] [(.t 5),(.t 6)]),
 oq 8 (.icmp .eql (.t 7) (.c lI [.int 0])),
 oq 4 (.mov (.t 8))] false 0)
 .ret))}
noncomputable def value_Same (E:Env) (p0:Row) (p1:Row):Option (List Row):=
 (E.pc n_value_Cmp [p0,p1]).bind fun y1=>
 some [[.bool (((at_ (rowsAt y1 0) 0).toI)==0)]]
theorem value_Same_eq (E:Env) (p0:Row) (p1:Row):runP E value_Same_a [p0,p1]=value_Same E p0 p1:=by kernel_rfl
def dict_find_1_a:AFun:={ps:=[lA0,(.one (.ref 3)),(.one (.ref 33))],rs:=[lB],res:=[(false,4,none)],body:=(.seq (.region [] [oq 3 (.boxP lA0 40 (.t 0)),
 oq 4 (.mov (.c lB [.bool false]))] false 0)
 (.seq (.region [] [oq 5 (.ld lI 3 (.t 1)),
 ⟨some 6, .iadA 2 40 33 lA2 (.t 3) (.t 5),none,[0]⟩,
 ⟨some 7, .ld lA2 33 (.t 6),none,[0,1]⟩,
 oq 8 (.ld lA2 33 (.t 2)),
 ⟨some 9, .call 16 [lA2,lA2] [lB] [(.t 7),(.t 8)],none,[0,1,2,3]⟩,
 ⟨some 4, .mov (.t 9),none,[0,1,2,3,4]⟩] true 0)
 .ret))}
noncomputable def dict_find_1 (E:Env) (p0:Row) (p1:C) (p2:C):Option (List Row):=
 if p1.isDp=true then
 if (0:Int)≤((at_ p1.dpRow 0).toI)∧((at_ p1.dpRow 0).toI)<(2:Int)∧(C.dp p0).isDp=true then
 if p2.isDp=true then
 (E.pc n_value_Same [[at_ p0 ((((at_ p1.dpRow 0).toI).toNat)*4),at_ p0 ((((at_ p1.dpRow 0).toI).toNat)*4+1),at_ p0 ((((at_ p1.dpRow 0).toI).toNat)*4+2),at_ p0 ((((at_ p1.dpRow 0).toI).toNat)*4+3)],p2.dpRow]).bind fun y1=>
 some [[.bool ((at_ (rowsAt y1 0) 0).toB)]]
 else none
 else none
 else none
theorem dict_find_1_eq (E:Env) (p0:Row) (p1:C) (p2:C):runP E dict_find_1_a [p0,[p1],[p2]]=dict_find_1 E p0 p1 p2:=by kernel_rfl
def dict_find_a:AFun:={ps:=[(.one (.sl 40)),lI,lA2],rs:=[lI],res:=[(false,6,none)],body:=(.seq (.region [] [oq 4 (.boxP lI 3 (.t 1)),
 oq 5 (.boxP lA2 33 (.t 2)),
 oq 6 (.mov (.c lI [.int 0]))] false 0)
 (.seq (.region [] [oq 7 (.mov (.t 0)),
 oq 8 (.mkf 32 62 [.ref 3, .ref 33] [(.t 4),(.t 5)]),
 oq 9 (.call 31 [(.one (.sl 40)),(.one (.fn 62))] [lI] [(.t 7),(.t 8)]),
 oq 6 (.mov (.t 9))] false 0)
 .ret))}
noncomputable def dict_find (E:Env) (p0:C) (p1:Int) (p2:Row):Option (List Row):=
 (E.pc n_slices_IndexFunc_2_api_Value [[p0],[.fn n_dict_find_1 [.dp [.int p1], .dp p2]]]).bind fun y1=>
 some [[.int ((at_ (rowsAt y1 0) 0).toI)]]
theorem dict_find_eq (E:Env) (p0:C) (p1:Int) (p2:Row):runP E dict_find_a [[p0],[.int p1],p2]=dict_find E p0 p1 p2:=by kernel_rfl
def slices_Clone_api_Field_i1_a:AImp:={fn:=39,entry:=slices_Clone_api_Field_i1_en,res:=[.tmp 2],exit:=slices_Clone_api_Field_i1_ex,body:=(.seq (.region [] [oq 2 (.nilO 0 lA1)] false 1)
 (.seq (.seq (.region [] [oq 3 (.mov (.t 0)),
 oq 4 (.nileq false (.t 3))] false 0)
 (.cond (.t 4) (.seq (.region [] [oq 2 (.nilO 0 lA1)] false 1)
 .ret)
 .skip))
 (.seq (.region [] [oq 5 (.bslO 0 74 lA1 0 [.str [], .int 0, .int 0, .str [], .nils] []),
 oq 6 (.mov (.t 0)),
 oq 7 (.app 1 74 lA1 72 (.t 5) (.t 6)),
 oq 2 (.mov (.t 7))] false 2)
 .ret)))}
noncomputable def slices_Clone_api_Field_i1 (E:Env) (p0:C):Option (List PV):=
 if p0.isNil=true then
 some [.r [.nils]]
 else
 if (([]:List Row).length+p0.rows.length)*72≤140737488355328 then
 some [.r [appC (.sl ([]:List Row)) p0.rows]]
 else none
theorem slices_Clone_api_Field_i1_eq (E:Env) (p0:C):runI E slices_Clone_api_Field_i1_a [.r [p0]]=slices_Clone_api_Field_i1 E p0:=by kernel_rfl
def value_Copy_i0_h0:Shape:={slots:=[(1, .ptr 0 0),(2, .ptr 1 0),(10, .d lI),(11, .d lI)],objs:=bS0}
def value_Copy_i0_o0:List (Exit'×Shape):=[(.exit 0,{slots:=[(1, .ptr 0 0),(2, .ptr 1 0)],objs:=bS0})]
def value_Copy_i0_c0:ACode:=(.seq (.region [] [oq 12 (.icmp .lss (.t 11) (.t 10))] false 0)
 (.seq (.cond (.t 12) .skip
 (.exit 0))
 (.seq (.block 1 (.seq (.region [] [oq 13 (.mov (.t 11)),
 oq 3 (.mov (.t 13))] false 0)
 (.region [] [oq 14 (.fad 3 1 33 31 (.t 1)),
 ⟨some 15, .ldC (.t 14),none,[0]⟩,
 oq 16 (.mov (.t 3)),
 oq 17 (.fad 3 1 33 31 (.t 1)),
 ⟨some 18, .ldC (.t 17),none,[3]⟩,
 oq 19 (.mov (.t 3)),
 ⟨some 20, .iad 74 lA1 (.t 18) (.t 19),none,[3,4,5]⟩,
 ⟨some 21, .fad 1 4 74 33 (.t 20),none,[3,4,5,6]⟩,
 ⟨some 22, .ld lA2 33 (.t 21),none,[3,4,5,6,7]⟩,
 ⟨some 23, .icall 150 27 (value_Copy_i0_en) (value_Copy_i0_ex) [] 0 none [(.t 22)],none,[3,4,5,6,7,8]⟩,
 ⟨some 24, .iad 74 lA1 (.t 15) (.t 16),none,[0,1,2,3,4,5,6,7,8,9]⟩,
 ⟨some 25, .fad 1 4 74 33 (.t 24),none,[0,1,2,3,4,5,6,7,8,9,10]⟩,
 ⟨none, .st lA2 (.t 25) (.t 23),none,[0,1,2,3,4,5,6,7,8,9,10,11]⟩] true 0)))
 (.region [] [oq 26 (.ibin .add (.t 11) (.c lI [.int 1])),
 oq 11 (.mov (.t 26))] false 0))))
noncomputable def value_Copy_i0_l0 (E:Env) (v0:Int) (v1:Int) (v2:Int) (v3:Int) (v4:List UInt8) (v5:Row) (v6:C):Option (Nat×List PV):=E.fix (stepOf E value_Copy_i0_c0 value_Copy_i0_h0 value_Copy_i0_o0) [.r [.int v0], .r [.int v1], .r [.int v2], .r [.int v3], .r [.str v4], .r v5, .r [v6]]
noncomputable def value_Copy_i0_b0 (E:Env) (X:Int→Int→Int→Int→List UInt8→Row→C→Option (Nat×List PV)) (v0:Int) (v1:Int) (v2:Int) (v3:Int) (v4:List UInt8) (v5:Row) (v6:C):Option (Nat×List PV):=
 if (decide (v1<v0))=true then
 if (0:Int)≤v1∧v1<(v6.rows.length:Int)then
 if v1.toNat<v6.rows.length then
 (E.ic value_Copy_i0_n [.r [at_ (rowsAt v6.rows v1.toNat) 1,at_ (rowsAt v6.rows v1.toNat) 2,at_ (rowsAt v6.rows v1.toNat) 3,at_ (rowsAt v6.rows v1.toNat) 4]]).bind fun y2=>
 if (0:Int)≤v1∧v1<(v6.rows.length:Int)then
 if v1.toNat<v6.rows.length then
 X v0 (Go.IntKind.i64.wrap (v1+1)) v2 v3 v4 v5 (.sl (v6.rows.set v1.toNat (put (rowsAt v6.rows v1.toNat) 1 4 (gR 0 y2) 0 5)))
 else none
 else none
 else none
 else none
 else
 some (0,[.r [.int v2], .r [.int v3], .r [.str v4], .r v5, .r [v6]])
theorem value_Copy_i0_s0 (E:Env) (X:List PV→Option (Nat×List PV)) (v0:Int) (v1:Int) (v2:Int) (v3:Int) (v4:List UInt8) (v5:Row) (v6:C):stepOf E value_Copy_i0_c0 value_Copy_i0_h0 value_Copy_i0_o0 X [.r [.int v0], .r [.int v1], .r [.int v2], .r [.int v3], .r [.str v4], .r v5, .r [v6]]=value_Copy_i0_b0 E (fun (v0:Int) (v1:Int) (v2:Int) (v3:Int) (v4:List UInt8) (v5:Row) (v6:C)=>X [.r [.int v0], .r [.int v1], .r [.int v2], .r [.int v3], .r [.str v4], .r v5, .r [v6]]) v0 v1 v2 v3 v4 v5 v6:=by kernel_rfl
def value_Copy_i0_a:AImp:={fn:=27,entry:=value_Copy_i0_en,res:=[.var 2 lA2],exit:=value_Copy_i0_ex,body:=(.seq (.region [] [oq 1 (.boxA 0 (.t 0)),
 oq 2 (.allocO 1 lA2 [.int 0, .int 0, .str [], .nils])] false 2)
 (.seq (.region [] [oq 4 (.fad 3 1 33 31 (.t 1)),
 oq 5 (.ldC (.t 4)),
 oq 6 (.icall 151 39 (slices_Clone_api_Field_i1_en) (slices_Clone_api_Field_i1_ex) [] 0 none [(.t 5)]),
 oq 7 (.fad 3 1 33 31 (.t 1)),
 ⟨none, .stC (.t 7) (.t 6),none,[]⟩] false 1)
 (.seq (.seq (.region [] [oq 8 (.fad 3 1 33 31 (.t 1)),
 oq 9 (.ldC (.t 8)),
 oq 10 (.lenL (.t 9)),
 oq 11 (.mov (.c lI [.int 0]))] false 0)
 (.block 0 (.loop value_Copy_i0_h0 value_Copy_i0_o0 value_Copy_i0_c0)))
 (.seq (.ghost (.frz 1 3 74 lA1) (.region [] [oq 27 (.ldA 4 (.t 1)),
 ⟨none, .st lA2 (.t 2) (.t 27),none,[]⟩] false 0))
 .ret))))}
noncomputable def value_Copy_i0 (E:Env) (p0:Row):Option (List PV):=
 (E.ic slices_Clone_api_Field_i1_n [.r [at_ p0 3]]).bind fun y1=>
 (value_Copy_i0_l0 E (((gC 0 y1).rows).length:Int) 0 ((at_ p0 0).toI) ((at_ p0 1).toI) ((at_ p0 2).toS) [.int 0, .int 0, .str [], .nils] (gC 0 y1)).bind fun x3=>
 some [.r [.int (gI 0 x3.2), .int (gI 1 x3.2), .str (gS 2 x3.2),gC 4 x3.2]]
theorem value_Copy_i0_eq (E:Env) (p0:Row):runI E value_Copy_i0_a [.r p0]=value_Copy_i0 E p0:=by kernel_rfl
def dict_To_a:AFun:={ps:=[(.one (.sl 40)),lA2],rs:=[lA2,lB],res:=[(true,4,none),(false,5,none)],body:=(.seq (.region [] [oq 3 (.boxP lA2 33 (.t 1)),
 oq 4 (.allocO 0 lA2 [.int 0, .int 0, .str [], .nils]),
 oq 5 (.mov (.c lB [.bool false]))] false 1)
 (.seq (.seq (.region [] [oq 7 (.mov (.t 0)),
 oq 8 (.ld lA2 33 (.t 3)),
 oq 9 (.call 18 [(.one (.sl 40)),lI,lA2] [lI] [(.t 7),(.c lI [.int 0]),(.t 8)]),
 oq 6 (.mov (.t 9))] false 0)
 (.seq (.region [] [oq 10 (.mov (.t 6)),
 oq 11 (.icmp .geq (.t 10) (.c lI [.int 0]))] false 0)
 (.cond (.t 11) (.seq (.region [] [oq 12 (.mov (.t 0)),
 oq 13 (.mov (.t 6)),
 oq 14 (.iad 40 lA0 (.t 12) (.t 13)),
 oq 15 (.iadA 2 40 33 lA2 (.t 14) (.c lI [.int 1])),
 oq 16 (.ld lA2 33 (.t 15)),
 oq 17 (.icall 150 27 (value_Copy_i0_en) (value_Copy_i0_ex) [] 0 none [(.t 16)]),
 ⟨none, .st lA2 (.t 4) (.t 17),none,[]⟩,
 oq 5 (.mov (.c lB [.bool true]))] false 0)
 .ret)
 .skip)))
 (.seq (.region [] [oq 18 (.bld lA2 [.int 0, .int 0, .str [], .nils] []),
 ⟨none, .st lA2 (.t 4) (.t 18),none,[]⟩,
 oq 5 (.mov (.c lB [.bool false]))] false 0)
 .ret)))}
def claplaw3_num_a:AFun:={ps:=[lI],rs:=[lA2],res:=[(true,2,none)],body:=(.seq (.region [] [oq 2 (.allocO 0 lA2 [.int 0, .int 0, .str [], .nils])] false 1)
 (.seq (.region [] [oq 3 (.mov (.t 0)),
 oq 4 (.bld lA2 [.int 0, .int 0, .str [], .nils] [(0,1,(.c lI [.int 2])),(1,1,(.t 3))]),
 ⟨none, .st lA2 (.t 2) (.t 4),none,[]⟩] false 0)
 .ret))}
def claplaw3_pairs_a:AFun:={ps:=[],rs:=[(.one (.sl 40))],res:=[(false,0,(some lA0))],body:=(.seq (.region [] [oq 0 (.mov (.c (.one (.sl 40)) [.nils]))] false 0)
 (.seq (.region [] [oq 1 (.call 14 [lI] [lA2] [(.c lI [.int 1])]),
 oq 2 (.call 14 [lI] [lA2] [(.c lI [.int 0])]),
 oq 3 (.bld lA0 [.int 0, .int 0, .str [], .nils, .int 0, .int 0, .str [], .nils] [(0,4,(.t 1)),(4,4,(.t 2))]),
 oq 4 (.call 14 [lI] [lA2] [(.c lI [.int 0])]),
 oq 5 (.call 14 [lI] [lA2] [(.c lI [.int 1])]),
 oq 6 (.bld lA0 [.int 0, .int 0, .str [], .nils, .int 0, .int 0, .str [], .nils] [(0,4,(.t 4)),(4,4,(.t 5))]),
 oq 7 (.bsl 40 lA0 2 [.int 0, .int 0, .str [], .nils, .int 0, .int 0, .str [], .nils] [(0,(.t 3)),(1,(.t 6))]),
 oq 0 (.mov (.t 7))] false 0)
 .ret))}
def lens_Size_h0:Shape:={slots:=[(3, .d lI),(7, .d (.one (.sl 60))),(8, .d lI),(9, .d lI)],objs:=[]}
def lens_Size_o0:List (Exit'×Shape):=[(.exit 0,{slots:=[(3, .d lI)],objs:=[]})]
def lens_Size_c0:ACode:=(.seq (.region [] [oq 10 (.icmp .lss (.t 9) (.t 8))] false 0)
 (.seq (.cond (.t 10) .skip
 (.exit 0))
 (.seq (.block 1 (.seq (.region [] [oq 11 (.iad 60 lA3 (.t 7) (.t 9)),
 oq 12 (.ld lA3 60 (.t 11)),
 oq 5 (.allocO 0 lA3 [.int 0, .str [], .str [], .nils, .int 0, .int 0, .int 0, .int 0, .int 0, .int 0, .str [], .nils, .nils, .nils]),
 ⟨none, .st lA3 (.t 5) (.t 12),none,[]⟩] false 1)
 (.region [] [oq 13 (.mov (.t 3)),
 oq 14 (.ld lA3 60 (.t 5)),
 oq 15 (.call 46 [lA3] [lI] [(.t 14)]),
 oq 16 (.ibin .add (.t 13) (.t 15)),
 oq 3 (.mov (.t 16))] false 0)))
 (.region [] [oq 17 (.ibin .add (.t 9) (.c lI [.int 1])),
 oq 9 (.mov (.t 17))] false 0))))
noncomputable def lens_Size_l0 (E:Env) (v0:Int) (v1:C) (v2:Int) (v3:Int):Option (Nat×List PV):=E.fix (stepOf E lens_Size_c0 lens_Size_h0 lens_Size_o0) [.r [.int v0], .r [v1], .r [.int v2], .r [.int v3]]
noncomputable def lens_Size_b0 (E:Env) (X:Int→C→Int→Int→Option (Nat×List PV)) (v0:Int) (v1:C) (v2:Int) (v3:Int):Option (Nat×List PV):=
 if (decide (v3<v2))=true then
 if (0:Int)≤v3∧v3<(v1.rows.length:Int)then
 (E.pc n_lens_Size [rowsAt v1.rows v3.toNat]).bind fun y1=>
 X (Go.IntKind.i64.wrap (v0+((at_ (rowsAt y1 0) 0).toI))) v1 v2 (Go.IntKind.i64.wrap (v3+1))
 else none
 else
 some (0,[.r [.int v0]])
theorem lens_Size_s0 (E:Env) (X:List PV→Option (Nat×List PV)) (v0:Int) (v1:C) (v2:Int) (v3:Int):stepOf E lens_Size_c0 lens_Size_h0 lens_Size_o0 X [.r [.int v0], .r [v1], .r [.int v2], .r [.int v3]]=lens_Size_b0 E (fun (v0:Int) (v1:C) (v2:Int) (v3:Int)=>X [.r [.int v0], .r [v1], .r [.int v2], .r [.int v3]]) v0 v1 v2 v3:=by kernel_rfl
def lens_Size_a:AFun:={ps:=[lA3],rs:=[lI],res:=[(false,2,none)],body:=(.seq (.region [] [oq 1 (.boxP lA3 60 (.t 0)),
 oq 2 (.mov (.c lI [.int 0]))] false 0)
 (.seq (.region [] [oq 3 (.mov (.c lI [.int 1]))] false 0)
 (.seq (.seq (.region [] [oq 6 (.fad 13 1 60 58 (.t 1)),
 oq 7 (.ld (.one (.sl 60)) 58 (.t 6)),
 oq 8 (.lenL (.t 7)),
 oq 9 (.mov (.c lI [.int 0]))] false 0)
 (.block 0 (.loop lens_Size_h0 lens_Size_o0 lens_Size_c0)))
 (.seq (.region [] [oq 18 (.mov (.t 3)),
 oq 2 (.mov (.t 18))] false 0)
 .ret))))}
noncomputable def lens_Size (E:Env) (p0:Row):Option (List Row):=
 (lens_Size_l0 E 1 (at_ p0 13) (((at_ p0 13).rows).length:Int) 0).bind fun x2=>
 some [[.int (gI 0 x2.2)]]
theorem lens_Size_eq (E:Env) (p0:Row):runP E lens_Size_a [p0]=lens_Size E p0:=by kernel_rfl
def lens_Deep_h0:Shape:={slots:=[(3, .d lI),(7, .d (.one (.sl 60))),(8, .d lI),(9, .d lI)],objs:=[]}
def lens_Deep_o0:List (Exit'×Shape):=[(.exit 0,{slots:=[(3, .d lI)],objs:=[]})]
def lens_Deep_c0:ACode:=(.seq (.region [] [oq 10 (.icmp .lss (.t 9) (.t 8))] false 0)
 (.seq (.cond (.t 10) .skip
 (.exit 0))
 (.seq (.block 1 (.seq (.region [] [oq 11 (.iad 60 lA3 (.t 7) (.t 9)),
 oq 12 (.ld lA3 60 (.t 11)),
 oq 5 (.allocO 0 lA3 [.int 0, .str [], .str [], .nils, .int 0, .int 0, .int 0, .int 0, .int 0, .int 0, .str [], .nils, .nils, .nils]),
 ⟨none, .st lA3 (.t 5) (.t 12),none,[]⟩] false 1)
 (.region [] [oq 13 (.mov (.t 3)),
 oq 14 (.ld lA3 60 (.t 5)),
 oq 15 (.call 47 [lA3] [lI] [(.t 14)]),
 oq 16 (.imin true [(.t 13),(.t 15)]),
 oq 3 (.mov (.t 16))] false 0)))
 (.region [] [oq 17 (.ibin .add (.t 9) (.c lI [.int 1])),
 oq 9 (.mov (.t 17))] false 0))))
noncomputable def lens_Deep_l0 (E:Env) (v0:Int) (v1:C) (v2:Int) (v3:Int):Option (Nat×List PV):=E.fix (stepOf E lens_Deep_c0 lens_Deep_h0 lens_Deep_o0) [.r [.int v0], .r [v1], .r [.int v2], .r [.int v3]]
noncomputable def lens_Deep_b0 (E:Env) (X:Int→C→Int→Int→Option (Nat×List PV)) (v0:Int) (v1:C) (v2:Int) (v3:Int):Option (Nat×List PV):=
 if (decide (v3<v2))=true then
 if (0:Int)≤v3∧v3<(v1.rows.length:Int)then
 (E.pc n_lens_Deep [rowsAt v1.rows v3.toNat]).bind fun y1=>
 X (if ((at_ (rowsAt y1 0) 0).toI)>v0 then (at_ (rowsAt y1 0) 0).toI else v0) v1 v2 (Go.IntKind.i64.wrap (v3+1))
 else none
 else
 some (0,[.r [.int v0]])
theorem lens_Deep_s0 (E:Env) (X:List PV→Option (Nat×List PV)) (v0:Int) (v1:C) (v2:Int) (v3:Int):stepOf E lens_Deep_c0 lens_Deep_h0 lens_Deep_o0 X [.r [.int v0], .r [v1], .r [.int v2], .r [.int v3]]=lens_Deep_b0 E (fun (v0:Int) (v1:C) (v2:Int) (v3:Int)=>X [.r [.int v0], .r [v1], .r [.int v2], .r [.int v3]]) v0 v1 v2 v3:=by kernel_rfl
def lens_Deep_a:AFun:={ps:=[lA3],rs:=[lI],res:=[(false,2,none)],body:=(.seq (.region [] [oq 1 (.boxP lA3 60 (.t 0)),
 oq 2 (.mov (.c lI [.int 0]))] false 0)
 (.seq (.region [] [oq 3 (.mov (.c lI [.int 0]))] false 0)
 (.seq (.seq (.region [] [oq 6 (.fad 13 1 60 58 (.t 1)),
 oq 7 (.ld (.one (.sl 60)) 58 (.t 6)),
 oq 8 (.lenL (.t 7)),
 oq 9 (.mov (.c lI [.int 0]))] false 0)
 (.block 0 (.loop lens_Deep_h0 lens_Deep_o0 lens_Deep_c0)))
 (.seq (.region [] [oq 18 (.mov (.t 3)),
 oq 19 (.ibin .add (.t 18) (.c lI [.int 1])),
 oq 2 (.mov (.t 19))] false 0)
 .ret))))}
noncomputable def lens_Deep (E:Env) (p0:Row):Option (List Row):=
 (lens_Deep_l0 E 0 (at_ p0 13) (((at_ p0 13).rows).length:Int) 0).bind fun x2=>
 some [[.int (Go.IntKind.i64.wrap ((gI 0 x2.2)+1))]]
theorem lens_Deep_eq (E:Env) (p0:Row):runP E lens_Deep_a [p0]=lens_Deep E p0:=by kernel_rfl
def value_Size_h0:Shape:={slots:=[(3, .d lI),(7, .d (.one (.sl 74))),(8, .d lI),(9, .d lI)],objs:=[]}
def value_Size_o0:List (Exit'×Shape):=[(.exit 0,{slots:=[(3, .d lI)],objs:=[]})]
def value_Size_c0:ACode:=(.seq (.region [] [oq 10 (.icmp .lss (.t 9) (.t 8))] false 0)
 (.seq (.cond (.t 10) .skip
 (.exit 0))
 (.seq (.block 1 (.seq (.region [] [oq 11 (.iad 74 lA1 (.t 7) (.t 9)),
 oq 12 (.ld lA1 74 (.t 11)),
 oq 5 (.allocO 0 lA1 [.str [], .int 0, .int 0, .str [], .nils]),
 ⟨none, .st lA1 (.t 5) (.t 12),none,[]⟩] false 1)
 (.region [] [oq 13 (.mov (.t 3)),
 oq 14 (.fad 1 4 74 33 (.t 5)),
 oq 15 (.ld lA2 33 (.t 14)),
 oq 16 (.call 51 [lA2] [lI] [(.t 15)]),
 oq 17 (.ibin .add (.t 13) (.t 16)),
 oq 3 (.mov (.t 17))] false 0)))
 (.region [] [oq 18 (.ibin .add (.t 9) (.c lI [.int 1])),
 oq 9 (.mov (.t 18))] false 0))))
noncomputable def value_Size_l0 (E:Env) (v0:Int) (v1:C) (v2:Int) (v3:Int):Option (Nat×List PV):=E.fix (stepOf E value_Size_c0 value_Size_h0 value_Size_o0) [.r [.int v0], .r [v1], .r [.int v2], .r [.int v3]]
noncomputable def value_Size_b0 (E:Env) (X:Int→C→Int→Int→Option (Nat×List PV)) (v0:Int) (v1:C) (v2:Int) (v3:Int):Option (Nat×List PV):=
 if (decide (v3<v2))=true then
 if (0:Int)≤v3∧v3<(v1.rows.length:Int)then
 (E.pc n_value_Size [[at_ (rowsAt v1.rows v3.toNat) 1,at_ (rowsAt v1.rows v3.toNat) 2,at_ (rowsAt v1.rows v3.toNat) 3,at_ (rowsAt v1.rows v3.toNat) 4]]).bind fun y1=>
 X (Go.IntKind.i64.wrap (v0+((at_ (rowsAt y1 0) 0).toI))) v1 v2 (Go.IntKind.i64.wrap (v3+1))
 else none
 else
 some (0,[.r [.int v0]])
theorem value_Size_s0 (E:Env) (X:List PV→Option (Nat×List PV)) (v0:Int) (v1:C) (v2:Int) (v3:Int):stepOf E value_Size_c0 value_Size_h0 value_Size_o0 X [.r [.int v0], .r [v1], .r [.int v2], .r [.int v3]]=value_Size_b0 E (fun (v0:Int) (v1:C) (v2:Int) (v3:Int)=>X [.r [.int v0], .r [v1], .r [.int v2], .r [.int v3]]) v0 v1 v2 v3:=by kernel_rfl
def value_Size_a:AFun:={ps:=[lA2],rs:=[lI],res:=[(false,2,none)],body:=(.seq (.region [] [oq 1 (.boxP lA2 33 (.t 0)),
 oq 2 (.mov (.c lI [.int 0]))] false 0)
 (.seq (.region [] [oq 3 (.mov (.c lI [.int 1]))] false 0)
 (.seq (.seq (.region [] [oq 6 (.fad 3 1 33 31 (.t 1)),
 oq 7 (.ld (.one (.sl 74)) 31 (.t 6)),
 oq 8 (.lenL (.t 7)),
 oq 9 (.mov (.c lI [.int 0]))] false 0)
 (.block 0 (.loop value_Size_h0 value_Size_o0 value_Size_c0)))
 (.seq (.region [] [oq 19 (.mov (.t 3)),
 oq 2 (.mov (.t 19))] false 0)
 .ret))))}
noncomputable def value_Size (E:Env) (p0:Row):Option (List Row):=
 (value_Size_l0 E 1 (at_ p0 3) (((at_ p0 3).rows).length:Int) 0).bind fun x2=>
 some [[.int (gI 0 x2.2)]]
theorem value_Size_eq (E:Env) (p0:Row):runP E value_Size_a [p0]=value_Size E p0:=by kernel_rfl
def value_Deep_h0:Shape:={slots:=[(3, .d lI),(7, .d (.one (.sl 74))),(8, .d lI),(9, .d lI)],objs:=[]}
def value_Deep_o0:List (Exit'×Shape):=[(.exit 0,{slots:=[(3, .d lI)],objs:=[]})]
def value_Deep_c0:ACode:=(.seq (.region [] [oq 10 (.icmp .lss (.t 9) (.t 8))] false 0)
 (.seq (.cond (.t 10) .skip
 (.exit 0))
 (.seq (.block 1 (.seq (.region [] [oq 11 (.iad 74 lA1 (.t 7) (.t 9)),
 oq 12 (.ld lA1 74 (.t 11)),
 oq 5 (.allocO 0 lA1 [.str [], .int 0, .int 0, .str [], .nils]),
 ⟨none, .st lA1 (.t 5) (.t 12),none,[]⟩] false 1)
 (.region [] [oq 13 (.mov (.t 3)),
 oq 14 (.fad 1 4 74 33 (.t 5)),
 oq 15 (.ld lA2 33 (.t 14)),
 oq 16 (.call 52 [lA2] [lI] [(.t 15)]),
 oq 17 (.imin true [(.t 13),(.t 16)]),
 oq 3 (.mov (.t 17))] false 0)))
 (.region [] [oq 18 (.ibin .add (.t 9) (.c lI [.int 1])),
 oq 9 (.mov (.t 18))] false 0))))
noncomputable def value_Deep_l0 (E:Env) (v0:Int) (v1:C) (v2:Int) (v3:Int):Option (Nat×List PV):=E.fix (stepOf E value_Deep_c0 value_Deep_h0 value_Deep_o0) [.r [.int v0], .r [v1], .r [.int v2], .r [.int v3]]
noncomputable def value_Deep_b0 (E:Env) (X:Int→C→Int→Int→Option (Nat×List PV)) (v0:Int) (v1:C) (v2:Int) (v3:Int):Option (Nat×List PV):=
 if (decide (v3<v2))=true then
 if (0:Int)≤v3∧v3<(v1.rows.length:Int)then
 (E.pc n_value_Deep [[at_ (rowsAt v1.rows v3.toNat) 1,at_ (rowsAt v1.rows v3.toNat) 2,at_ (rowsAt v1.rows v3.toNat) 3,at_ (rowsAt v1.rows v3.toNat) 4]]).bind fun y1=>
 X (if ((at_ (rowsAt y1 0) 0).toI)>v0 then (at_ (rowsAt y1 0) 0).toI else v0) v1 v2 (Go.IntKind.i64.wrap (v3+1))
 else none
 else
 some (0,[.r [.int v0]])
theorem value_Deep_s0 (E:Env) (X:List PV→Option (Nat×List PV)) (v0:Int) (v1:C) (v2:Int) (v3:Int):stepOf E value_Deep_c0 value_Deep_h0 value_Deep_o0 X [.r [.int v0], .r [v1], .r [.int v2], .r [.int v3]]=value_Deep_b0 E (fun (v0:Int) (v1:C) (v2:Int) (v3:Int)=>X [.r [.int v0], .r [v1], .r [.int v2], .r [.int v3]]) v0 v1 v2 v3:=by kernel_rfl
def value_Deep_a:AFun:={ps:=[lA2],rs:=[lI],res:=[(false,2,none)],body:=(.seq (.region [] [oq 1 (.boxP lA2 33 (.t 0)),
 oq 2 (.mov (.c lI [.int 0]))] false 0)
 (.seq (.region [] [oq 3 (.mov (.c lI [.int 0]))] false 0)
 (.seq (.seq (.region [] [oq 6 (.fad 3 1 33 31 (.t 1)),
 oq 7 (.ld (.one (.sl 74)) 31 (.t 6)),
 oq 8 (.lenL (.t 7)),
 oq 9 (.mov (.c lI [.int 0]))] false 0)
 (.block 0 (.loop value_Deep_h0 value_Deep_o0 value_Deep_c0)))
 (.seq (.region [] [oq 19 (.mov (.t 3)),
 oq 20 (.ibin .add (.t 19) (.c lI [.int 1])),
 oq 2 (.mov (.t 20))] false 0)
 .ret))))}
noncomputable def value_Deep (E:Env) (p0:Row):Option (List Row):=
 (value_Deep_l0 E 0 (at_ p0 3) (((at_ p0 3).rows).length:Int) 0).bind fun x2=>
 some [[.int (Go.IntKind.i64.wrap ((gI 0 x2.2)+1))]]
theorem value_Deep_eq (E:Env) (p0:Row):runP E value_Deep_a [p0]=value_Deep E p0:=by kernel_rfl
def value_Scalar_a:AFun:={ps:=[lI],rs:=[lB],res:=[(false,2,none)],body:=(.seq (.region [] [oq 2 (.mov (.c lB [.bool false]))] false 0)
 (.seq (.region [] [oq 3 (.mov (.t 0)),
 oq 4 (.icmp .geq (.t 3) (.c lI [.int 0])),
 oq 5 (.mov (.t 4)),
 ⟨some 6, .mov (.t 0),some (5,true),[]⟩,
 ⟨some 7, .icmp .leq (.t 6) (.c lI [.int 5]),some (5,true),[]⟩,
 oq 8 (.pick (.t 5) (.t 7) (.c lB [.bool false])),
 oq 9 (.mov (.t 8)),
 ⟨some 10, .mov (.t 0),some (9,false),[]⟩,
 ⟨some 11, .icmp .eql (.t 10) (.c lI [.int 11]),some (9,false),[]⟩,
 oq 12 (.pick (.t 9) (.c lB [.bool true]) (.t 11)),
 oq 2 (.mov (.t 12))] false 0)
 .ret))}
noncomputable def value_Scalar (E:Env) (p0:Int):Option (List Row):=
 let K1:Bool→Option (List Row):=fun q2=>
 let K3:Bool→Option (List Row):=fun q4=>
 some [[.bool q4]]
 if q2=true then
 K3 true
 else
 K3 (p0==11)
 if (decide (p0≥0))=true then
 K1 (decide (p0≤5))
 else
 K1 false
theorem value_Scalar_eq (E:Env) (p0:Int):runP E value_Scalar_a [[.int p0]]=value_Scalar E p0:=by kernel_rfl
def value_unused_a:AFun:={ps:=[lA2],rs:=[lB],res:=[(false,2,none)],body:=(.seq (.region [] [oq 1 (.boxP lA2 33 (.t 0)),
 oq 2 (.mov (.c lB [.bool false]))] false 0)
 (.seq (.join [(.normal,{slots:=[(1, .d (.one (.ref 33))),(3, .d lB)],objs:=[]})] (.region [] [oq 4 (.fad 0 1 33 3 (.t 1)),
 oq 5 (.ld lI 3 (.t 4)),
 oq 6 (.icmp .geq (.t 5) (.c lI [.int 1])),
 oq 7 (.mov (.t 6)),
 ⟨some 8, .fad 0 1 33 3 (.t 1),some (7,true),[]⟩,
 ⟨some 9, .ld lI 3 (.t 8),some (7,true),[]⟩,
 ⟨some 10, .icmp .leq (.t 9) (.c lI [.int 4]),some (7,true),[]⟩,
 oq 11 (.pick (.t 7) (.t 10) (.c lB [.bool false])),
 oq 12 (.mov (.t 11)),
 ⟨some 13, .fad 0 1 33 3 (.t 1),some (12,false),[]⟩,
 ⟨some 14, .ld lI 3 (.t 13),some (12,false),[]⟩,
 ⟨some 15, .icmp .eql (.t 14) (.c lI [.int 11]),some (12,false),[]⟩,
 oq 16 (.pick (.t 12) (.c lB [.bool true]) (.t 15)),
 oq 3 (.mov (.t 16))] false 0))
 (.seq (.region [] [oq 17 (.mov (.t 3)),
 oq 18 (.not (.t 17)),
 oq 19 (.mov (.t 18)),
 ⟨some 20, .fad 1 1 33 3 (.t 1),some (19,true),[]⟩,
 ⟨some 21, .ld lI 3 (.t 20),some (19,true),[]⟩,
 ⟨some 22, .icmp .neq (.t 21) (.c lI [.int 0]),some (19,true),[]⟩,
 oq 23 (.pick (.t 19) (.t 22) (.c lB [.bool false])),
 oq 24 (.mov (.t 23)),
 ⟨some 25, .fad 0 1 33 3 (.t 1),some (24,false),[]⟩,
 ⟨some 26, .ld lI 3 (.t 25),some (24,false),[]⟩,
 ⟨some 27, .icmp .neq (.t 26) (.c lI [.int 5]),some (24,false),[]⟩,
 ⟨some 28, .mov (.t 27),some (24,false),[]⟩,
 ⟨some 29, .fad 2 1 33 9 (.t 1),some (28,true),[]⟩,
 ⟨some 30, .ld lS 9 (.t 29),some (28,true),[]⟩,
 ⟨some 31, .scmp .neq (.t 30) (.c lS [.str ([]:List UInt8)]),some (28,true),[]⟩,
 ⟨some 32, .pick (.t 28) (.t 31) (.c lB [.bool false]),some (24,false),[]⟩,
 oq 33 (.pick (.t 24) (.c lB [.bool true]) (.t 32)),
 oq 34 (.mov (.t 33)),
 ⟨some 35, .fad 0 1 33 3 (.t 1),some (34,false),[]⟩,
 ⟨some 36, .ld lI 3 (.t 35),some (34,false),[]⟩,
 ⟨some 37, .call 81 [lI] [lB] [(.t 36)],some (34,false),[]⟩,
 ⟨some 38, .mov (.t 37),some (34,false),[]⟩,
 ⟨some 39, .fad 3 1 33 31 (.t 1),some (38,true),[]⟩,
 ⟨some 40, .ld (.one (.sl 74)) 31 (.t 39),some (38,true),[]⟩,
 ⟨some 41, .lenL (.t 40),some (38,true),[]⟩,
 ⟨some 42, .icmp .gtr (.t 41) (.c lI [.int 0]),some (38,true),[]⟩,
 ⟨some 43, .pick (.t 38) (.t 42) (.c lB [.bool false]),some (34,false),[]⟩,
 oq 44 (.pick (.t 34) (.c lB [.bool true]) (.t 43)),
 oq 2 (.mov (.t 44))] false 0)
 .ret)))}
noncomputable def value_unused (E:Env) (p0:Row):Option (List Row):=
 (let K1:Bool→Option (Nat×List PV):=fun q2=>
 let K3:Bool→Option (Nat×List PV):=fun q4=>
 some (0,[.r [.dp p0], .r [.bool q4]])
 if q2=true then
 K3 true
 else
 K3 (((at_ p0 0).toI)==11)
 if (decide (((at_ p0 0).toI)≥1))=true then
 K1 (decide (((at_ p0 0).toI)≤4))
 else
 K1 false).bind fun x5=>
 let K6:Bool→Option (List Row):=fun q7=>
 let K8:Bool→Option (List Row):=fun q9=>
 let K10:Bool→Option (List Row):=fun q11=>
 some [[.bool q11]]
 if q9=true then
 K10 true
 else
 if (gC 0 x5.2).isDp=true then
 (E.pc n_value_Scalar [[.int ((at_ ((gC 0 x5.2).dpRow) 0).toI)]]).bind fun y12=>
 let K13:Bool→Option (List Row):=fun q14=>
 K10 q14
 if ((at_ (rowsAt y12 0) 0).toB)=true then
 if (gC 0 x5.2).isDp=true then
 K13 (decide ((((at_ ((gC 0 x5.2).dpRow) 3).rows).length:Int)>0))
 else none
 else
 K13 false
 else none
 if q7=true then
 K8 true
 else
 if (gC 0 x5.2).isDp=true then
 let K15:Bool→Option (List Row):=fun q16=>
 K8 q16
 if (((at_ ((gC 0 x5.2).dpRow) 0).toI) !=5)=true then
 if (gC 0 x5.2).isDp=true then
 K15 (!(((at_ ((gC 0 x5.2).dpRow) 2).toS)==([]:List UInt8)))
 else none
 else
 K15 false
 else none
 if (!(gB 1 x5.2))=true then
 if (gC 0 x5.2).isDp=true then
 K6 (((at_ ((gC 0 x5.2).dpRow) 1).toI) !=0)
 else none
 else
 K6 false
theorem value_unused_eq (E:Env) (p0:Row):runP E value_unused_a [p0]=value_unused E p0:=by kernel_rfl
def value_number_a:AFun:={ps:=[lA2],rs:=[lB],res:=[(false,2,none)],body:=(.seq (.region [] [oq 1 (.boxP lA2 33 (.t 0)),
 oq 2 (.mov (.c lB [.bool false]))] false 0)
 (.seq (.seq (.region [] [oq 3 (.fad 0 1 33 3 (.t 1)),
 oq 4 (.ld lI 3 (.t 3))] false 0)
 (.block 0 (.seq (.region [] [oq 6 (.icmp .eql (.t 4) (.c lI [.int 1])),
 oq 5 (.mov (.t 6))] false 0)
 (.cond (.t 5) (.seq (.region [] [oq 7 (.fad 1 1 33 3 (.t 1)),
 oq 8 (.ld lI 3 (.t 7)),
 oq 9 (.icmp .eql (.t 8) (.c lI [.int 0])),
 oq 10 (.mov (.t 9)),
 ⟨some 11, .fad 1 1 33 3 (.t 1),some (10,false),[]⟩,
 ⟨some 12, .ld lI 3 (.t 11),some (10,false),[]⟩,
 ⟨some 13, .icmp .eql (.t 12) (.c lI [.int 1]),some (10,false),[]⟩,
 oq 14 (.pick (.t 10) (.c lB [.bool true]) (.t 13)),
 oq 2 (.mov (.t 14))] false 0)
 .ret)
 (.seq (.region [] [oq 16 (.icmp .eql (.t 4) (.c lI [.int 2])),
 oq 15 (.mov (.t 16))] false 0)
 (.cond (.t 15) (.seq (.region [] [oq 17 (.fad 1 1 33 3 (.t 1)),
 oq 18 (.ld lI 3 (.t 17)),
 oq 19 (.icmp .geq (.t 18) (.c lI [.int (-9007199254740992)])),
 oq 20 (.mov (.t 19)),
 ⟨some 21, .fad 1 1 33 3 (.t 1),some (20,true),[]⟩,
 ⟨some 22, .ld lI 3 (.t 21),some (20,true),[]⟩,
 ⟨some 23, .icmp .leq (.t 22) (.c lI [.int 9007199254740992]),some (20,true),[]⟩,
 oq 24 (.pick (.t 20) (.t 23) (.c lB [.bool false])),
 oq 2 (.mov (.t 24))] false 0)
 .ret)
 (.seq (.region [] [oq 26 (.icmp .eql (.t 4) (.c lI [.int 4])),
 oq 25 (.mov (.t 26))] false 0)
 (.cond (.t 25) (.seq (.region [] [oq 27 (.fad 1 1 33 3 (.t 1)),
 oq 28 (.ld lI 3 (.t 27)),
 oq 29 (.icmp .geq (.t 28) (.c lI [.int 0])),
 oq 30 (.mov (.t 29)),
 ⟨some 31, .fad 1 1 33 3 (.t 1),some (30,true),[]⟩,
 ⟨some 32, .ld lI 3 (.t 31),some (30,true),[]⟩,
 ⟨some 33, .icmp .leq (.t 32) (.c lI [.int 4194304]),some (30,true),[]⟩,
 oq 34 (.pick (.t 30) (.t 33) (.c lB [.bool false])),
 oq 2 (.mov (.t 34))] false 0)
 .ret)
 (.seq (.region [] [oq 36 (.icmp .eql (.t 4) (.c lI [.int 11])),
 oq 35 (.mov (.t 36))] false 0)
 (.cond (.t 35) (.seq (.region [] [oq 37 (.fad 1 1 33 3 (.t 1)),
 oq 38 (.ld lI 3 (.t 37)),
 oq 39 (.icmp .geq (.t 38) (.c lI [.int 0])),
 oq 40 (.mov (.t 39)),
 ⟨some 41, .fad 1 1 33 3 (.t 1),some (40,true),[]⟩,
 ⟨some 42, .ld lI 3 (.t 41),some (40,true),[]⟩,
 ⟨some 43, .icmp .leq (.t 42) (.c lI [.int 9007199254740992]),some (40,true),[]⟩,
 oq 44 (.pick (.t 40) (.t 43) (.c lB [.bool false])),
 oq 2 (.mov (.t 44))] false 0)
 .ret)
 .skip))))))))))
 (.seq (.region [] [oq 2 (.mov (.c lB [.bool true]))] false 0)
 .ret)))}
noncomputable def value_number (E:Env) (p0:Row):Option (List Row):=
 if (((at_ p0 0).toI)==1)=true then
 let K1:Bool→Option (List Row):=fun q2=>
 some [[.bool q2]]
 if (((at_ p0 1).toI)==0)=true then
 K1 true
 else
 K1 (((at_ p0 1).toI)==1)
 else
 if (((at_ p0 0).toI)==2)=true then
 let K3:Bool→Option (List Row):=fun q4=>
 some [[.bool q4]]
 if (decide (((at_ p0 1).toI)≥(-9007199254740992)))=true then
 K3 (decide (((at_ p0 1).toI)≤9007199254740992))
 else
 K3 false
 else
 if (((at_ p0 0).toI)==4)=true then
 let K5:Bool→Option (List Row):=fun q6=>
 some [[.bool q6]]
 if (decide (((at_ p0 1).toI)≥0))=true then
 K5 (decide (((at_ p0 1).toI)≤4194304))
 else
 K5 false
 else
 if (((at_ p0 0).toI)==11)=true then
 let K7:Bool→Option (List Row):=fun q8=>
 some [[.bool q8]]
 if (decide (((at_ p0 1).toI)≥0))=true then
 K7 (decide (((at_ p0 1).toI)≤9007199254740992))
 else
 K7 false
 else
 some [[.bool true]]
theorem value_number_eq (E:Env) (p0:Row):runP E value_number_a [p0]=value_number E p0:=by kernel_rfl
end Go.Ev
