/-
  A part of the proof: what the functions of the program compute.
-/
import Derived.Test.YtgiibefjiloafaaGreatDoorZNum
set_option linter.all false
set_option maxRecDepth 100000
namespace Go.Ev
def pattern_build_h2:Shape:={slots:=[(2, .ptr 0 0),(4, .d (.one (.ref 174))),(7, .map 1),(8, .sw 2),(9, .ptr 3 0),(10, .d (.one (.ref 215))),(11, .d lI),(12, .ptr 4 0),(13, .ptr 5 0),(14, .d lI),(15, .ptr 6 0),(46, .d lI),(50, .d lI)],objs:=[.var lA5, .map lA3 (.one (.int .i16)), .sarr 170 lA3, .cells false [.sw 7, .sw 8], .var (.agg (List.replicate 256 (.int .i16))), .var lA3, .var lA3, .sarr 133 (.agg (List.replicate 256 (.int .i16))), .sarr 4 lB]}
def pattern_build_o2:List (Exit'×Shape):=[(.exit 4,{slots:=[(2, .ptr 0 0),(4, .d (.one (.ref 174))),(7, .map 1),(8, .sw 2),(9, .ptr 3 0),(10, .d (.one (.ref 215))),(11, .d lI),(12, .ptr 4 0),(13, .ptr 5 0),(14, .d lI),(15, .ptr 6 0),(46, .d lI)],objs:=[.var lA5, .map lA3 (.one (.int .i16)), .sarr 170 lA3, .cells false [.sw 7, .sw 8], .var (.agg (List.replicate 256 (.int .i16))), .var lA3, .var lA3, .sarr 133 (.agg (List.replicate 256 (.int .i16))), .sarr 4 lB]})]
def pattern_build_c2:ACode:=(.seq (.region [] [oq 51 (.icmp .lss (.t 50) (.c lI [.int 4]))] false 0)
 (.seq (.cond (.t 51) .skip
 (.exit 4))
 (.seq (.block 5 (.seq (.region [] [oq 52 (.mov (.t 50)),
 oq 16 (.mov (.t 52))] false 0)
 (.region [] [oq 53 (.mov (.t 16)),
 ⟨some 54, .iadA 4 170 135 lW (.t 15) (.t 53),none,[0]⟩,
 ⟨some 55, .ld lW 135 (.t 54),none,[0,1]⟩,
 oq 56 (.mov (.t 10)),
 oq 57 (.mov (.t 14)),
 oq 58 (.mov (.t 16)),
 ⟨some 59, .nchk (.t 56),none,[3]⟩,
 ⟨some 60, .iadA 256 215 170 lA3 (.t 59) (.t 57),none,[3,4,6]⟩,
 ⟨some 61, .iadA 4 170 135 lW (.t 60) (.t 58),none,[3,4,5,6,7]⟩,
 ⟨some 62, .ld lW 135 (.t 61),none,[3,4,5,6,7,8]⟩,
 ⟨some 63, .ibin .and (.t 55) (.t 62),none,[0,1,2,3,4,5,6,7,8,9]⟩,
 ⟨some 64, .iadA 4 170 135 lW (.t 15) (.t 53),none,[0,1,2,3,4,5,6,7,8,9,10]⟩,
 ⟨none, .st lW (.t 64) (.t 63),none,[0,1,2,3,4,5,6,7,8,9,10,11]⟩] true 0)))
 (.region [] [oq 65 (.ibin .add (.t 50) (.c lI [.int 1])),
 oq 50 (.mov (.t 65))] false 0))))
noncomputable def pattern_build_l2 (E:Env) (v0:C) (v1:C) (v2:Int) (v3:Int) (v4:Int) (v5:Int) (v6:Row) (v7:List (Row×Row)) (v8:C) (v9:Row) (v10:Row) (v11:Row) (v12:C) (v13:C):Option (Nat×List PV):=E.fix (stepOf E pattern_build_c2 pattern_build_h2 pattern_build_o2) [.r [v0], .r [v1], .r [.int v2], .r [.int v3], .r [.int v4], .r [.int v5], .r v6, .m v7, .r [v8], .r v9, .r v10, .r v11, .r [v12], .r [v13]]
noncomputable def pattern_build_b2 (E:Env) (X:C→C→Int→Int→Int→Int→Row→List (Row×Row)→C→Row→Row→Row→C→C→Option (Nat×List PV)) (v0:C) (v1:C) (v2:Int) (v3:Int) (v4:Int) (v5:Int) (v6:Row) (v7:List (Row×Row)) (v8:C) (v9:Row) (v10:Row) (v11:Row) (v12:C) (v13:C):Option (Nat×List PV):=
 if (decide (v5<4))=true then
 if (0:Int)≤v5∧v5<(4:Int)then
 part lW lA3 (0+(v5.toNat*1)) v11 fun y5=>
 if v1.isDp=true then
 if (0:Int)≤v3∧v3<(256:Int)∧v1.isDp=true then
 if (0:Int)≤v5∧v5<(4:Int)∧(C.dp [at_ v1.dpRow (v3.toNat*4),at_ v1.dpRow (v3.toNat*4+1),at_ v1.dpRow (v3.toNat*4+2),at_ v1.dpRow (v3.toNat*4+3)]).isDp=true then
 if (0:Int)≤v5∧v5<(4:Int)then
 turn lW lA3 (0+(v5.toNat*1)) v11 [.int (bitsOf .and .u64 ((at_ y5 0).toI) ((at_ [at_ v1.dpRow (v3.toNat*4),at_ v1.dpRow (v3.toNat*4+1),at_ v1.dpRow (v3.toNat*4+2),at_ v1.dpRow (v3.toNat*4+3)] (v5.toNat*1)).toI))] fun r6=>
 X v0 v1 v2 v3 v4 (Go.IntKind.i64.wrap (v5+1)) v6 v7 v8 v9 v10 r6 v12 v13
 else none
 else none
 else none
 else none
 else none
 else
 some (0,[.r [v0], .r [v1], .r [.int v2], .r [.int v3], .r [.int v4], .r v6, .m v7, .r [v8], .r v9, .r v10, .r v11, .r [v12], .r [v13]])
theorem pattern_build_s2 (E:Env) (X:List PV→Option (Nat×List PV)) (v0:C) (v1:C) (v2:Int) (v3:Int) (v4:Int) (v5:Int) (v6:Row) (v7:List (Row×Row)) (v8:C) (v9:Row) (v10:Row) (v11:Row) (v12:C) (v13:C):stepOf E pattern_build_c2 pattern_build_h2 pattern_build_o2 X [.r [v0], .r [v1], .r [.int v2], .r [.int v3], .r [.int v4], .r [.int v5], .r v6, .m v7, .r [v8], .r v9, .r v10, .r v11, .r [v12], .r [v13]]=pattern_build_b2 E (fun (v0:C) (v1:C) (v2:Int) (v3:Int) (v4:Int) (v5:Int) (v6:Row) (v7:List (Row×Row)) (v8:C) (v9:Row) (v10:Row) (v11:Row) (v12:C) (v13:C)=>X [.r [v0], .r [v1], .r [.int v2], .r [.int v3], .r [.int v4], .r [.int v5], .r v6, .m v7, .r [v8], .r v9, .r v10, .r v11, .r [v12], .r [v13]]) v0 v1 v2 v3 v4 v5 v6 v7 v8 v9 v10 v11 v12 v13:=by kernel_rfl
def pattern_build_h1:Shape:={slots:=[(2, .ptr 0 0),(4, .d (.one (.ref 174))),(7, .map 1),(8, .sw 2),(9, .ptr 3 0),(10, .d (.one (.ref 215))),(11, .d lI),(12, .ptr 4 0),(13, .ptr 5 0),(46, .d lI)],objs:=[.var lA5, .map lA3 (.one (.int .i16)), .sarr 170 lA3, .cells false [.sw 6, .sw 7], .var (.agg (List.replicate 256 (.int .i16))), .var lA3, .sarr 133 (.agg (List.replicate 256 (.int .i16))), .sarr 4 lB]}
def pattern_build_o1:List (Exit'×Shape):=[(.exit 2,{slots:=[(2, .ptr 0 0),(4, .d (.one (.ref 174))),(7, .map 1),(8, .sw 2),(9, .ptr 3 0),(10, .d (.one (.ref 215))),(11, .d lI),(12, .ptr 4 0)],objs:=[.var lA5, .map lA3 (.one (.int .i16)), .sarr 170 lA3, .cells false [.sw 5, .sw 6], .var (.agg (List.replicate 256 (.int .i16))), .sarr 133 (.agg (List.replicate 256 (.int .i16))), .sarr 4 lB]}),(.ret,{slots:=[(2, .ptr 0 0),(3, .d lI)],objs:=[.var lA5]})]
def pattern_build_c1:ACode:=(.seq (.region [] [oq 47 (.icmp .lss (.t 46) (.c lI [.int 256]))] false 0)
 (.seq (.cond (.t 47) .skip
 (.exit 2))
 (.seq (.block 3 (.seq (.region [] [oq 48 (.mov (.t 46)),
 oq 14 (.mov (.t 48))] false 0)
 (.seq (.region [] [oq 49 (.ld lA3 170 (.t 13)),
 oq 15 (.allocO 0 lA3 [.int 0, .int 0, .int 0, .int 0]),
 ⟨none, .st lA3 (.t 15) (.t 49),none,[]⟩] false 1)
 (.seq (.seq (.region [] [oq 50 (.mov (.c lI [.int 0]))] false 0)
 (.block 4 (.loop pattern_build_h2 pattern_build_o2 pattern_build_c2)))
 (.seq (.region [] [oq 67 (.mov (.t 7)),
 oq 68 (.ld lA3 170 (.t 15)),
 oq 69 (.lk lA3 (.one (.int .i16)) [.int 0] (.t 67) (.t 68) true),
 oq 66 (.mov (.t 69)),
 oq 70 (.ext 0 (.t 66)),
 oq 71 (.ext 1 (.t 66)),
 oq 17 (.mov (.t 70)),
 oq 18 (.mov (.t 71))] false 0)
 (.seq (.seq (.region [] [oq 72 (.mov (.t 18)),
 oq 73 (.not (.t 72))] false 0)
 (.cond (.t 73) (.seq (.region [] [oq 74 (.mov (.t 8)),
 oq 75 (.lenL (.t 74)),
 oq 76 (.i2i .i16 (.t 75)),
 oq 17 (.mov (.t 76))] false 0)
 (.seq (.region [] [oq 77 (.mov (.t 7)),
 oq 78 (.ld lA3 170 (.t 15)),
 oq 79 (.mov (.t 17)),
 ⟨none, .mup lA3 (.t 77) (.t 78) (.t 79),none,[]⟩] false 0)
 (.seq (.region [] [oq 80 (.mov (.t 8)),
 oq 81 (.ld lA3 170 (.t 15)),
 oq 82 (.bsl 170 lA3 1 [.int 0, .int 0, .int 0, .int 0] [(0,(.t 81))]),
 oq 83 (.appW 0 170 lA3 32 (.t 80) (.t 82)),
 oq 8 (.mov (.t 83))] false 1)
 (.seq (.region [] [oq 84 (.mov (.t 8)),
 oq 85 (.lenL (.t 84)),
 oq 86 (.icmp .gtr (.t 85) (.c lI [.int 400]))] false 0)
 (.cond (.t 86) (.seq (.region [] [oq 87 (.bld lA5 [.nils, .nils] []),
 ⟨none, .st lA5 (.t 2) (.t 87),none,[]⟩,
 oq 3 (.mov (.c lI [.int 2]))] false 0)
 .ret)
 .skip)))))
 .skip))
 (.region [] [oq 88 (.mov (.t 14)),
 oq 89 (.mov (.t 17)),
 oq 90 (.iadA 256 133 132 (.one (.int .i16)) (.t 12) (.t 88)),
 ⟨none, .st (.one (.int .i16)) (.t 90) (.t 89),none,[]⟩] false 0)))))))
 (.region [] [oq 91 (.ibin .add (.t 46) (.c lI [.int 1])),
 oq 46 (.mov (.t 91))] false 0))))
noncomputable def pattern_build_l1 (E:Env) (v0:C) (v1:C) (v2:Int) (v3:Int) (v4:Row) (v5:List (Row×Row)) (v6:C) (v7:Row) (v8:Row) (v9:C) (v10:C):Option (Nat×List PV):=E.fix (stepOf E pattern_build_c1 pattern_build_h1 pattern_build_o1) [.r [v0], .r [v1], .r [.int v2], .r [.int v3], .r v4, .m v5, .r [v6], .r v7, .r v8, .r [v9], .r [v10]]
noncomputable def pattern_build_b1 (E:Env) (X:C→C→Int→Int→Row→List (Row×Row)→C→Row→Row→C→C→Option (Nat×List PV)) (v0:C) (v1:C) (v2:Int) (v3:Int) (v4:Row) (v5:List (Row×Row)) (v6:C) (v7:Row) (v8:Row) (v9:C) (v10:C):Option (Nat×List PV):=
 if (decide (v3<256))=true then
 (pattern_build_l2 E v0 v1 v2 v3 v3 0 v4 v5 v6 v7 v8 v8 v9 v10).bind fun x7=>
 if (!((findE lA3 (gR 10 x7.2) (gM 6 x7.2)).isSome))=true then
 if (((gC 7 x7.2).rows).length+([gR 10 x7.2]:List Row).length)*32≤140737488355328 then
 if (decide ((((appC (gC 7 x7.2) ([gR 10 x7.2]:List Row)).rows).length:Int)>400))=true then
 some (1,[.r [.int 2], .r [.nils, .nils]])
 else
 if (0:Int)≤(gI 3 x7.2)∧(gI 3 x7.2)<(256:Int)then
 turn (.one (.int .i16)) (.agg (List.replicate 256 (.int .i16))) (0+(((gI 3 x7.2).toNat)*1)) (gR 8 x7.2) [.int (Go.IntKind.i16.wrap (((gC 7 x7.2).rows).length:Int))] fun r8=>
 X (gC 0 x7.2) (gC 1 x7.2) (gI 2 x7.2) (Go.IntKind.i64.wrap ((gI 4 x7.2)+1)) (gR 5 x7.2) (setE lA3 (gR 10 x7.2) [.int (Go.IntKind.i16.wrap (((gC 7 x7.2).rows).length:Int))] (gM 6 x7.2)) (appC (gC 7 x7.2) ([gR 10 x7.2]:List Row)) r8 (gR 9 x7.2) (gC 11 x7.2) (gC 12 x7.2)
 else none
 else none
 else
 if (0:Int)≤(gI 3 x7.2)∧(gI 3 x7.2)<(256:Int)then
 turn (.one (.int .i16)) (.agg (List.replicate 256 (.int .i16))) (0+(((gI 3 x7.2).toNat)*1)) (gR 8 x7.2) [.int ((at_ ((findE lA3 (gR 10 x7.2) (gM 6 x7.2)).getD [.int 0]) 0).toI)] fun r9=>
 X (gC 0 x7.2) (gC 1 x7.2) (gI 2 x7.2) (Go.IntKind.i64.wrap ((gI 4 x7.2)+1)) (gR 5 x7.2) (gM 6 x7.2) (gC 7 x7.2) r9 (gR 9 x7.2) (gC 11 x7.2) (gC 12 x7.2)
 else none
 else
 some (0,[.r [v0], .r [v1], .r [.int v2], .r v4, .m v5, .r [v6], .r v7, .r [v9], .r [v10]])
theorem pattern_build_s1 (E:Env) (X:List PV→Option (Nat×List PV)) (v0:C) (v1:C) (v2:Int) (v3:Int) (v4:Row) (v5:List (Row×Row)) (v6:C) (v7:Row) (v8:Row) (v9:C) (v10:C):stepOf E pattern_build_c1 pattern_build_h1 pattern_build_o1 X [.r [v0], .r [v1], .r [.int v2], .r [.int v3], .r v4, .m v5, .r [v6], .r v7, .r v8, .r [v9], .r [v10]]=pattern_build_b1 E (fun (v0:C) (v1:C) (v2:Int) (v3:Int) (v4:Row) (v5:List (Row×Row)) (v6:C) (v7:Row) (v8:Row) (v9:C) (v10:C)=>X [.r [v0], .r [v1], .r [.int v2], .r [.int v3], .r v4, .m v5, .r [v6], .r v7, .r v8, .r [v9], .r [v10]]) v0 v1 v2 v3 v4 v5 v6 v7 v8 v9 v10:=by kernel_rfl
def pattern_build_h0:Shape:={slots:=[(2, .ptr 0 0),(4, .d (.one (.ref 174))),(7, .map 1),(8, .sw 2),(9, .ptr 3 0),(10, .d (.one (.ref 215))),(11, .d lI)],objs:=[.var lA5, .map lA3 (.one (.int .i16)), .sarr 170 lA3, .cells false [.sw 4, .sw 5], .sarr 133 (.agg (List.replicate 256 (.int .i16))), .sarr 4 lB]}
def pattern_build_o0:List (Exit'×Shape):=[(.exit 0,{slots:=[(2, .ptr 0 0),(9, .ptr 1 0)],objs:=[.var lA5, .cells false [.sw 2, .sw 3], .sarr 133 (.agg (List.replicate 256 (.int .i16))), .sarr 4 lB]}),(.ret,{slots:=[(2, .ptr 0 0),(3, .d lI)],objs:=[.var lA5]})]
def pattern_build_c0:ACode:=(.seq (.seq (.region [] [oq 35 (.mov (.t 11)),
 oq 36 (.mov (.t 8)),
 oq 37 (.lenL (.t 36)),
 oq 38 (.icmp .lss (.t 35) (.t 37))] false 0)
 (.cond (.t 38) .skip
 (.exit 0)))
 (.seq (.block 1 (.seq (.region [] [oq 12 (.allocO 0 (.agg (List.replicate 256 (.int .i16))) (List.replicate 256 (C.int 0)))] false 1)
 (.seq (.region [] [oq 41 (.mov (.t 8)),
 oq 42 (.mov (.t 11)),
 oq 43 (.iad 170 lA3 (.t 41) (.t 42)),
 oq 44 (.ld lA3 170 (.t 43)),
 oq 45 (.call 129 [(.one (.ref 174)),lA3] [lA3] [(.t 4),(.t 44)]),
 oq 13 (.allocO 0 lA3 [.int 0, .int 0, .int 0, .int 0]),
 ⟨none, .st lA3 (.t 13) (.t 45),none,[]⟩] false 1)
 (.seq (.seq (.region [] [oq 46 (.mov (.c lI [.int 0]))] false 0)
 (.block 2 (.loop pattern_build_h1 pattern_build_o1 pattern_build_c1)))
 (.seq (.region [] [oq 92 (.fad 0 1 113 110 (.t 9)),
 oq 93 (.ldC (.t 92)),
 oq 94 (.ld (.agg (List.replicate 256 (.int .i16))) 133 (.t 12)),
 oq 95 (.bsl 133 (.agg (List.replicate 256 (.int .i16))) 1 (List.replicate 256 (C.int 0)) [(0,(.t 94))]),
 oq 96 (.appW 0 133 (.agg (List.replicate 256 (.int .i16))) 512 (.t 93) (.t 95)),
 oq 97 (.fad 0 1 113 110 (.t 9)),
 ⟨none, .stC (.t 97) (.t 96),none,[]⟩] false 1)
 (.region [] [oq 98 (.fad 1 1 113 111 (.t 9)),
 ⟨some 99, .ldC (.t 98),none,[0]⟩,
 oq 100 (.mov (.t 8)),
 oq 101 (.mov (.t 11)),
 ⟨some 102, .iad 170 lA3 (.t 100) (.t 101),none,[2,3]⟩,
 ⟨some 103, .ld lA3 170 (.t 102),none,[2,3,4]⟩,
 ⟨some 104, .call 130 [(.one (.ref 174)),lA3] [lB] [(.t 4),(.t 103)],none,[2,3,4,5]⟩,
 ⟨some 105, .bsl 4 lB 1 [.bool false] [(0,(.t 104))],none,[2,3,4,5,6]⟩,
 ⟨some 106, .appW 0 4 lB 1 (.t 99) (.t 105),none,[0,1,2,3,4,5,6,7]⟩,
 ⟨some 107, .fad 1 1 113 111 (.t 9),none,[0,1,2,3,4,5,6,7,8]⟩,
 ⟨none, .stC (.t 107) (.t 106),none,[0,1,2,3,4,5,6,7,8,9]⟩] true 1))))))
 (.region [] [oq 39 (.mov (.t 11)),
 oq 40 (.ibin .add (.t 39) (.c lI [.int 1])),
 oq 11 (.mov (.t 40))] false 0)))
noncomputable def pattern_build_l0 (E:Env) (v0:C) (v1:C) (v2:Int) (v3:Row) (v4:List (Row×Row)) (v5:C) (v6:C) (v7:C):Option (Nat×List PV):=E.fix (stepOf E pattern_build_c0 pattern_build_h0 pattern_build_o0) [.r [v0], .r [v1], .r [.int v2], .r v3, .m v4, .r [v5], .r [v6], .r [v7]]
noncomputable def pattern_build_b0 (E:Env) (X:C→C→Int→Row→List (Row×Row)→C→C→C→Option (Nat×List PV)) (v0:C) (v1:C) (v2:Int) (v3:Row) (v4:List (Row×Row)) (v5:C) (v6:C) (v7:C):Option (Nat×List PV):=
 if (decide (v2<(v5.rows.length:Int)))=true then
 if (0:Int)≤v2∧v2<(v5.rows.length:Int)then
 (E.pc n_pattern_plan_behind [[v0],rowsAt v5.rows v2.toNat]).bind fun y4=>
 (pattern_build_l1 E v0 v1 v2 0 v3 v4 v5 (List.replicate 256 (C.int 0)) (rowsAt y4 0) v6 v7).bind fun x10=>
 match x10.1 with
 |0=>
 if (((gC 7 x10.2).rows).length+([gR 6 x10.2]:List Row).length)*512≤140737488355328 then
 if (0:Int)≤(gI 2 x10.2)∧(gI 2 x10.2)<(((gC 5 x10.2).rows).length:Int)then
 (E.pc n_pattern_plan_ends [[gC 0 x10.2],rowsAt ((gC 5 x10.2).rows) ((gI 2 x10.2).toNat)]).bind fun y12=>
 if (((gC 8 x10.2).rows).length+([[.bool ((at_ (rowsAt y12 0) 0).toB)]]:List Row).length)*1≤140737488355328 then
 X (gC 0 x10.2) (gC 1 x10.2) (Go.IntKind.i64.wrap ((gI 2 x10.2)+1)) (gR 3 x10.2) (gM 4 x10.2) (gC 5 x10.2) (appC (gC 7 x10.2) ([gR 6 x10.2]:List Row)) (appC (gC 8 x10.2) ([[.bool ((at_ (rowsAt y12 0) 0).toB)]]:List Row))
 else none
 else none
 else none
 |i11+1=>
 some (1,[.r [.int (gI 0 x10.2)], .r (gR 1 x10.2)])
 else none
 else
 some (0,[.r v3, .r [v6], .r [v7]])
theorem pattern_build_s0 (E:Env) (X:List PV→Option (Nat×List PV)) (v0:C) (v1:C) (v2:Int) (v3:Row) (v4:List (Row×Row)) (v5:C) (v6:C) (v7:C):stepOf E pattern_build_c0 pattern_build_h0 pattern_build_o0 X [.r [v0], .r [v1], .r [.int v2], .r v3, .m v4, .r [v5], .r [v6], .r [v7]]=pattern_build_b0 E (fun (v0:C) (v1:C) (v2:Int) (v3:Row) (v4:List (Row×Row)) (v5:C) (v6:C) (v7:C)=>X [.r [v0], .r [v1], .r [.int v2], .r v3, .m v4, .r [v5], .r [v6], .r [v7]]) v0 v1 v2 v3 v4 v5 v6 v7:=by kernel_rfl
def pattern_build_a:AFun:={ps:=[lS],rs:=[lA5,lI],res:=[(true,2,none),(false,3,none)],body:=(.seq (.region [] [oq 2 (.allocO 0 lA5 [.nils, .nils]),
 oq 3 (.mov (.c lI [.int 0]))] false 1)
 (.seq (.region [] [oq 20 (.mov (.t 0)),
 oq 21 (.call 126 [lS] [lA2,lI] [(.t 20)]),
 oq 19 (.mov (.t 21)),
 oq 22 (.ext 0 (.t 19)),
 oq 23 (.ext 1 (.t 19)),
 oq 4 (.allocO 0 lA2 [.nils, .nils, .bool false, .int 0, .int 0, .int 0, .int 0, .int 0, .int 0, .int 0, .int 0]),
 ⟨none, .st lA2 (.t 4) (.t 22),none,[]⟩,
 oq 5 (.mov (.t 23))] false 1)
 (.seq (.seq (.region [] [oq 24 (.mov (.t 5)),
 oq 25 (.icmp .neq (.t 24) (.c lI [.int 0]))] false 0)
 (.cond (.t 25) (.seq (.region [] [oq 26 (.bld lA5 [.nils, .nils] []),
 oq 27 (.mov (.t 5)),
 ⟨none, .st lA5 (.t 2) (.t 26),none,[]⟩,
 oq 3 (.mov (.t 27))] false 0)
 .ret)
 .skip))
 (.seq (.region [] [oq 6 (.allocO 0 lA3 [.int 0, .int 0, .int 0, .int 0])] false 1)
 (.seq (.region [] [oq 28 (.icall 217 127 (pattern_set_add_i0_en) (pattern_set_add_i0_ex) [2] 0 none [(.t 6),(.c lI [.int 0])])] false 0)
 (.seq (.region [] [oq 29 (.mkm 0 lA3 (.one (.int .i16))),
 oq 30 (.ld lA3 170 (.t 6)),
 ⟨none, .mup lA3 (.t 29) (.t 30) (.c (.one (.int .i16)) [.int 0]),none,[]⟩,
 oq 31 (.mov (.t 29)),
 oq 7 (.mov (.t 31))] false 1)
 (.seq (.region [] [oq 32 (.ld lA3 170 (.t 6)),
 oq 33 (.bslS 0 170 lA3 1 [.int 0, .int 0, .int 0, .int 0] [(0,(.t 32))]),
 oq 8 (.mov (.t 33))] false 1)
 (.seq (.post (.lft 9 (some 1) 4 lB) (.post (.lft 9 (some 0) 133 (.agg (List.replicate 256 (.int .i16)))) (.region [] [oq 9 (.allocA 0 [some ((.sl 133), .nils),some ((.sl 4), .nils)])] false 1)))
 (.seq (.region [(4,174,some lA2)] [oq 34 (.call 128 [(.one (.ref 174))] [(.one (.ref 215))] [(.t 4)]),
 oq 10 (.mov (.t 34))] false 0)
 (.seq (.seq (.region [] [oq 11 (.mov (.c lI [.int 0]))] false 0)
 (.block 0 (.loop pattern_build_h0 pattern_build_o0 pattern_build_c0)))
 (.seq (.region [] [oq 108 (.ldA 2 (.t 9)),
 ⟨none, .st lA5 (.t 2) (.t 108),none,[]⟩,
 oq 3 (.mov (.c lI [.int 0]))] false 0)
 .ret)))))))))))}
noncomputable def pattern_build (E:Env) (p0:List UInt8):Option (List Row):=
 (E.pc n_pattern_parse [[.str p0]]).bind fun y1=>
 if (((at_ (rowsAt y1 1) 0).toI) !=0)=true then
 some [[.nils, .nils],[.int ((at_ (rowsAt y1 1) 0).toI)]]
 else
 (E.ic pattern_set_add_i0_n [.r [.int 0], .r [.int 0, .int 0, .int 0, .int 0]]).bind fun y2=>
 (E.pc n_pattern_plan_at [[.dp (rowsAt y1 0)]]).bind fun y3=>
 (pattern_build_l0 E (.dp (rowsAt y1 0)) (at_ (rowsAt y3 0) 0) 0 [.nils, .nils] (setE lA3 (gR 0 y2) [.int 0] []) (.sl ([gR 0 y2]:List Row)) .nils .nils).bind fun x13=>
 match x13.1 with
 |0=>
 some [[gC 1 x13.2,gC 2 x13.2],[.int 0]]
 |i14+1=>
 some [gR 1 x13.2,[.int (gI 0 x13.2)]]
theorem pattern_build_eq (E:Env) (p0:List UInt8):runP E pattern_build_a [[.str p0]]=pattern_build E p0:=by kernel_rfl
def pattern_Check_a:AFun:={ps:=[lS],rs:=[lI],res:=[(false,2,none)],body:=(.seq (.region [] [oq 2 (.mov (.c lI [.int 0]))] false 0)
 (.seq (.region [] [oq 6 (.mov (.t 0)),
 oq 7 (.call 104 [lS] [lA5,lI] [(.t 6)]),
 oq 5 (.mov (.t 7)),
 oq 8 (.ext 0 (.t 5)),
 oq 9 (.ext 1 (.t 5)),
 oq 3 (.allocO 0 lA5 [.nils, .nils]),
 ⟨none, .st lA5 (.t 3) (.t 8),none,[]⟩,
 oq 4 (.mov (.t 9))] false 1)
 (.seq (.region [] [oq 10 (.mov (.t 4)),
 oq 2 (.mov (.t 10))] false 0)
 .ret)))}
noncomputable def pattern_Check (E:Env) (p0:List UInt8):Option (List Row):=
 (E.pc n_pattern_build [[.str p0]]).bind fun y1=>
 some [[.int ((at_ (rowsAt y1 1) 0).toI)]]
theorem pattern_Check_eq (E:Env) (p0:List UInt8):runP E pattern_Check_a [[.str p0]]=pattern_Check E p0:=by kernel_rfl
def types_bounds_a:AFun:={ps:=[lI],rs:=[lI,lI],res:=[(false,2,none),(false,3,none)],body:=(.seq (.region [] [oq 2 (.mov (.c lI [.int 0])),
 oq 3 (.mov (.c lI [.int 0]))] false 0)
 (.seq (.seq (.region [] [oq 4 (.mov (.t 0))] false 0)
 (.block 0 (.seq (.region [] [oq 6 (.icmp .eql (.t 4) (.c lI [.int 1])),
 oq 5 (.mov (.t 6))] false 0)
 (.cond (.t 5) (.seq (.region [] [oq 2 (.mov (.c lI [.int 0])),
 oq 3 (.mov (.c lI [.int 1]))] false 0)
 .ret)
 (.seq (.region [] [oq 8 (.icmp .eql (.t 4) (.c lI [.int 2])),
 oq 7 (.mov (.t 8))] false 0)
 (.cond (.t 7) (.seq (.region [] [oq 2 (.mov (.c lI [.int (-9007199254740992)])),
 oq 3 (.mov (.c lI [.int 9007199254740992]))] false 0)
 .ret)
 (.seq (.region [] [oq 10 (.icmp .eql (.t 4) (.c lI [.int 4])),
 oq 9 (.mov (.t 10))] false 0)
 (.cond (.t 9) (.seq (.region [] [oq 2 (.mov (.c lI [.int 0])),
 oq 3 (.mov (.c lI [.int 4194304]))] false 0)
 .ret)
 (.seq (.seq (.region [] [oq 12 (.icmp .eql (.t 4) (.c lI [.int 8])),
 oq 11 (.mov (.t 12))] false 0)
 (.cond (.t 11) .skip
 (.region [] [oq 13 (.icmp .eql (.t 4) (.c lI [.int 9])),
 oq 11 (.mov (.t 13))] false 0)))
 (.cond (.t 11) (.seq (.region [] [oq 2 (.mov (.c lI [.int 0])),
 oq 3 (.mov (.c lI [.int 200]))] false 0)
 .ret)
 .skip))))))))))
 (.seq (.region [] [oq 2 (.mov (.c lI [.int 0])),
 oq 3 (.mov (.c lI [.int 0]))] false 0)
 .ret)))}
noncomputable def types_bounds (E:Env) (p0:Int):Option (List Row):=
 if (p0==1)=true then
 some [[.int 0],[.int 1]]
 else
 if (p0==2)=true then
 some [[.int (-9007199254740992)],[.int 9007199254740992]]
 else
 if (p0==4)=true then
 some [[.int 0],[.int 4194304]]
 else
 if (p0==8)=true then
 if (p0==8)=true then
 some [[.int 0],[.int 200]]
 else
 some [[.int 0],[.int 0]]
 else
 if (p0==9)=true then
 some [[.int 0],[.int 200]]
 else
 some [[.int 0],[.int 0]]
theorem types_bounds_eq (E:Env) (p0:Int):runP E types_bounds_a [[.int p0]]=types_bounds E p0:=by kernel_rfl
def types_unused_a:AFun:={ps:=[lA1],rs:=[lB],res:=[(false,2,none)],body:=(.seq (.region [] [oq 1 (.boxP lA1 26 (.t 0)),
 oq 2 (.mov (.c lB [.bool false]))] false 0)
 (.seq (.join [(.normal,{slots:=[(1, .d (.one (.ref 26))),(3, .d lB)],objs:=[]})] (.region [] [oq 5 (.fad 0 1 26 3 (.t 1)),
 oq 6 (.ld lI 3 (.t 5)),
 oq 7 (.icmp .eql (.t 6) (.c lI [.int 1])),
 oq 8 (.mov (.t 7)),
 ⟨some 9, .fad 0 1 26 3 (.t 1),some (8,false),[]⟩,
 ⟨some 10, .ld lI 3 (.t 9),some (8,false),[]⟩,
 ⟨some 11, .icmp .eql (.t 10) (.c lI [.int 2]),some (8,false),[]⟩,
 oq 12 (.pick (.t 8) (.c lB [.bool true]) (.t 11)),
 oq 13 (.mov (.t 12)),
 ⟨some 14, .fad 0 1 26 3 (.t 1),some (13,false),[]⟩,
 ⟨some 15, .ld lI 3 (.t 14),some (13,false),[]⟩,
 ⟨some 16, .icmp .eql (.t 15) (.c lI [.int 4]),some (13,false),[]⟩,
 oq 17 (.pick (.t 13) (.c lB [.bool true]) (.t 16)),
 oq 18 (.mov (.t 17)),
 ⟨some 19, .fad 0 1 26 3 (.t 1),some (18,false),[]⟩,
 ⟨some 20, .ld lI 3 (.t 19),some (18,false),[]⟩,
 ⟨some 21, .icmp .eql (.t 20) (.c lI [.int 8]),some (18,false),[]⟩,
 oq 22 (.pick (.t 18) (.c lB [.bool true]) (.t 21)),
 oq 23 (.mov (.t 22)),
 ⟨some 24, .fad 0 1 26 3 (.t 1),some (23,false),[]⟩,
 ⟨some 25, .ld lI 3 (.t 24),some (23,false),[]⟩,
 ⟨some 26, .icmp .eql (.t 25) (.c lI [.int 9]),some (23,false),[]⟩,
 oq 27 (.pick (.t 23) (.c lB [.bool true]) (.t 26)),
 oq 3 (.mov (.t 27))] false 0))
 (.seq (.join [(.normal,{slots:=[(1, .d (.one (.ref 26))),(3, .d lB),(4, .d lB)],objs:=[]})] (.region [] [oq 28 (.fad 0 1 26 3 (.t 1)),
 oq 29 (.ld lI 3 (.t 28)),
 oq 30 (.icmp .geq (.t 29) (.c lI [.int 6])),
 oq 31 (.mov (.t 30)),
 ⟨some 32, .fad 0 1 26 3 (.t 1),some (31,true),[]⟩,
 ⟨some 33, .ld lI 3 (.t 32),some (31,true),[]⟩,
 ⟨some 34, .icmp .leq (.t 33) (.c lI [.int 9]),some (31,true),[]⟩,
 oq 35 (.pick (.t 31) (.t 34) (.c lB [.bool false])),
 oq 4 (.mov (.t 35))] false 0))
 (.seq (.region [] [oq 36 (.mov (.t 3)),
 oq 37 (.not (.t 36)),
 oq 38 (.mov (.t 37)),
 ⟨some 39, .fad 2 1 26 3 (.t 1),some (38,true),[]⟩,
 ⟨some 40, .ld lI 3 (.t 39),some (38,true),[]⟩,
 ⟨some 41, .icmp .neq (.t 40) (.c lI [.int 0]),some (38,true),[]⟩,
 ⟨some 42, .mov (.t 41),some (38,true),[]⟩,
 ⟨some 43, .fad 3 1 26 3 (.t 1),some (42,false),[]⟩,
 ⟨some 44, .ld lI 3 (.t 43),some (42,false),[]⟩,
 ⟨some 45, .icmp .neq (.t 44) (.c lI [.int 0]),some (42,false),[]⟩,
 ⟨some 46, .pick (.t 42) (.c lB [.bool true]) (.t 45),some (38,true),[]⟩,
 oq 47 (.pick (.t 38) (.t 46) (.c lB [.bool false])),
 oq 48 (.mov (.t 47)),
 ⟨some 49, .fad 0 1 26 3 (.t 1),some (48,false),[]⟩,
 ⟨some 50, .ld lI 3 (.t 49),some (48,false),[]⟩,
 ⟨some 51, .icmp .neq (.t 50) (.c lI [.int 5]),some (48,false),[]⟩,
 ⟨some 52, .mov (.t 51),some (48,false),[]⟩,
 ⟨some 53, .fad 0 1 26 3 (.t 1),some (52,true),[]⟩,
 ⟨some 54, .ld lI 3 (.t 53),some (52,true),[]⟩,
 ⟨some 55, .icmp .neq (.t 54) (.c lI [.int 9]),some (52,true),[]⟩,
 ⟨some 56, .pick (.t 52) (.t 55) (.c lB [.bool false]),some (48,false),[]⟩,
 ⟨some 57, .mov (.t 56),some (48,false),[]⟩,
 ⟨some 58, .fad 4 1 26 9 (.t 1),some (57,true),[]⟩,
 ⟨some 59, .ld lS 9 (.t 58),some (57,true),[]⟩,
 ⟨some 60, .scmp .neq (.t 59) (.c lS [.str ([]:List UInt8)]),some (57,true),[]⟩,
 ⟨some 61, .pick (.t 57) (.t 60) (.c lB [.bool false]),some (48,false),[]⟩,
 oq 62 (.pick (.t 48) (.c lB [.bool true]) (.t 61)),
 oq 63 (.mov (.t 62)),
 ⟨some 64, .mov (.t 4),some (63,false),[]⟩,
 ⟨some 65, .not (.t 64),some (63,false),[]⟩,
 ⟨some 66, .mov (.t 65),some (63,false),[]⟩,
 ⟨some 67, .fad 5 1 26 24 (.t 1),some (66,true),[]⟩,
 ⟨some 68, .ld (.one (.sl 55)) 24 (.t 67),some (66,true),[]⟩,
 ⟨some 69, .lenL (.t 68),some (66,true),[]⟩,
 ⟨some 70, .icmp .gtr (.t 69) (.c lI [.int 0]),some (66,true),[]⟩,
 ⟨some 71, .pick (.t 66) (.t 70) (.c lB [.bool false]),some (63,false),[]⟩,
 oq 72 (.pick (.t 63) (.c lB [.bool true]) (.t 71)),
 oq 73 (.mov (.t 72)),
 ⟨some 74, .fad 0 1 26 3 (.t 1),some (73,false),[]⟩,
 ⟨some 75, .ld lI 3 (.t 74),some (73,false),[]⟩,
 ⟨some 76, .icmp .neq (.t 75) (.c lI [.int 10]),some (73,false),[]⟩,
 ⟨some 77, .mov (.t 76),some (73,false),[]⟩,
 ⟨some 78, .fad 1 1 26 9 (.t 1),some (77,true),[]⟩,
 ⟨some 79, .ld lS 9 (.t 78),some (77,true),[]⟩,
 ⟨some 80, .scmp .neq (.t 79) (.c lS [.str ([]:List UInt8)]),some (77,true),[]⟩,
 ⟨some 81, .pick (.t 77) (.t 80) (.c lB [.bool false]),some (73,false),[]⟩,
 oq 82 (.pick (.t 73) (.c lB [.bool true]) (.t 81)),
 oq 2 (.mov (.t 82))] false 0)
 .ret))))}
noncomputable def types_unused (E:Env) (p0:Row):Option (List Row):=
 (let K1:Bool→Option (Nat×List PV):=fun q2=>
 let K3:Bool→Option (Nat×List PV):=fun q4=>
 let K5:Bool→Option (Nat×List PV):=fun q6=>
 let K7:Bool→Option (Nat×List PV):=fun q8=>
 some (0,[.r [.dp p0], .r [.bool q8]])
 if q6=true then
 K7 true
 else
 K7 (((at_ p0 0).toI)==9)
 if q4=true then
 K5 true
 else
 K5 (((at_ p0 0).toI)==8)
 if q2=true then
 K3 true
 else
 K3 (((at_ p0 0).toI)==4)
 if (((at_ p0 0).toI)==1)=true then
 K1 true
 else
 K1 (((at_ p0 0).toI)==2)).bind fun x9=>
 (if (gC 0 x9.2).isDp=true then
 let K10:Bool→Option (Nat×List PV):=fun q11=>
 some (0,[.r [gC 0 x9.2], .r [.bool (gB 1 x9.2)], .r [.bool q11]])
 if (decide (((at_ ((gC 0 x9.2).dpRow) 0).toI)≥6))=true then
 if (gC 0 x9.2).isDp=true then
 K10 (decide (((at_ ((gC 0 x9.2).dpRow) 0).toI)≤9))
 else none
 else
 K10 false
 else none).bind fun x12=>
 let K13:Bool→Option (List Row):=fun q14=>
 let K15:Bool→Option (List Row):=fun q16=>
 let K17:Bool→Option (List Row):=fun q18=>
 let K19:Bool→Option (List Row):=fun q20=>
 some [[.bool q20]]
 if q18=true then
 K19 true
 else
 if (gC 0 x12.2).isDp=true then
 let K21:Bool→Option (List Row):=fun q22=>
 K19 q22
 if (((at_ ((gC 0 x12.2).dpRow) 0).toI) !=10)=true then
 if (gC 0 x12.2).isDp=true then
 K21 (!(((at_ ((gC 0 x12.2).dpRow) 1).toS)==([]:List UInt8)))
 else none
 else
 K21 false
 else none
 if q16=true then
 K17 true
 else
 let K23:Bool→Option (List Row):=fun q24=>
 K17 q24
 if (!(gB 2 x12.2))=true then
 if (gC 0 x12.2).isDp=true then
 K23 (decide ((((at_ ((gC 0 x12.2).dpRow) 5).rows).length:Int)>0))
 else none
 else
 K23 false
 if q14=true then
 K15 true
 else
 if (gC 0 x12.2).isDp=true then
 let K25:Bool→Option (List Row):=fun q26=>
 let K27:Bool→Option (List Row):=fun q28=>
 K15 q28
 if q26=true then
 if (gC 0 x12.2).isDp=true then
 K27 (!(((at_ ((gC 0 x12.2).dpRow) 4).toS)==([]:List UInt8)))
 else none
 else
 K27 false
 if (((at_ ((gC 0 x12.2).dpRow) 0).toI) !=5)=true then
 if (gC 0 x12.2).isDp=true then
 K25 (((at_ ((gC 0 x12.2).dpRow) 0).toI) !=9)
 else none
 else
 K25 false
 else none
 if (!(gB 1 x12.2))=true then
 if (gC 0 x12.2).isDp=true then
 let K29:Bool→Option (List Row):=fun q30=>
 K13 q30
 if (((at_ ((gC 0 x12.2).dpRow) 2).toI) !=0)=true then
 K29 true
 else
 if (gC 0 x12.2).isDp=true then
 K29 (((at_ ((gC 0 x12.2).dpRow) 3).toI) !=0)
 else none
 else none
 else
 K13 false
theorem types_unused_eq (E:Env) (p0:Row):runP E types_unused_a [p0]=types_unused E p0:=by kernel_rfl
def value_Name_h0:Shape:={slots:=[(23, .d (.one (.sl 5))),(24, .d lI),(25, .d lI)],objs:=[]}
def value_Name_o0:List (Exit'×Shape):=[(.exit 0,{slots:=[],objs:=[]}),(.ret,{slots:=[(2, .d lB)],objs:=[]})]
def value_Name_c0:ACode:=(.seq (.region [] [oq 26 (.icmp .lss (.t 25) (.t 24))] false 0)
 (.seq (.cond (.t 26) .skip
 (.exit 0))
 (.seq (.join [(.normal,{slots:=[(23, .d (.one (.sl 5))),(24, .d lI),(25, .d lI)],objs:=[]}),(.ret,{slots:=[(2, .d lB)],objs:=[]})] (.block 1 (.seq (.region [] [oq 27 (.iad 5 lU (.t 23) (.t 25)),
 oq 28 (.ld lU 5 (.t 27)),
 oq 4 (.mov (.t 28))] false 0)
 (.seq (.region [] [oq 29 (.mov (.t 4)),
 oq 30 (.icmp .geq (.t 29) (.c lU [.int 97])),
 oq 31 (.mov (.t 30)),
 ⟨some 32, .mov (.t 4),some (31,true),[]⟩,
 ⟨some 33, .icmp .leq (.t 32) (.c lU [.int 122]),some (31,true),[]⟩,
 oq 34 (.pick (.t 31) (.t 33) (.c lB [.bool false])),
 oq 35 (.mov (.t 34)),
 ⟨some 36, .mov (.t 4),some (35,false),[]⟩,
 ⟨some 37, .icmp .geq (.t 36) (.c lU [.int 48]),some (35,false),[]⟩,
 ⟨some 38, .mov (.t 37),some (35,false),[]⟩,
 ⟨some 39, .mov (.t 4),some (38,true),[]⟩,
 ⟨some 40, .icmp .leq (.t 39) (.c lU [.int 57]),some (38,true),[]⟩,
 ⟨some 41, .pick (.t 38) (.t 40) (.c lB [.bool false]),some (35,false),[]⟩,
 oq 42 (.pick (.t 35) (.c lB [.bool true]) (.t 41)),
 oq 43 (.mov (.t 42)),
 ⟨some 44, .mov (.t 4),some (43,false),[]⟩,
 ⟨some 45, .icmp .eql (.t 44) (.c lU [.int 45]),some (43,false),[]⟩,
 oq 46 (.pick (.t 43) (.c lB [.bool true]) (.t 45)),
 oq 47 (.not (.t 46))] false 0)
 (.cond (.t 47) (.seq (.region [] [oq 2 (.mov (.c lB [.bool false]))] false 0)
 .ret)
 .skip)))))
 (.region [] [oq 48 (.ibin .add (.t 25) (.c lI [.int 1])),
 oq 25 (.mov (.t 48))] false 0))))
noncomputable def value_Name_l0 (E:Env) (v0:C) (v1:Int) (v2:Int):Option (Nat×List PV):=E.fix (stepOf E value_Name_c0 value_Name_h0 value_Name_o0) [.r [v0], .r [.int v1], .r [.int v2]]
noncomputable def value_Name_b0 (E:Env) (X:C→Int→Int→Option (Nat×List PV)) (v0:C) (v1:Int) (v2:Int):Option (Nat×List PV):=
 if (decide (v2<v1))=true then
 (if (0:Int)≤v2∧v2<(v0.rows.length:Int)then
 let K8:Bool→Option (Nat×List PV):=fun q9=>
 let K10:Bool→Option (Nat×List PV):=fun q11=>
 let K12:Bool→Option (Nat×List PV):=fun q13=>
 if (!q13)=true then
 some (1,[.r [.bool false]])
 else
 some (0,[.r [v0], .r [.int v1], .r [.int v2]])
 if q11=true then
 K12 true
 else
 K12 (((at_ (rowsAt v0.rows v2.toNat) 0).toI)==45)
 if q9=true then
 K10 true
 else
 let K14:Bool→Option (Nat×List PV):=fun q15=>
 K10 q15
 if (decide (((at_ (rowsAt v0.rows v2.toNat) 0).toI)≥48))=true then
 K14 (decide (((at_ (rowsAt v0.rows v2.toNat) 0).toI)≤57))
 else
 K14 false
 if (decide (((at_ (rowsAt v0.rows v2.toNat) 0).toI)≥97))=true then
 K8 (decide (((at_ (rowsAt v0.rows v2.toNat) 0).toI)≤122))
 else
 K8 false
 else none).bind fun x16=>
 match x16.1 with
 |0=>
 X (gC 0 x16.2) (gI 1 x16.2) (Go.IntKind.i64.wrap ((gI 2 x16.2)+1))
 |i17+1=>
 some (1,[.r [.bool (gB 0 x16.2)]])
 else
 some (0,[])
theorem value_Name_s0 (E:Env) (X:List PV→Option (Nat×List PV)) (v0:C) (v1:Int) (v2:Int):stepOf E value_Name_c0 value_Name_h0 value_Name_o0 X [.r [v0], .r [.int v1], .r [.int v2]]=value_Name_b0 E (fun (v0:C) (v1:Int) (v2:Int)=>X [.r [v0], .r [.int v1], .r [.int v2]]) v0 v1 v2:=by kernel_rfl
def value_Name_a:AFun:={ps:=[lS],rs:=[lB],res:=[(false,2,none)],body:=(.seq (.region [] [oq 2 (.mov (.c lB [.bool false]))] false 0)
 (.seq (.seq (.join [(.normal,{slots:=[(0, .d lS),(21, .d lB)],objs:=[]})] (.region [] [oq 5 (.mov (.t 0)),
 oq 6 (.scmp .eql (.t 5) (.c lS [.str ([]:List UInt8)])),
 oq 7 (.mov (.t 6)),
 ⟨some 8, .mov (.t 0),some (7,false),[]⟩,
 ⟨some 9, .lenS (.t 8),some (7,false),[]⟩,
 ⟨some 10, .icmp .gtr (.t 9) (.c lI [.int 16]),some (7,false),[]⟩,
 oq 11 (.pick (.t 7) (.c lB [.bool true]) (.t 10)),
 oq 12 (.mov (.t 11)),
 ⟨some 13, .mov (.t 0),some (12,false),[]⟩,
 ⟨some 14, .idxS (.t 13) (.c lI [.int 0]),some (12,false),[]⟩,
 ⟨some 15, .icmp .lss (.t 14) (.c lU [.int 97]),some (12,false),[]⟩,
 oq 16 (.pick (.t 12) (.c lB [.bool true]) (.t 15)),
 oq 17 (.mov (.t 16)),
 ⟨some 18, .mov (.t 0),some (17,false),[]⟩,
 ⟨some 19, .idxS (.t 18) (.c lI [.int 0]),some (17,false),[]⟩,
 ⟨some 20, .icmp .gtr (.t 19) (.c lU [.int 122]),some (17,false),[]⟩,
 oq 21 (.pick (.t 17) (.c lB [.bool true]) (.t 20))] false 0))
 (.cond (.t 21) (.seq (.region [] [oq 2 (.mov (.c lB [.bool false]))] false 0)
 .ret)
 .skip))
 (.seq (.seq (.region [] [oq 22 (.mov (.t 0)),
 oq 23 (.s2b 5 (.t 22)),
 oq 24 (.lenL (.t 23)),
 oq 25 (.mov (.c lI [.int 0]))] false 0)
 (.block 0 (.loop value_Name_h0 value_Name_o0 value_Name_c0)))
 (.seq (.region [] [oq 2 (.mov (.c lB [.bool true]))] false 0)
 .ret))))}
noncomputable def value_Name (E:Env) (p0:List UInt8):Option (List Row):=
 (let K1:Bool→Option (Nat×List PV):=fun q2=>
 let K3:Bool→Option (Nat×List PV):=fun q4=>
 let K5:Bool→Option (Nat×List PV):=fun q6=>
 some (0,[.r [.str p0], .r [.bool q6]])
 if q4=true then
 K5 true
 else
 if (0:Int)≤0∧0<(p0.length:Int)then
 K5 (decide (((p0.getD 0 0).toNat:Int)>122))
 else none
 if q2=true then
 K3 true
 else
 if (0:Int)≤0∧0<(p0.length:Int)then
 K3 (decide (((p0.getD 0 0).toNat:Int)<97))
 else none
 if (p0==([]:List UInt8))=true then
 K1 true
 else
 K1 (decide ((p0.length:Int)>16))).bind fun x7=>
 if (gB 1 x7.2)=true then
 some [[.bool false]]
 else
 (value_Name_l0 E (.sl ((gS 0 x7.2).map byteRow)) (((gS 0 x7.2).map byteRow).length:Int) 0).bind fun x18=>
 match x18.1 with
 |0=>
 some [[.bool true]]
 |i19+1=>
 some [[.bool (gB 0 x18.2)]]
theorem value_Name_eq (E:Env) (p0:List UInt8):runP E value_Name_a [[.str p0]]=value_Name E p0:=by kernel_rfl
def slices_IndexFunc_api_Part_h0:Shape:={slots:=[(0, .d (.one (.sl 55))),(1, .d (.one (.fn 74))),(7, .d lI),(8, .d lI)],objs:=[]}
def slices_IndexFunc_api_Part_o0:List (Exit'×Shape):=[(.exit 0,{slots:=[],objs:=[]}),(.ret,{slots:=[(4, .d lI)],objs:=[]})]
def slices_IndexFunc_api_Part_c0:ACode:=(.seq (.region [] [oq 9 (.icmp .lss (.t 8) (.t 7))] false 0)
 (.seq (.cond (.t 9) .skip
 (.exit 0))
 (.seq (.block 1 (.seq (.region [] [oq 10 (.mov (.t 8)),
 oq 5 (.mov (.t 10))] false 0)
 (.seq (.region [] [oq 11 (.mov (.t 1)),
 oq 12 (.mov (.t 0)),
 oq 13 (.mov (.t 5)),
 oq 14 (.iad 55 lA0 (.t 12) (.t 13)),
 oq 15 (.ld lA0 55 (.t 14)),
 oq 16 (.callv 74 [lA0] [lB] (.t 11) [(.t 15)])] false 0)
 (.cond (.t 16) (.seq (.region [] [oq 17 (.mov (.t 5)),
 oq 4 (.mov (.t 17))] false 0)
 .ret)
 .skip))))
 (.region [] [oq 18 (.ibin .add (.t 8) (.c lI [.int 1])),
 oq 8 (.mov (.t 18))] false 0))))
noncomputable def slices_IndexFunc_api_Part_l0 (E:Env) (v0:C) (v1:C) (v2:Int) (v3:Int):Option (Nat×List PV):=E.fix (stepOf E slices_IndexFunc_api_Part_c0 slices_IndexFunc_api_Part_h0 slices_IndexFunc_api_Part_o0) [.r [v0], .r [v1], .r [.int v2], .r [.int v3]]
noncomputable def slices_IndexFunc_api_Part_b0 (E:Env) (X:C→C→Int→Int→Option (Nat×List PV)) (v0:C) (v1:C) (v2:Int) (v3:Int):Option (Nat×List PV):=
 if (decide (v3<v2))=true then
 if (0:Int)≤v3∧v3<(v0.rows.length:Int)then
 (callC E v1 [rowsAt v0.rows v3.toNat]).bind fun y1=>
 if ((at_ (rowsAt y1 0) 0).toB)=true then
 some (1,[.r [.int v3]])
 else
 X v0 v1 v2 (Go.IntKind.i64.wrap (v3+1))
 else none
 else
 some (0,[])
theorem slices_IndexFunc_api_Part_s0 (E:Env) (X:List PV→Option (Nat×List PV)) (v0:C) (v1:C) (v2:Int) (v3:Int):stepOf E slices_IndexFunc_api_Part_c0 slices_IndexFunc_api_Part_h0 slices_IndexFunc_api_Part_o0 X [.r [v0], .r [v1], .r [.int v2], .r [.int v3]]=slices_IndexFunc_api_Part_b0 E (fun (v0:C) (v1:C) (v2:Int) (v3:Int)=>X [.r [v0], .r [v1], .r [.int v2], .r [.int v3]]) v0 v1 v2 v3:=by kernel_rfl
def slices_IndexFunc_api_Part_a:AFun:={ps:=[(.one (.sl 55)),(.one (.fn 74))],rs:=[lI],res:=[(false,4,none)],body:=(.seq (.region [] [oq 4 (.mov (.c lI [.int 0]))] false 0)
 (.seq (.seq (.region [] [oq 6 (.mov (.t 0)),
 oq 7 (.lenL (.t 6)),
 oq 8 (.mov (.c lI [.int 0]))] false 0)
 (.block 0 (.loop slices_IndexFunc_api_Part_h0 slices_IndexFunc_api_Part_o0 slices_IndexFunc_api_Part_c0)))
 (.seq (.region [] [oq 4 (.mov (.c lI [.int (-1)]))] false 0)
 .ret)))}
noncomputable def slices_IndexFunc_api_Part (E:Env) (p0:C) (p1:C):Option (List Row):=
 (slices_IndexFunc_api_Part_l0 E p0 p1 (p0.rows.length:Int) 0).bind fun x2=>
 match x2.1 with
 |0=>
 some [[.int (-1)]]
 |i3+1=>
 some [[.int (gI 0 x2.2)]]
theorem slices_IndexFunc_api_Part_eq (E:Env) (p0:C) (p1:C):runP E slices_IndexFunc_api_Part_a [[p0],[p1]]=slices_IndexFunc_api_Part E p0 p1:=by kernel_rfl
def slices_ContainsFunc_api_Part_a:AFun:={ps:=[(.one (.sl 55)),(.one (.fn 74))],rs:=[lB],res:=[(false,4,none)],body:=(.seq (.region [] [oq 4 (.mov (.c lB [.bool false]))] false 0)
 (.seq (.region [] [oq 5 (.mov (.t 0)),
 oq 6 (.mov (.t 1)),
 oq 7 (.call 51 [(.one (.sl 55)),(.one (.fn 74))] [lI] [(.t 5),(.t 6)]),
 oq 8 (.icmp .geq (.t 7) (.c lI [.int 0])),
 oq 4 (.mov (.t 8))] false 0)
 .ret))}
noncomputable def slices_ContainsFunc_api_Part (E:Env) (p0:C) (p1:C):Option (List Row):=
 (E.pc n_slices_IndexFunc_api_Part [[p0],[p1]]).bind fun y1=>
 some [[.bool (decide (((at_ (rowsAt y1 0) 0).toI)≥0))]]
theorem slices_ContainsFunc_api_Part_eq (E:Env) (p0:C) (p1:C):runP E slices_ContainsFunc_api_Part_a [[p0],[p1]]=slices_ContainsFunc_api_Part E p0 p1:=by kernel_rfl
def types_parts_1_a:AFun:={ps:=[lA0,(.one (.ref 55))],rs:=[lB],res:=[(false,3,none)],body:=(.seq (.region [] [oq 2 (.boxP lA0 55 (.t 0)),
 oq 3 (.mov (.c lB [.bool false]))] false 0)
 (.seq (.region [] [oq 4 (.fad 0 1 55 9 (.t 2)),
 oq 5 (.ld lS 9 (.t 4)),
 oq 6 (.fad 0 1 55 9 (.t 1)),
 oq 7 (.ld lS 9 (.t 6)),
 oq 8 (.scmp .eql (.t 5) (.t 7)),
 oq 3 (.mov (.t 8))] false 0)
 .ret))}
noncomputable def types_parts_1 (E:Env) (p0:Row) (p1:C):Option (List Row):=
 if p1.isDp=true then
 some [[.bool (((at_ p0 0).toS)==((at_ p1.dpRow 0).toS))]]
 else none
theorem types_parts_1_eq (E:Env) (p0:Row) (p1:C):runP E types_parts_1_a [p0,[p1]]=types_parts_1 E p0 p1:=by kernel_rfl
def types_parts_h0:Shape:={slots:=[(1, .d (.one (.ref 26))),(37, .d (.one (.sl 55))),(38, .d lI),(39, .d lI)],objs:=[]}
def types_parts_o0:List (Exit'×Shape):=[(.exit 1,{slots:=[],objs:=[]}),(.ret,{slots:=[(2, .d lI)],objs:=[]})]
def types_parts_c0:ACode:=(.seq (.region [] [oq 40 (.icmp .lss (.t 39) (.t 38))] false 0)
 (.seq (.cond (.t 40) .skip
 (.exit 1))
 (.seq (.block 2 (.seq (.region [] [oq 41 (.mov (.t 39)),
 oq 42 (.iad 55 lA0 (.t 37) (.t 39)),
 oq 43 (.ld lA0 55 (.t 42)),
 oq 5 (.allocO 0 lA0 [.str [], .int 0, .str [], .int 0, .int 0, .str [], .nils]),
 oq 4 (.mov (.t 41)),
 ⟨none, .st lA0 (.t 5) (.t 43),none,[]⟩] false 1)
 (.seq (.seq (.region [] [oq 44 (.fad 0 1 55 9 (.t 5)),
 oq 45 (.ld lS 9 (.t 44)),
 oq 46 (.call 30 [lS] [lB] [(.t 45)]),
 oq 47 (.not (.t 46))] false 0)
 (.cond (.t 47) (.seq (.region [] [oq 2 (.mov (.c lI [.int 15]))] false 0)
 .ret)
 .skip))
 (.seq (.region [(5,55,some lA0)] [oq 48 (.fad 5 1 26 24 (.t 1)),
 oq 49 (.ld (.one (.sl 55)) 24 (.t 48)),
 oq 50 (.mov (.t 4)),
 oq 51 (.slc 55 lA0 (.t 49) none (some (.t 50))),
 oq 52 (.mkf 125 74 [.ref 55] [(.t 5)]),
 oq 53 (.call 47 [(.one (.sl 55)),(.one (.fn 74))] [lB] [(.t 51),(.t 52)])] false 0)
 (.cond (.t 53) (.seq (.region [] [oq 2 (.mov (.c lI [.int 5]))] false 0)
 .ret)
 .skip)))))
 (.region [] [oq 54 (.ibin .add (.t 39) (.c lI [.int 1])),
 oq 39 (.mov (.t 54))] false 0))))
noncomputable def types_parts_l0 (E:Env) (v0:C) (v1:C) (v2:Int) (v3:Int):Option (Nat×List PV):=E.fix (stepOf E types_parts_c0 types_parts_h0 types_parts_o0) [.r [v0], .r [v1], .r [.int v2], .r [.int v3]]
noncomputable def types_parts_b0 (E:Env) (X:C→C→Int→Int→Option (Nat×List PV)) (v0:C) (v1:C) (v2:Int) (v3:Int):Option (Nat×List PV):=
 if (decide (v3<v2))=true then
 if (0:Int)≤v3∧v3<(v1.rows.length:Int)then
 (E.pc n_value_Name [[.str ((at_ (rowsAt v1.rows v3.toNat) 0).toS)]]).bind fun y8=>
 if (!((at_ (rowsAt y8 0) 0).toB))=true then
 some (1,[.r [.int 15]])
 else
 if v0.isDp=true then
 if (0:Int)≤0∧0≤v3∧v3≤(((at_ v0.dpRow 5).rows).length:Int)then
 (E.pc n_slices_ContainsFunc_api_Part [[slcC (at_ v0.dpRow 5) 0 v3],[.fn n_types_parts_1 [.dp (rowsAt v1.rows v3.toNat)]]]).bind fun y9=>
 if ((at_ (rowsAt y9 0) 0).toB)=true then
 some (1,[.r [.int 5]])
 else
 X v0 v1 v2 (Go.IntKind.i64.wrap (v3+1))
 else none
 else none
 else none
 else
 some (0,[])
theorem types_parts_s0 (E:Env) (X:List PV→Option (Nat×List PV)) (v0:C) (v1:C) (v2:Int) (v3:Int):stepOf E types_parts_c0 types_parts_h0 types_parts_o0 X [.r [v0], .r [v1], .r [.int v2], .r [.int v3]]=types_parts_b0 E (fun (v0:C) (v1:C) (v2:Int) (v3:Int)=>X [.r [v0], .r [v1], .r [.int v2], .r [.int v3]]) v0 v1 v2 v3:=by kernel_rfl
def types_parts_a:AFun:={ps:=[lA1],rs:=[lI],res:=[(false,2,none)],body:=(.seq (.region [] [oq 1 (.boxP lA1 26 (.t 0)),
 oq 2 (.mov (.c lI [.int 0]))] false 0)
 (.seq (.region [] [oq 6 (.fad 5 1 26 24 (.t 1)),
 oq 7 (.ld (.one (.sl 55)) 24 (.t 6)),
 oq 8 (.lenL (.t 7)),
 oq 3 (.mov (.t 8))] false 0)
 (.seq (.seq (.region [] [oq 9 (.fad 0 1 26 3 (.t 1)),
 oq 10 (.ld lI 3 (.t 9))] false 0)
 (.join [(.normal,{slots:=[],objs:=[]}),(.ret,{slots:=[(2, .d lI)],objs:=[]})] (.block 0 (.seq (.seq (.region [] [oq 12 (.icmp .eql (.t 10) (.c lI [.int 8])),
 oq 11 (.mov (.t 12))] false 0)
 (.join [(.normal,{slots:=[(1, .d (.one (.ref 26))),(3, .d lI),(10, .d lI),(11, .d lB)],objs:=[]})] (.cond (.t 11) .skip
 (.region [] [oq 13 (.icmp .eql (.t 10) (.c lI [.int 9])),
 oq 11 (.mov (.t 13))] false 0))))
 (.cond (.t 11) (.seq (.region [] [oq 14 (.mov (.t 3)),
 oq 15 (.icmp .neq (.t 14) (.c lI [.int 1])),
 oq 16 (.mov (.t 15)),
 ⟨some 17, .fad 5 1 26 24 (.t 1),some (16,false),[]⟩,
 ⟨some 18, .ld (.one (.sl 55)) 24 (.t 17),some (16,false),[]⟩,
 ⟨some 19, .iad 55 lA0 (.t 18) (.c lI [.int 0]),some (16,false),[]⟩,
 ⟨some 20, .fad 0 1 55 9 (.t 19),some (16,false),[]⟩,
 ⟨some 21, .ld lS 9 (.t 20),some (16,false),[]⟩,
 ⟨some 22, .scmp .neq (.t 21) (.c lS [.str ([]:List UInt8)]),some (16,false),[]⟩,
 oq 23 (.pick (.t 16) (.c lB [.bool true]) (.t 22))] false 0)
 (.cond (.t 23) (.seq (.region [] [oq 2 (.mov (.c lI [.int 3]))] false 0)
 .ret)
 .skip))
 (.seq (.seq (.region [] [oq 25 (.icmp .eql (.t 10) (.c lI [.int 6])),
 oq 24 (.mov (.t 25))] false 0)
 (.join [(.normal,{slots:=[(1, .d (.one (.ref 26))),(3, .d lI),(24, .d lB)],objs:=[]})] (.cond (.t 24) .skip
 (.region [] [oq 26 (.icmp .eql (.t 10) (.c lI [.int 7])),
 oq 24 (.mov (.t 26))] false 0))))
 (.cond (.t 24) (.seq (.seq (.region [] [oq 27 (.mov (.t 3)),
 oq 28 (.icmp .gtr (.t 27) (.c lI [.int 24]))] false 0)
 (.cond (.t 28) (.seq (.region [] [oq 2 (.mov (.c lI [.int 2]))] false 0)
 .ret)
 .skip))
 (.seq (.seq (.join [(.normal,{slots:=[(1, .d (.one (.ref 26))),(35, .d lB)],objs:=[]})] (.region [] [oq 29 (.fad 0 1 26 3 (.t 1)),
 oq 30 (.ld lI 3 (.t 29)),
 oq 31 (.icmp .eql (.t 30) (.c lI [.int 7])),
 oq 32 (.mov (.t 31)),
 ⟨some 33, .mov (.t 3),some (32,true),[]⟩,
 ⟨some 34, .icmp .eql (.t 33) (.c lI [.int 0]),some (32,true),[]⟩,
 oq 35 (.pick (.t 32) (.t 34) (.c lB [.bool false]))] false 0))
 (.cond (.t 35) (.seq (.region [] [oq 2 (.mov (.c lI [.int 3]))] false 0)
 .ret)
 .skip))
 (.seq (.region [] [oq 36 (.fad 5 1 26 24 (.t 1)),
 oq 37 (.ld (.one (.sl 55)) 24 (.t 36)),
 oq 38 (.lenL (.t 37)),
 oq 39 (.mov (.c lI [.int 0]))] false 0)
 (.block 1 (.loop types_parts_h0 types_parts_o0 types_parts_c0)))))
 .skip)))))))
 (.seq (.region [] [oq 2 (.mov (.c lI [.int 0]))] false 0)
 .ret))))}
noncomputable def types_parts (E:Env) (p0:Row):Option (List Row):=
 ((if (((at_ p0 0).toI)==8)=true then
  some (0,[.r [.dp p0], .r [.int (((at_ p0 5).rows).length:Int)], .r [.int ((at_ p0 0).toI)], .r [.bool (((at_ p0 0).toI)==8)]])
 else
  some (0,[.r [.dp p0], .r [.int (((at_ p0 5).rows).length:Int)], .r [.int ((at_ p0 0).toI)], .r [.bool (((at_ p0 0).toI)==9)]])).bind fun x1=>
  if (gB 3 x1.2)=true then
   let K2:Bool→Option (Nat×List PV):=fun q3=>
    if q3=true then
     some (1,[.r [.int 3]])
    else
     some (0,[])
   if ((gI 1 x1.2) !=1)=true then
    K2 true
   else
    if (gC 0 x1.2).isDp=true then
     if (0:Int)≤0∧0<(((at_ ((gC 0 x1.2).dpRow) 5).rows).length:Int)then
      K2 (!(((at_ (rowsAt ((at_ ((gC 0 x1.2).dpRow) 5).rows) 0) 0).toS)==([]:List UInt8)))
     else none
    else none
  else
   (if ((gI 2 x1.2)==6)=true then
    some (0,[.r [gC 0 x1.2], .r [.int (gI 1 x1.2)], .r [.bool ((gI 2 x1.2)==6)]])
   else
    some (0,[.r [gC 0 x1.2], .r [.int (gI 1 x1.2)], .r [.bool ((gI 2 x1.2)==7)]])).bind fun x4=>
    if (gB 2 x4.2)=true then
     if (decide ((gI 1 x4.2)>24))=true then
      some (1,[.r [.int 2]])
     else
      (if (gC 0 x4.2).isDp=true then
       let K5:Bool→Option (Nat×List PV):=fun q6=>
        some (0,[.r [gC 0 x4.2], .r [.bool q6]])
       if (((at_ ((gC 0 x4.2).dpRow) 0).toI)==7)=true then
        K5 ((gI 1 x4.2)==0)
       else
        K5 false
      else none).bind fun x7=>
       if (gB 1 x7.2)=true then
        some (1,[.r [.int 3]])
       else
        if (gC 0 x7.2).isDp=true then
         (types_parts_l0 E (gC 0 x7.2) (at_ ((gC 0 x7.2).dpRow) 5) (((at_ ((gC 0 x7.2).dpRow) 5).rows).length:Int) 0).bind fun x10=>
          match x10.1 with
          |0=>
           some (0,[])
          |i11+1=>
           some (1,[.r [.int (gI 0 x10.2)]])
        else none
    else
     some (0,[])).bind fun x12=>
  match x12.1 with
  |0=>
   some [[.int 0]]
  |i13+1=>
   some [[.int (gI 0 x12.2)]]
theorem types_parts_eq (E:Env) (p0:Row):runP E types_parts_a [p0]=types_parts E p0:=by kernel_rfl
def types_own_a:AFun:={ps:=[(.one (.sl 64)),lA1],rs:=[lI],res:=[(false,4,none)],body:=(.seq (.region [] [oq 3 (.boxP lA1 26 (.t 1)),
 oq 4 (.mov (.c lI [.int 0]))] false 0)
 (.seq (.region [] [oq 9 (.fad 0 1 26 3 (.t 3)),
 oq 10 (.ld lI 3 (.t 9)),
 oq 11 (.call 101 [lI] [lI,lI] [(.t 10)]),
 oq 8 (.mov (.t 11)),
 oq 12 (.ext 0 (.t 8)),
 oq 13 (.ext 1 (.t 8)),
 oq 5 (.mov (.t 12)),
 oq 6 (.mov (.t 13))] false 0)
 (.seq (.join [(.normal,{slots:=[(3, .d (.one (.ref 26)))],objs:=[]}),(.ret,{slots:=[(4, .d lI)],objs:=[]})] (.block 0 (.seq (.join [(.normal,{slots:=[(0, .d (.one (.sl 64))),(3, .d (.one (.ref 26))),(5, .d lI),(6, .d lI),(14, .d lB)],objs:=[]})] (.region [] [oq 15 (.fad 0 1 26 3 (.t 3)),
 oq 16 (.ld lI 3 (.t 15)),
 oq 17 (.icmp .lss (.t 16) (.c lI [.int 0])),
 oq 18 (.mov (.t 17)),
 ⟨some 19, .fad 0 1 26 3 (.t 3),some (18,false),[]⟩,
 ⟨some 20, .ld lI 3 (.t 19),some (18,false),[]⟩,
 ⟨some 21, .icmp .gtr (.t 20) (.c lI [.int 10]),some (18,false),[]⟩,
 oq 22 (.pick (.t 18) (.c lB [.bool true]) (.t 21)),
 oq 23 (.mov (.t 22)),
 ⟨some 24, .ld lA1 26 (.t 3),some (23,false),[]⟩,
 ⟨some 25, .call 102 [lA1] [lB] [(.t 24)],some (23,false),[]⟩,
 oq 26 (.pick (.t 23) (.c lB [.bool true]) (.t 25)),
 oq 14 (.mov (.t 26))] false 0))
 (.cond (.t 14) (.seq (.region [] [oq 4 (.mov (.c lI [.int 3]))] false 0)
 .ret)
 (.seq (.join [(.normal,{slots:=[(0, .d (.one (.sl 64))),(3, .d (.one (.ref 26))),(27, .d lB)],objs:=[]})] (.region [] [oq 28 (.fad 2 1 26 3 (.t 3)),
 oq 29 (.ld lI 3 (.t 28)),
 oq 30 (.mov (.t 5)),
 oq 31 (.icmp .lss (.t 29) (.t 30)),
 oq 32 (.mov (.t 31)),
 ⟨some 33, .fad 2 1 26 3 (.t 3),some (32,false),[]⟩,
 ⟨some 34, .ld lI 3 (.t 33),some (32,false),[]⟩,
 ⟨some 35, .fad 3 1 26 3 (.t 3),some (32,false),[]⟩,
 ⟨some 36, .ld lI 3 (.t 35),some (32,false),[]⟩,
 ⟨some 37, .icmp .gtr (.t 34) (.t 36),some (32,false),[]⟩,
 oq 38 (.pick (.t 32) (.c lB [.bool true]) (.t 37)),
 oq 39 (.mov (.t 38)),
 ⟨some 40, .fad 3 1 26 3 (.t 3),some (39,false),[]⟩,
 ⟨some 41, .ld lI 3 (.t 40),some (39,false),[]⟩,
 ⟨some 42, .mov (.t 6),some (39,false),[]⟩,
 ⟨some 43, .icmp .gtr (.t 41) (.t 42),some (39,false),[]⟩,
 oq 44 (.pick (.t 39) (.c lB [.bool true]) (.t 43)),
 oq 27 (.mov (.t 44))] false 0))
 (.cond (.t 27) (.seq (.region [] [oq 4 (.mov (.c lI [.int 11]))] false 0)
 .ret)
 (.seq (.join [(.normal,{slots:=[(0, .d (.one (.sl 64))),(3, .d (.one (.ref 26))),(45, .d lB)],objs:=[]})] (.region [] [oq 46 (.fad 0 1 26 3 (.t 3)),
 oq 47 (.ld lI 3 (.t 46)),
 oq 48 (.icmp .eql (.t 47) (.c lI [.int 5])),
 oq 49 (.mov (.t 48)),
 ⟨some 50, .fad 0 1 26 3 (.t 3),some (49,false),[]⟩,
 ⟨some 51, .ld lI 3 (.t 50),some (49,false),[]⟩,
 ⟨some 52, .icmp .eql (.t 51) (.c lI [.int 9]),some (49,false),[]⟩,
 oq 53 (.pick (.t 49) (.c lB [.bool true]) (.t 52)),
 oq 45 (.mov (.t 53))] false 0))
 (.cond (.t 45) (.seq (.region [] [oq 54 (.fad 4 1 26 9 (.t 3)),
 oq 55 (.ld lS 9 (.t 54)),
 oq 56 (.call 95 [lS] [lI] [(.t 55)]),
 oq 7 (.mov (.t 56))] false 0)
 (.seq (.region [] [oq 57 (.mov (.t 7)),
 oq 58 (.icmp .neq (.t 57) (.c lI [.int 0]))] false 0)
 (.cond (.t 58) (.seq (.region [] [oq 59 (.mov (.t 7)),
 oq 4 (.mov (.t 59))] false 0)
 .ret)
 .skip)))
 (.seq (.region [] [oq 61 (.fad 0 1 26 3 (.t 3)),
 oq 62 (.ld lI 3 (.t 61)),
 oq 63 (.icmp .eql (.t 62) (.c lI [.int 10])),
 oq 64 (.mov (.t 63)),
 ⟨some 65, .mov (.t 0),some (64,true),[]⟩,
 ⟨some 66, .fad 1 1 26 9 (.t 3),some (64,true),[]⟩,
 ⟨some 67, .ld lS 9 (.t 66),some (64,true),[]⟩,
 ⟨some 68, .call 31 [(.one (.sl 64)),lS] [lI] [(.t 65),(.t 67)],some (64,true),[]⟩,
 ⟨some 69, .icmp .lss (.t 68) (.c lI [.int 0]),some (64,true),[]⟩,
 oq 70 (.pick (.t 64) (.t 69) (.c lB [.bool false])),
 oq 60 (.mov (.t 70))] false 0)
 (.cond (.t 60) (.seq (.region [] [oq 4 (.mov (.c lI [.int 15]))] false 0)
 .ret)
 .skip))))))))))
 (.seq (.region [] [oq 71 (.ld lA1 26 (.t 3)),
 oq 72 (.call 103 [lA1] [lI] [(.t 71)]),
 oq 4 (.mov (.t 72))] false 0)
 .ret))))}
noncomputable def types_own (E:Env) (p0:C) (p1:Row):Option (List Row):=
 (E.pc n_types_bounds [[.int ((at_ p1 0).toI)]]).bind fun y1=>
 ((let K2:Bool→Option (Nat×List PV):=fun q3=>
 let K4:Bool→Option (Nat×List PV):=fun q5=>
 some (0,[.r [p0], .r [.dp p1], .r [.int ((at_ (rowsAt y1 0) 0).toI)], .r [.int ((at_ (rowsAt y1 1) 0).toI)], .r [.bool q5]])
 if q3=true then
 K4 true
 else
 (E.pc n_types_unused [p1]).bind fun y6=>
 K4 ((at_ (rowsAt y6 0) 0).toB)
 if (decide (((at_ p1 0).toI)<0))=true then
 K2 true
 else
 K2 (decide (((at_ p1 0).toI)>10))).bind fun x7=>
 if (gB 4 x7.2)=true then
 some (1,[.r [.int 3]])
 else
 (if (gC 1 x7.2).isDp=true then
 let K8:Bool→Option (Nat×List PV):=fun q9=>
 let K10:Bool→Option (Nat×List PV):=fun q11=>
 some (0,[.r [gC 0 x7.2], .r [gC 1 x7.2], .r [.bool q11]])
 if q9=true then
 K10 true
 else
 if (gC 1 x7.2).isDp=true then
 K10 (decide (((at_ ((gC 1 x7.2).dpRow) 3).toI)>(gI 3 x7.2)))
 else none
 if (decide (((at_ ((gC 1 x7.2).dpRow) 2).toI)<(gI 2 x7.2)))=true then
 K8 true
 else
 if (gC 1 x7.2).isDp=true then
 if (gC 1 x7.2).isDp=true then
 K8 (decide (((at_ ((gC 1 x7.2).dpRow) 2).toI)>((at_ ((gC 1 x7.2).dpRow) 3).toI)))
 else none
 else none
 else none).bind fun x12=>
 if (gB 2 x12.2)=true then
 some (1,[.r [.int 11]])
 else
 (if (gC 1 x12.2).isDp=true then
 let K13:Bool→Option (Nat×List PV):=fun q14=>
 some (0,[.r [gC 0 x12.2], .r [gC 1 x12.2], .r [.bool q14]])
 if (((at_ ((gC 1 x12.2).dpRow) 0).toI)==5)=true then
 K13 true
 else
 if (gC 1 x12.2).isDp=true then
 K13 (((at_ ((gC 1 x12.2).dpRow) 0).toI)==9)
 else none
 else none).bind fun x15=>
 if (gB 2 x15.2)=true then
 if (gC 1 x15.2).isDp=true then
 (E.pc n_pattern_Check [[.str ((at_ ((gC 1 x15.2).dpRow) 4).toS)]]).bind fun y16=>
 if (((at_ (rowsAt y16 0) 0).toI) !=0)=true then
 some (1,[.r [.int ((at_ (rowsAt y16 0) 0).toI)]])
 else
 some (0,[.r [gC 1 x15.2]])
 else none
 else
 if (gC 1 x15.2).isDp=true then
 let K17:Bool→Option (Nat×List PV):=fun q18=>
 if q18=true then
 some (1,[.r [.int 15]])
 else
 some (0,[.r [gC 1 x15.2]])
 if (((at_ ((gC 1 x15.2).dpRow) 0).toI)==10)=true then
 if (gC 1 x15.2).isDp=true then
 (E.pc n_types_find [[gC 0 x15.2],[.str ((at_ ((gC 1 x15.2).dpRow) 1).toS)]]).bind fun y19=>
 K17 (decide (((at_ (rowsAt y19 0) 0).toI)<0))
 else none
 else
 K17 false
 else none).bind fun x20=>
 match x20.1 with
 |0=>
 if (gC 0 x20.2).isDp=true then
 (E.pc n_types_parts [(gC 0 x20.2).dpRow]).bind fun y22=>
 some [[.int ((at_ (rowsAt y22 0) 0).toI)]]
 else none
 |i21+1=>
 some [[.int (gI 0 x20.2)]]
theorem types_own_eq (E:Env) (p0:C) (p1:Row):runP E types_own_a [[p0],p1]=types_own E p0 p1:=by kernel_rfl
end Go.Ev
