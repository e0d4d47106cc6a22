/-
  A part of the proof: what the functions of the program compute.
-/
import Derived.Test.YtpagadadfpmeaaaGreatDoorZNum
set_option linter.all false
set_option maxRecDepth 100000
namespace Go.Ev
def clapref3_Node_h0 : Shape := { slots := [(1, .d (.one (.ref 29))), (4, .d lS), (65, .d (.one (.sl 47))), (66, .d lI), (67, .d lI)], objs := [] }
def clapref3_Node_o0 : List (Exit' × Shape) := [(.exit 0, { slots := [(1, .d (.one (.ref 29))), (4, .d lS)], objs := [] }), (.ret, { slots := [(2, .d lI)], objs := [] })]
def clapref3_Node_c0 : ACode := (.seq (.region [] [oq 68 (.icmp .lss (.t 67) (.t 66))] false 0)
 (.seq (.cond (.t 68) .skip
 (.exit 0))
 (.seq (.block 1 (.seq (.region [] [oq 69 (.iad 47 lA9 (.t 65) (.t 67)),
 oq 70 (.ld lA9 47 (.t 69)),
 oq 6 (.allocO 0 lA9 [.int 0, .bool false]),
 ⟨none, .st lA9 (.t 6) (.t 70), none, []⟩] false 1)
 (.seq (.region [] [oq 71 (.fad 1 1 47 4 (.t 6)),
 oq 72 (.ld lB 4 (.t 71)),
 oq 73 (.mov (.t 72)),
 ⟨some 74, .mov (.t 4), some (73, true), []⟩,
 ⟨some 75, .fad 0 1 47 5 (.t 6), some (73, true), []⟩,
 ⟨some 76, .ld lU 5 (.t 75), some (73, true), []⟩,
 ⟨some 77, .call 24 [lS, lU] [lB] [(.t 74), (.t 76)], some (73, true), []⟩,
 ⟨some 78, .not (.t 77), some (73, true), []⟩,
 oq 79 (.pick (.t 73) (.t 78) (.c lB [.bool false]))] false 0)
 (.cond (.t 79) (.seq (.region [] [oq 2 (.mov (.c lI [.int 3]))] false 0)
 .ret)
 .skip))))
 (.region [] [oq 80 (.ibin .add (.t 67) (.c lI [.int 1])),
 oq 67 (.mov (.t 80))] false 0))))
noncomputable def clapref3_Node_l0 (E : Env) (v0 : C) (v1 : List UInt8) (v2 : C) (v3 : Int) (v4 : Int) : Option (Nat × List PV) := E.fix (stepOf E clapref3_Node_c0 clapref3_Node_h0 clapref3_Node_o0) [.r [v0], .r [.str v1], .r [v2], .r [.int v3], .r [.int v4]]
noncomputable def clapref3_Node_b0 (E : Env) (X : C → List UInt8 → C → Int → Int → Option (Nat × List PV)) (v0 : C) (v1 : List UInt8) (v2 : C) (v3 : Int) (v4 : Int) : Option (Nat × List PV) :=
 if (decide (v4 < v3)) = true then
 if (0 : Int) ≤ v4 ∧ v4 < (v2.rows.length : Int) then
 let K10 : Bool → Option (Nat × List PV) := fun q11 =>
 if q11 = true then
 some (1, [.r [.int 3]])
 else
 X v0 v1 v2 v3 (Go.IntKind.i64.wrap (v4 + 1))
 if ((at_ (rowsAt v2.rows v4.toNat) 1).toB) = true then
 (E.pc n_clapref3_has [[.str v1], [.int ((at_ (rowsAt v2.rows v4.toNat) 0).toI)]]).bind fun y12 =>
 K10 (!((at_ (rowsAt y12 0) 0).toB))
 else
 K10 false
 else none
 else
 some (0, [.r [v0], .r [.str v1]])
theorem clapref3_Node_s0 (E : Env) (X : List PV → Option (Nat × List PV)) (v0 : C) (v1 : List UInt8) (v2 : C) (v3 : Int) (v4 : Int) : stepOf E clapref3_Node_c0 clapref3_Node_h0 clapref3_Node_o0 X [.r [v0], .r [.str v1], .r [v2], .r [.int v3], .r [.int v4]] = clapref3_Node_b0 E (fun (v0 : C) (v1 : List UInt8) (v2 : C) (v3 : Int) (v4 : Int) => X [.r [v0], .r [.str v1], .r [v2], .r [.int v3], .r [.int v4]]) v0 v1 v2 v3 v4 := by kernel_rfl
def clapref3_Node_a : AFun := { ps := [lA0], rs := [lI], res := [(false, 2, none)], body := (.seq (.region [] [oq 1 (.boxP lA0 29 (.t 0)),
 oq 2 (.mov (.c lI [.int 0]))] false 0)
 (.seq (.seq (.join [(.normal, { slots := [(1, .d (.one (.ref 29))), (17, .d lB)], objs := [] })] (.region [] [oq 10 (.fad 0 1 29 3 (.t 1)),
 oq 11 (.ld lI 3 (.t 10)),
 oq 12 (.icmp .lss (.t 11) (.c lI [.int 0])),
 oq 13 (.mov (.t 12)),
 ⟨some 14, .fad 0 1 29 3 (.t 1), some (13, false), []⟩,
 ⟨some 15, .ld lI 3 (.t 14), some (13, false), []⟩,
 ⟨some 16, .icmp .geq (.t 15) (.c lI [.int 19]), some (13, false), []⟩,
 oq 17 (.pick (.t 13) (.c lB [.bool true]) (.t 16))] false 0))
 (.cond (.t 17) (.seq (.region [] [oq 2 (.mov (.c lI [.int 1]))] false 0)
 .ret)
 .skip))
 (.seq (.region [] [oq 19 (.fad 0 1 29 3 (.t 1)),
 oq 20 (.ld lI 3 (.t 19)),
 oq 21 (.call 21 [lI] [lS, lS] [(.t 20)]),
 oq 18 (.mov (.t 21)),
 oq 22 (.ext 0 (.t 18)),
 oq 23 (.ext 1 (.t 18)),
 oq 3 (.mov (.t 22)),
 oq 4 (.mov (.t 23))] false 0)
 (.seq (.seq (.join [(.normal, { slots := [(1, .d (.one (.ref 29))), (4, .d lS), (65, .d (.one (.sl 47))), (66, .d lI), (67, .d lI)], objs := [] })] (.region [] [oq 24 (.fad 1 1 29 9 (.t 1)),
 ⟨some 25, .ld lS 9 (.t 24), none, [0]⟩,
 ⟨some 26, .scmp .neq (.t 25) (.c lS [.str ([] : List UInt8)]), none, [0, 1]⟩,
 ⟨some 27, .bld lA9 [.int 0, .bool false] [(0, 1, (.c lU [.int 110])), (1, 1, (.t 26))], none, [0, 1, 2]⟩,
 oq 28 (.fad 2 1 29 9 (.t 1)),
 ⟨some 29, .ld lS 9 (.t 28), none, [4]⟩,
 ⟨some 30, .scmp .neq (.t 29) (.c lS [.str ([] : List UInt8)]), none, [4, 5]⟩,
 ⟨some 31, .bld lA9 [.int 0, .bool false] [(0, 1, (.c lU [.int 116])), (1, 1, (.t 30))], none, [4, 5, 6]⟩,
 oq 32 (.fad 3 1 29 22 (.t 1)),
 ⟨some 33, .ld (.one (.sl 9)) 22 (.t 32), none, [8]⟩,
 ⟨some 34, .lenL (.t 33), none, [8, 9]⟩,
 ⟨some 35, .icmp .neq (.t 34) (.c lI [.int 0]), none, [8, 9, 10]⟩,
 ⟨some 36, .bld lA9 [.int 0, .bool false] [(0, 1, (.c lU [.int 115])), (1, 1, (.t 35))], none, [8, 9, 10, 11]⟩,
 oq 37 (.fad 4 1 29 3 (.t 1)),
 ⟨some 38, .ld lI 3 (.t 37), none, [13]⟩,
 ⟨some 39, .icmp .neq (.t 38) (.c lI [.int 0]), none, [13, 14]⟩,
 ⟨some 40, .bld lA9 [.int 0, .bool false] [(0, 1, (.c lU [.int 105])), (1, 1, (.t 39))], none, [13, 14, 15]⟩,
 oq 41 (.fad 5 1 29 3 (.t 1)),
 ⟨some 42, .ld lI 3 (.t 41), none, [17]⟩,
 ⟨some 43, .icmp .neq (.t 42) (.c lI [.int 0]), none, [17, 18]⟩,
 ⟨some 44, .mov (.t 43), none, [17, 18, 19]⟩,
 ⟨some 45, .fad 6 1 29 3 (.t 1), some (44, false), [17, 18, 19, 20]⟩,
 ⟨some 46, .ld lI 3 (.t 45), some (44, false), [17, 18, 19, 20, 21]⟩,
 ⟨some 47, .icmp .neq (.t 46) (.c lI [.int 0]), some (44, false), [17, 18, 19, 20, 21, 22]⟩,
 ⟨some 48, .pick (.t 44) (.c lB [.bool true]) (.t 47), none, [17, 18, 19, 20, 21, 22, 23]⟩,
 ⟨some 49, .bld lA9 [.int 0, .bool false] [(0, 1, (.c lU [.int 98])), (1, 1, (.t 48))], none, [17, 18, 19, 20, 21, 22, 23, 24]⟩,
 oq 50 (.fad 7 1 29 5 (.t 1)),
 ⟨some 51, .ld lU 5 (.t 50), none, [26]⟩,
 ⟨some 52, .icmp .neq (.t 51) (.c lU [.int 0]), none, [26, 27]⟩,
 ⟨some 53, .bld lA9 [.int 0, .bool false] [(0, 1, (.c lU [.int 112])), (1, 1, (.t 52))], none, [26, 27, 28]⟩,
 oq 54 (.fad 8 4 29 25 (.t 1)),
 ⟨some 55, .ld lA3 25 (.t 54), none, [30]⟩,
 ⟨some 56, .call 23 [] [lA3] [], none, [17, 18, 19, 20]⟩,
 ⟨some 57, .call 22 [lA3, lA3] [lB] [(.t 55), (.t 56)], none, [17, 18, 19, 20, 30, 31, 32]⟩,
 ⟨some 58, .not (.t 57), none, [17, 18, 19, 20, 30, 31, 32, 33]⟩,
 ⟨some 59, .bld lA9 [.int 0, .bool false] [(0, 1, (.c lU [.int 118])), (1, 1, (.t 58))], none, [17, 18, 19, 20, 30, 31, 32, 33, 34]⟩,
 oq 60 (.fad 12 1 29 26 (.t 1)),
 ⟨some 61, .ld (.one (.sl 87)) 26 (.t 60), none, [36]⟩,
 ⟨some 62, .lenL (.t 61), none, [36, 37]⟩,
 ⟨some 63, .icmp .neq (.t 62) (.c lI [.int 0]), none, [36, 37, 38]⟩,
 ⟨some 64, .bld lA9 [.int 0, .bool false] [(0, 1, (.c lU [.int 108])), (1, 1, (.t 63))], none, [36, 37, 38, 39]⟩,
 ⟨some 65, .bsl 47 lA9 8 [.int 0, .bool false] [(0, (.t 27)), (1, (.t 31)), (2, (.t 36)), (3, (.t 40)), (4, (.t 49)), (5, (.t 53)), (6, (.t 59)), (7, (.t 64))], none, [0, 1, 2, 3, 4, 5, 6, 7, 8, 9, 10, 11, 12, 13, 14, 15, 16, 17, 18, 19, 20, 21, 22, 23, 24, 25, 26, 27, 28, 29, 30, 31, 32, 33, 34, 35, 36, 37, 38, 39, 40]⟩,
 ⟨some 66, .lenL (.t 65), none, [0, 1, 2, 3, 4, 5, 6, 7, 8, 9, 10, 11, 12, 13, 14, 15, 16, 17, 18, 19, 20, 21, 22, 23, 24, 25, 26, 27, 28, 29, 30, 31, 32, 33, 34, 35, 36, 37, 38, 39, 40, 41]⟩,
 oq 67 (.mov (.c lI [.int 0]))] true 0))
 (.block 0 (.loop clapref3_Node_h0 clapref3_Node_o0 clapref3_Node_c0)))
 (.seq (.seq (.region [] [oq 81 (.fad 13 1 29 27 (.t 1)),
 oq 82 (.ld (.one (.sl 29)) 27 (.t 81)),
 oq 83 (.lenL (.t 82)),
 oq 7 (.mov (.t 83))] false 0)
 (.join [(.normal, { slots := [(1, .d (.one (.ref 29))), (4, .d lS)], objs := [] }), (.ret, { slots := [(2, .d lI)], objs := [] })] (.block 2 (.seq (.seq (.join [(.normal, { slots := [(1, .d (.one (.ref 29))), (4, .d lS), (7, .d lI), (84, .d lB)], objs := [] })] (.region [] [oq 85 (.mov (.t 4)),
 oq 86 (.call 24 [lS, lU] [lB] [(.t 85), (.c lU [.int 49])]),
 oq 87 (.mov (.t 86)),
 ⟨some 88, .mov (.t 7), some (87, true), []⟩,
 ⟨some 89, .icmp .neq (.t 88) (.c lI [.int 1]), some (87, true), []⟩,
 oq 90 (.pick (.t 87) (.t 89) (.c lB [.bool false])),
 oq 84 (.mov (.t 90))] false 0))
 (.cond (.t 84) .skip
 (.seq (.join [(.normal, { slots := [(1, .d (.one (.ref 29))), (4, .d lS), (7, .d lI), (84, .d lB)], objs := [] })] (.region [] [oq 91 (.mov (.t 4)),
 oq 92 (.call 24 [lS, lU] [lB] [(.t 91), (.c lU [.int 43])]),
 oq 93 (.mov (.t 92)),
 ⟨some 94, .mov (.t 7), some (93, true), []⟩,
 ⟨some 95, .icmp .eql (.t 94) (.c lI [.int 0]), some (93, true), []⟩,
 oq 96 (.pick (.t 93) (.t 95) (.c lB [.bool false])),
 oq 84 (.mov (.t 96))] false 0))
 (.cond (.t 84) .skip
 (.region [] [oq 97 (.mov (.t 4)),
 oq 98 (.call 24 [lS, lU] [lB] [(.t 97), (.c lU [.int 49])]),
 oq 99 (.not (.t 98)),
 oq 100 (.mov (.t 99)),
 ⟨some 101, .mov (.t 4), some (100, true), []⟩,
 ⟨some 102, .call 24 [lS, lU] [lB] [(.t 101), (.c lU [.int 43])], some (100, true), []⟩,
 ⟨some 103, .not (.t 102), some (100, true), []⟩,
 oq 104 (.pick (.t 100) (.t 103) (.c lB [.bool false])),
 oq 105 (.mov (.t 104)),
 ⟨some 106, .mov (.t 7), some (105, true), []⟩,
 ⟨some 107, .icmp .neq (.t 106) (.c lI [.int 0]), some (105, true), []⟩,
 oq 108 (.pick (.t 105) (.t 107) (.c lB [.bool false])),
 oq 84 (.mov (.t 108))] false 0)))))
 (.cond (.t 84) (.seq (.region [] [oq 2 (.mov (.c lI [.int 3]))] false 0)
 .ret)
 .skip)))))
 (.seq (.seq (.join [(.normal, { slots := [(1, .d (.one (.ref 29))), (4, .d lS), (126, .d lB)], objs := [] })] (.region [] [oq 109 (.mov (.t 4)),
 oq 110 (.call 24 [lS, lU] [lB] [(.t 109), (.c lU [.int 110])]),
 oq 111 (.mov (.t 110)),
 ⟨some 112, .fad 1 1 29 9 (.t 1), some (111, true), []⟩,
 ⟨some 113, .ld lS 9 (.t 112), some (111, true), []⟩,
 ⟨some 114, .call 18 [lS] [lB] [(.t 113)], some (111, true), []⟩,
 ⟨some 115, .not (.t 114), some (111, true), []⟩,
 oq 116 (.pick (.t 111) (.t 115) (.c lB [.bool false])),
 oq 117 (.mov (.t 116)),
 ⟨some 118, .fad 0 1 29 3 (.t 1), some (117, true), []⟩,
 ⟨some 119, .ld lI 3 (.t 118), some (117, true), []⟩,
 ⟨some 120, .icmp .neq (.t 119) (.c lI [.int 13]), some (117, true), []⟩,
 ⟨some 121, .mov (.t 120), some (117, true), []⟩,
 ⟨some 122, .fad 1 1 29 9 (.t 1), some (121, false), []⟩,
 ⟨some 123, .ld lS 9 (.t 122), some (121, false), []⟩,
 ⟨some 124, .scmp .neq (.t 123) (.c lS [.str ([] : List UInt8)]), some (121, false), []⟩,
 ⟨some 125, .pick (.t 121) (.c lB [.bool true]) (.t 124), some (117, true), []⟩,
 oq 126 (.pick (.t 117) (.t 125) (.c lB [.bool false]))] false 0))
 (.cond (.t 126) (.seq (.region [] [oq 2 (.mov (.c lI [.int 15]))] false 0)
 .ret)
 .skip))
 (.seq (.seq (.join [(.normal, { slots := [(1, .d (.one (.ref 29))), (4, .d lS), (134, .d lB)], objs := [] })] (.region [] [oq 127 (.mov (.t 4)),
 oq 128 (.call 24 [lS, lU] [lB] [(.t 127), (.c lU [.int 116])]),
 oq 129 (.mov (.t 128)),
 ⟨some 130, .fad 2 1 29 9 (.t 1), some (129, true), []⟩,
 ⟨some 131, .ld lS 9 (.t 130), some (129, true), []⟩,
 ⟨some 132, .call 18 [lS] [lB] [(.t 131)], some (129, true), []⟩,
 ⟨some 133, .not (.t 132), some (129, true), []⟩,
 oq 134 (.pick (.t 129) (.t 133) (.c lB [.bool false]))] false 0))
 (.cond (.t 134) (.seq (.region [] [oq 2 (.mov (.c lI [.int 15]))] false 0)
 .ret)
 .skip))
 (.seq (.seq (.region [] [oq 135 (.mov (.t 4)),
 oq 136 (.call 24 [lS, lU] [lB] [(.t 135), (.c lU [.int 118])])] false 0)
 (.join [(.normal, { slots := [(1, .d (.one (.ref 29)))], objs := [] }), (.ret, { slots := [(2, .d lI)], objs := [] })] (.cond (.t 136) (.seq (.seq (.region [] [oq 137 (.fad 8 4 29 25 (.t 1)),
 oq 138 (.ld lA3 25 (.t 137)),
 oq 139 (.call 19 [lA3] [lI] [(.t 138)]),
 oq 8 (.mov (.t 139))] false 0)
 (.seq (.region [] [oq 140 (.mov (.t 8)),
 oq 141 (.icmp .neq (.t 140) (.c lI [.int 0]))] false 0)
 (.cond (.t 141) (.seq (.region [] [oq 142 (.mov (.t 8)),
 oq 2 (.mov (.t 142))] false 0)
 .ret)
 .skip)))
 (.seq (.region [] [oq 143 (.fad 8 4 29 25 (.t 1)),
 oq 144 (.fad 0 1 25 3 (.t 143)),
 oq 145 (.ld lI 3 (.t 144)),
 oq 9 (.mov (.t 145))] false 0)
 (.seq (.region [] [oq 146 (.fad 0 1 29 3 (.t 1)),
 oq 147 (.ld lI 3 (.t 146)),
 oq 148 (.icmp .eql (.t 147) (.c lI [.int 5])),
 oq 149 (.mov (.t 148)),
 ⟨some 150, .mov (.t 9), some (149, true), []⟩,
 ⟨some 151, .icmp .neq (.t 150) (.c lI [.int 0]), some (149, true), []⟩,
 oq 152 (.pick (.t 149) (.t 151) (.c lB [.bool false])),
 oq 153 (.mov (.t 152)),
 ⟨some 154, .mov (.t 9), some (153, true), []⟩,
 ⟨some 155, .call 25 [lI] [lB] [(.t 154)], some (153, true), []⟩,
 ⟨some 156, .not (.t 155), some (153, true), []⟩,
 oq 157 (.pick (.t 153) (.t 156) (.c lB [.bool false])),
 oq 158 (.mov (.t 157)),
 ⟨some 159, .fad 0 1 29 3 (.t 1), some (158, false), []⟩,
 ⟨some 160, .ld lI 3 (.t 159), some (158, false), []⟩,
 ⟨some 161, .icmp .eql (.t 160) (.c lI [.int 15]), some (158, false), []⟩,
 ⟨some 162, .mov (.t 161), some (158, false), []⟩,
 ⟨some 163, .mov (.t 9), some (162, true), []⟩,
 ⟨some 164, .call 25 [lI] [lB] [(.t 163)], some (162, true), []⟩,
 ⟨some 165, .not (.t 164), some (162, true), []⟩,
 ⟨some 166, .pick (.t 162) (.t 165) (.c lB [.bool false]), some (158, false), []⟩,
 oq 167 (.pick (.t 158) (.c lB [.bool true]) (.t 166))] false 0)
 (.cond (.t 167) (.seq (.region [] [oq 2 (.mov (.c lI [.int 8]))] false 0)
 .ret)
 .skip))))
 .skip)))
 (.seq (.region [] [oq 168 (.ld lA0 29 (.t 1)),
 oq 169 (.call 26 [lA0] [lI] [(.t 168)]),
 oq 2 (.mov (.t 169))] false 0)
 .ret))))))))) }
/-- clapperbridge/clapref3.Node -/
noncomputable def clapref3_Node (E : Env) (p0 : Row) : Option (List Row) :=
 (let K1 : Bool → Option (Nat × List PV) := fun q2 =>
  some (0, [.r [.dp p0], .r [.bool q2]])
 if (decide (((at_ p0 0).toI) < 0)) = true then
  K1 true
 else
  K1 (decide (((at_ p0 0).toI) ≥ 19))).bind fun x3 =>
  if (gB 1 x3.2) = true then
   some [[.int 1]]
  else
   if (gC 0 x3.2).isDp = true then
    (E.pc n_clapref3_used [[.int ((at_ ((gC 0 x3.2).dpRow) 0).toI)]]).bind fun y4 =>
     (if (gC 0 x3.2).isDp = true then
      if (gC 0 x3.2).isDp = true then
       if (gC 0 x3.2).isDp = true then
        if (gC 0 x3.2).isDp = true then
         if (gC 0 x3.2).isDp = true then
          let K5 : Bool → Option (Nat × List PV) := fun q6 =>
           if (gC 0 x3.2).isDp = true then
            if (gC 0 x3.2).isDp = true then
             (E.pc n_clapref3_Zero []).bind fun y7 =>
              (E.pc n_clapref3_same [[at_ ((gC 0 x3.2).dpRow) 8, at_ ((gC 0 x3.2).dpRow) 9, at_ ((gC 0 x3.2).dpRow) 10, at_ ((gC 0 x3.2).dpRow) 11], rowsAt y7 0]).bind fun y8 =>
               if (gC 0 x3.2).isDp = true then
                some (0, [.r [gC 0 x3.2], .r [.str ((at_ (rowsAt y4 1) 0).toS)], .r [.sl ([[.int 110, .bool (!(((at_ ((gC 0 x3.2).dpRow) 1).toS) == ([] : List UInt8)))], [.int 116, .bool (!(((at_ ((gC 0 x3.2).dpRow) 2).toS) == ([] : List UInt8)))], [.int 115, .bool ((((at_ ((gC 0 x3.2).dpRow) 3).rows).length : Int) != 0)], [.int 105, .bool (((at_ ((gC 0 x3.2).dpRow) 4).toI) != 0)], [.int 98, .bool q6], [.int 112, .bool (((at_ ((gC 0 x3.2).dpRow) 7).toI) != 0)], [.int 118, .bool (!((at_ (rowsAt y8 0) 0).toB))], [.int 108, .bool ((((at_ ((gC 0 x3.2).dpRow) 12).rows).length : Int) != 0)]] : List Row)], .r [.int (([[.int 110, .bool (!(((at_ ((gC 0 x3.2).dpRow) 1).toS) == ([] : List UInt8)))], [.int 116, .bool (!(((at_ ((gC 0 x3.2).dpRow) 2).toS) == ([] : List UInt8)))], [.int 115, .bool ((((at_ ((gC 0 x3.2).dpRow) 3).rows).length : Int) != 0)], [.int 105, .bool (((at_ ((gC 0 x3.2).dpRow) 4).toI) != 0)], [.int 98, .bool q6], [.int 112, .bool (((at_ ((gC 0 x3.2).dpRow) 7).toI) != 0)], [.int 118, .bool (!((at_ (rowsAt y8 0) 0).toB))], [.int 108, .bool ((((at_ ((gC 0 x3.2).dpRow) 12).rows).length : Int) != 0)]] : List Row).length : Int)], .r [.int 0]])
               else none
            else none
           else none
          if (((at_ ((gC 0 x3.2).dpRow) 5).toI) != 0) = true then
           K5 true
          else
           if (gC 0 x3.2).isDp = true then
            K5 (((at_ ((gC 0 x3.2).dpRow) 6).toI) != 0)
           else none
         else none
        else none
       else none
      else none
     else none).bind fun x9 =>
      (clapref3_Node_l0 E (gC 0 x9.2) (gS 1 x9.2) (gC 2 x9.2) (gI 3 x9.2) (gI 4 x9.2)).bind fun x13 =>
       match x13.1 with
       | 0 =>
        if (gC 0 x13.2).isDp = true then
         (((E.pc n_clapref3_has [[.str (gS 1 x13.2)], [.int 49]]).bind fun y15 =>
          let K16 : Bool → Option (Nat × List PV) := fun q17 =>
           some (0, [.r [gC 0 x13.2], .r [.str (gS 1 x13.2)], .r [.int (((at_ ((gC 0 x13.2).dpRow) 13).rows).length : Int)], .r [.bool q17]])
          if ((at_ (rowsAt y15 0) 0).toB) = true then
           K16 ((((at_ ((gC 0 x13.2).dpRow) 13).rows).length : Int) != 1)
          else
           K16 false).bind fun x18 =>
          if (gB 3 x18.2) = true then
           if (gB 3 x18.2) = true then
            some (1, [.r [.int 3]])
           else
            some (0, [.r [gC 0 x18.2], .r [.str (gS 1 x18.2)]])
          else
           ((E.pc n_clapref3_has [[.str (gS 1 x18.2)], [.int 43]]).bind fun y19 =>
            let K20 : Bool → Option (Nat × List PV) := fun q21 =>
             some (0, [.r [gC 0 x18.2], .r [.str (gS 1 x18.2)], .r [.int (gI 2 x18.2)], .r [.bool q21]])
            if ((at_ (rowsAt y19 0) 0).toB) = true then
             K20 ((gI 2 x18.2) == 0)
            else
             K20 false).bind fun x22 =>
            if (gB 3 x22.2) = true then
             if (gB 3 x22.2) = true then
              some (1, [.r [.int 3]])
             else
              some (0, [.r [gC 0 x22.2], .r [.str (gS 1 x22.2)]])
            else
             (E.pc n_clapref3_has [[.str (gS 1 x22.2)], [.int 49]]).bind fun y23 =>
              let K24 : Bool → Option (Nat × List PV) := fun q25 =>
               let K26 : Bool → Option (Nat × List PV) := fun q27 =>
                if q27 = true then
                 some (1, [.r [.int 3]])
                else
                 some (0, [.r [gC 0 x22.2], .r [.str (gS 1 x22.2)]])
               if q25 = true then
                K26 ((gI 2 x22.2) != 0)
               else
                K26 false
              if (!((at_ (rowsAt y23 0) 0).toB)) = true then
               (E.pc n_clapref3_has [[.str (gS 1 x22.2)], [.int 43]]).bind fun y28 =>
                K24 (!((at_ (rowsAt y28 0) 0).toB))
              else
               K24 false).bind fun x29 =>
          match x29.1 with
          | 0 =>
           ((E.pc n_clapref3_has [[.str (gS 1 x29.2)], [.int 110]]).bind fun y31 =>
            let K32 : Bool → Option (Nat × List PV) := fun q33 =>
             let K34 : Bool → Option (Nat × List PV) := fun q35 =>
              some (0, [.r [gC 0 x29.2], .r [.str (gS 1 x29.2)], .r [.bool q35]])
             if q33 = true then
              if (gC 0 x29.2).isDp = true then
               let K36 : Bool → Option (Nat × List PV) := fun q37 =>
                K34 q37
               if (((at_ ((gC 0 x29.2).dpRow) 0).toI) != 13) = true then
                K36 true
               else
                if (gC 0 x29.2).isDp = true then
                 K36 (!(((at_ ((gC 0 x29.2).dpRow) 1).toS) == ([] : List UInt8)))
                else none
              else none
             else
              K34 false
            if ((at_ (rowsAt y31 0) 0).toB) = true then
             if (gC 0 x29.2).isDp = true then
              (E.pc n_value_Name [[.str ((at_ ((gC 0 x29.2).dpRow) 1).toS)]]).bind fun y38 =>
               K32 (!((at_ (rowsAt y38 0) 0).toB))
             else none
            else
             K32 false).bind fun x39 =>
            if (gB 2 x39.2) = true then
             some [[.int 15]]
            else
             ((E.pc n_clapref3_has [[.str (gS 1 x39.2)], [.int 116]]).bind fun y40 =>
              let K41 : Bool → Option (Nat × List PV) := fun q42 =>
               some (0, [.r [gC 0 x39.2], .r [.str (gS 1 x39.2)], .r [.bool q42]])
              if ((at_ (rowsAt y40 0) 0).toB) = true then
               if (gC 0 x39.2).isDp = true then
                (E.pc n_value_Name [[.str ((at_ ((gC 0 x39.2).dpRow) 2).toS)]]).bind fun y43 =>
                 K41 (!((at_ (rowsAt y43 0) 0).toB))
               else none
              else
               K41 false).bind fun x44 =>
              if (gB 2 x44.2) = true then
               some [[.int 15]]
              else
               (E.pc n_clapref3_has [[.str (gS 1 x44.2)], [.int 118]]).bind fun y45 =>
                (if ((at_ (rowsAt y45 0) 0).toB) = true then
                 if (gC 0 x44.2).isDp = true then
                  (E.pc n_value_Check [[at_ ((gC 0 x44.2).dpRow) 8, at_ ((gC 0 x44.2).dpRow) 9, at_ ((gC 0 x44.2).dpRow) 10, at_ ((gC 0 x44.2).dpRow) 11]]).bind fun y46 =>
                   if (((at_ (rowsAt y46 0) 0).toI) != 0) = true then
                    some (1, [.r [.int ((at_ (rowsAt y46 0) 0).toI)]])
                   else
                    if (gC 0 x44.2).isDp = true then
                     if (gC 0 x44.2).isDp = true then
                      let K47 : Bool → Option (Nat × List PV) := fun q48 =>
                       let K49 : Bool → Option (Nat × List PV) := fun q50 =>
                        let K51 : Bool → Option (Nat × List PV) := fun q52 =>
                         if q52 = true then
                          some (1, [.r [.int 8]])
                         else
                          some (0, [.r [gC 0 x44.2]])
                        if q50 = true then
                         K51 true
                        else
                         if (gC 0 x44.2).isDp = true then
                          let K53 : Bool → Option (Nat × List PV) := fun q54 =>
                           K51 q54
                          if (((at_ ((gC 0 x44.2).dpRow) 0).toI) == 15) = true then
                           (E.pc n_clapref3_plain [[.int ((at_ ((gC 0 x44.2).dpRow) 8).toI)]]).bind fun y55 =>
                            K53 (!((at_ (rowsAt y55 0) 0).toB))
                          else
                           K53 false
                         else none
                       if q48 = true then
                        (E.pc n_clapref3_plain [[.int ((at_ ((gC 0 x44.2).dpRow) 8).toI)]]).bind fun y56 =>
                         K49 (!((at_ (rowsAt y56 0) 0).toB))
                       else
                        K49 false
                      if (((at_ ((gC 0 x44.2).dpRow) 0).toI) == 5) = true then
                       K47 (((at_ ((gC 0 x44.2).dpRow) 8).toI) != 0)
                      else
                       K47 false
                     else none
                    else none
                 else none
                else
                 some (0, [.r [gC 0 x44.2]])).bind fun x57 =>
                 match x57.1 with
                 | 0 =>
                  if (gC 0 x57.2).isDp = true then
                   (E.pc n_clapref3_lists [(gC 0 x57.2).dpRow]).bind fun y59 =>
                    some [[.int ((at_ (rowsAt y59 0) 0).toI)]]
                  else none
                 | i58 + 1 =>
                  some [[.int (gI 0 x57.2)]]
          | i30 + 1 =>
           some [[.int (gI 0 x29.2)]]
        else none
       | i14 + 1 =>
        some [[.int (gI 0 x13.2)]]
   else none
theorem clapref3_Node_eq (E : Env) (p0 : Row) : runP E clapref3_Node_a [p0] = clapref3_Node E p0 := by kernel_rfl

def clapref3_Nodes_h0 : Shape := { slots := [(3, .sw 0), (9, .d (.one (.sl 29))), (10, .d lI), (11, .d lI)], objs := [.sarr 29 lA0] }
def clapref3_Nodes_o0 : List (Exit' × Shape) := [(.exit 0, { slots := [(3, .sw 0)], objs := [.sarr 29 lA0] })]
def clapref3_Nodes_c0 : ACode := (.seq (.region [] [oq 12 (.icmp .lss (.t 11) (.t 10))] false 0)
 (.seq (.cond (.t 12) .skip
 (.exit 0))
 (.seq (.block 1 (.seq (.region [] [oq 13 (.iad 29 lA0 (.t 9) (.t 11)),
 oq 14 (.ld lA0 29 (.t 13)),
 oq 5 (.allocO 0 lA0 [.int 0, .str [], .str [], .nils, .int 0, .int 0, .int 0, .int 0, .int 0, .int 0, .str [], .nils, .nils, .nils]),
 ⟨none, .st lA0 (.t 5) (.t 14), none, []⟩] false 1)
 (.region [] [oq 15 (.mov (.t 3)),
 oq 16 (.ld lA0 29 (.t 5)),
 oq 17 (.call 10 [lA0] [(.one (.sl 29))] [(.t 16)]),
 oq 18 (.appW 0 29 lA0 200 (.t 15) (.t 17)),
 oq 3 (.mov (.t 18))] false 1)))
 (.region [] [oq 19 (.ibin .add (.t 11) (.c lI [.int 1])),
 oq 11 (.mov (.t 19))] false 0))))
noncomputable def clapref3_Nodes_l0 (E : Env) (v0 : C) (v1 : Int) (v2 : Int) (v3 : C) : Option (Nat × List PV) := E.fix (stepOf E clapref3_Nodes_c0 clapref3_Nodes_h0 clapref3_Nodes_o0) [.r [v0], .r [.int v1], .r [.int v2], .r [v3]]
noncomputable def clapref3_Nodes_b0 (E : Env) (X : C → Int → Int → C → Option (Nat × List PV)) (v0 : C) (v1 : Int) (v2 : Int) (v3 : C) : Option (Nat × List PV) :=
 if (decide (v2 < v1)) = true then
 if (0 : Int) ≤ v2 ∧ v2 < (v0.rows.length : Int) then
 (E.pc n_clapref3_Nodes [rowsAt v0.rows v2.toNat]).bind fun y1 =>
 if (v3.rows.length + ((at_ (rowsAt y1 0) 0).rows).length) * 200 ≤ 140737488355328 then
 X v0 v1 (Go.IntKind.i64.wrap (v2 + 1)) (appC v3 ((at_ (rowsAt y1 0) 0).rows))
 else none
 else none
 else
 some (0, [.r [v3]])
theorem clapref3_Nodes_s0 (E : Env) (X : List PV → Option (Nat × List PV)) (v0 : C) (v1 : Int) (v2 : Int) (v3 : C) : stepOf E clapref3_Nodes_c0 clapref3_Nodes_h0 clapref3_Nodes_o0 X [.r [v0], .r [.int v1], .r [.int v2], .r [v3]] = clapref3_Nodes_b0 E (fun (v0 : C) (v1 : Int) (v2 : Int) (v3 : C) => X [.r [v0], .r [.int v1], .r [.int v2], .r [v3]]) v0 v1 v2 v3 := by kernel_rfl
def clapref3_Nodes_a : AFun := { ps := [lA0], rs := [(.one (.sl 29))], res := [(false, 2, (some lA0))], body := (.seq (.region [] [oq 1 (.boxP lA0 29 (.t 0)),
 oq 2 (.mov (.c (.one (.sl 29)) [.nils]))] false 0)
 (.seq (.region [] [oq 6 (.ld lA0 29 (.t 1)),
 oq 7 (.bslS 0 29 lA0 1 [.int 0, .str [], .str [], .nils, .int 0, .int 0, .int 0, .int 0, .int 0, .int 0, .str [], .nils, .nils, .nils] [(0, (.t 6))]),
 oq 3 (.mov (.t 7))] false 1)
 (.seq (.seq (.region [] [oq 8 (.fad 13 1 29 27 (.t 1)),
 oq 9 (.ld (.one (.sl 29)) 27 (.t 8)),
 oq 10 (.lenL (.t 9)),
 oq 11 (.mov (.c lI [.int 0]))] false 0)
 (.block 0 (.loop clapref3_Nodes_h0 clapref3_Nodes_o0 clapref3_Nodes_c0)))
 (.seq (.region [] [oq 20 (.mov (.t 3)),
 oq 2 (.mov (.t 20))] false 0)
 .ret)))) }
/-- clapperbridge/clapref3.Nodes -/
noncomputable def clapref3_Nodes (E : Env) (p0 : Row) : Option (List Row) :=
 (clapref3_Nodes_l0 E (at_ p0 13) (((at_ p0 13).rows).length : Int) 0 (.sl ([p0] : List Row))).bind fun x2 =>
 some [[gC 0 x2.2]]
theorem clapref3_Nodes_eq (E : Env) (p0 : Row) : runP E clapref3_Nodes_a [p0] = clapref3_Nodes E p0 := by kernel_rfl

def clapref3_Levels_h0 : Shape := { slots := [(3, .d lI), (8, .d (.one (.sl 29))), (9, .d lI), (10, .d lI)], objs := [] }
def clapref3_Levels_o0 : List (Exit' × Shape) := [(.exit 0, { slots := [(3, .d lI)], objs := [] })]
def clapref3_Levels_c0 : ACode := (.seq (.region [] [oq 11 (.icmp .lss (.t 10) (.t 9))] false 0)
 (.seq (.cond (.t 11) .skip
 (.exit 0))
 (.seq (.block 1 (.seq (.region [] [oq 12 (.iad 29 lA0 (.t 8) (.t 10)),
 oq 13 (.ld lA0 29 (.t 12)),
 oq 5 (.allocO 0 lA0 [.int 0, .str [], .str [], .nils, .int 0, .int 0, .int 0, .int 0, .int 0, .int 0, .str [], .nils, .nils, .nils]),
 ⟨none, .st lA0 (.t 5) (.t 13), none, []⟩] false 1)
 (.seq (.region [] [oq 14 (.ld lA0 29 (.t 5)),
 oq 15 (.call 12 [lA0] [lI] [(.t 14)]),
 oq 6 (.mov (.t 15))] false 0)
 (.seq (.region [] [oq 16 (.mov (.t 6)),
 oq 17 (.mov (.t 3)),
 oq 18 (.icmp .gtr (.t 16) (.t 17))] false 0)
 (.cond (.t 18) (.region [] [oq 19 (.mov (.t 6)),
 oq 3 (.mov (.t 19))] false 0)
 .skip)))))
 (.region [] [oq 20 (.ibin .add (.t 10) (.c lI [.int 1])),
 oq 10 (.mov (.t 20))] false 0))))
noncomputable def clapref3_Levels_l0 (E : Env) (v0 : Int) (v1 : C) (v2 : Int) (v3 : Int) : Option (Nat × List PV) := E.fix (stepOf E clapref3_Levels_c0 clapref3_Levels_h0 clapref3_Levels_o0) [.r [.int v0], .r [v1], .r [.int v2], .r [.int v3]]
noncomputable def clapref3_Levels_b0 (E : Env) (X : Int → C → Int → Int → Option (Nat × List PV)) (v0 : Int) (v1 : C) (v2 : Int) (v3 : Int) : Option (Nat × List PV) :=
 if (decide (v3 < v2)) = true then
 if (0 : Int) ≤ v3 ∧ v3 < (v1.rows.length : Int) then
 (E.pc n_clapref3_Levels [rowsAt v1.rows v3.toNat]).bind fun y1 =>
 if (decide (((at_ (rowsAt y1 0) 0).toI) > v0)) = true then
 X ((at_ (rowsAt y1 0) 0).toI) v1 v2 (Go.IntKind.i64.wrap (v3 + 1))
 else
 X v0 v1 v2 (Go.IntKind.i64.wrap (v3 + 1))
 else none
 else
 some (0, [.r [.int v0]])
theorem clapref3_Levels_s0 (E : Env) (X : List PV → Option (Nat × List PV)) (v0 : Int) (v1 : C) (v2 : Int) (v3 : Int) : stepOf E clapref3_Levels_c0 clapref3_Levels_h0 clapref3_Levels_o0 X [.r [.int v0], .r [v1], .r [.int v2], .r [.int v3]] = clapref3_Levels_b0 E (fun (v0 : Int) (v1 : C) (v2 : Int) (v3 : Int) => X [.r [.int v0], .r [v1], .r [.int v2], .r [.int v3]]) v0 v1 v2 v3 := by kernel_rfl
def clapref3_Levels_a : AFun := { ps := [lA0], rs := [lI], res := [(false, 2, none)], body := (.seq (.region [] [oq 1 (.boxP lA0 29 (.t 0)),
 oq 2 (.mov (.c lI [.int 0]))] false 0)
 (.seq (.region [] [oq 3 (.mov (.c lI [.int 0]))] false 0)
 (.seq (.seq (.region [] [oq 7 (.fad 13 1 29 27 (.t 1)),
 oq 8 (.ld (.one (.sl 29)) 27 (.t 7)),
 oq 9 (.lenL (.t 8)),
 oq 10 (.mov (.c lI [.int 0]))] false 0)
 (.block 0 (.loop clapref3_Levels_h0 clapref3_Levels_o0 clapref3_Levels_c0)))
 (.seq (.region [] [oq 21 (.mov (.t 3)),
 oq 22 (.ibin .add (.t 21) (.c lI [.int 1])),
 oq 2 (.mov (.t 22))] false 0)
 .ret)))) }
/-- clapperbridge/clapref3.Levels -/
noncomputable def clapref3_Levels (E : Env) (p0 : Row) : Option (List Row) :=
 (clapref3_Levels_l0 E 0 (at_ p0 13) (((at_ p0 13).rows).length : Int) 0).bind fun x2 =>
 some [[.int (Go.IntKind.i64.wrap ((gI 0 x2.2) + 1))]]
theorem clapref3_Levels_eq (E : Env) (p0 : Row) : runP E clapref3_Levels_a [p0] = clapref3_Levels E p0 := by kernel_rfl

def clapref3_Check_h0 : Shape := { slots := [(17, .d (.one (.sl 29))), (18, .d lI), (19, .d lI)], objs := [] }
def clapref3_Check_o0 : List (Exit' × Shape) := [(.exit 0, { slots := [], objs := [] }), (.ret, { slots := [(2, .d lI)], objs := [] })]
def clapref3_Check_c0 : ACode := (.seq (.region [] [oq 20 (.icmp .lss (.t 19) (.t 18))] false 0)
 (.seq (.cond (.t 20) .skip
 (.exit 0))
 (.seq (.block 1 (.seq (.region [] [oq 21 (.iad 29 lA0 (.t 17) (.t 19)),
 oq 22 (.ld lA0 29 (.t 21)),
 oq 5 (.allocO 0 lA0 [.int 0, .str [], .str [], .nils, .int 0, .int 0, .int 0, .int 0, .int 0, .int 0, .str [], .nils, .nils, .nils]),
 ⟨none, .st lA0 (.t 5) (.t 22), none, []⟩] false 1)
 (.seq (.region [] [oq 23 (.ld lA0 29 (.t 5)),
 oq 24 (.call 8 [lA0] [lI] [(.t 23)]),
 oq 6 (.mov (.t 24))] false 0)
 (.seq (.region [] [oq 25 (.mov (.t 6)),
 oq 26 (.icmp .neq (.t 25) (.c lI [.int 0]))] false 0)
 (.cond (.t 26) (.seq (.region [] [oq 27 (.mov (.t 6)),
 oq 2 (.mov (.t 27))] false 0)
 .ret)
 .skip)))))
 (.region [] [oq 28 (.ibin .add (.t 19) (.c lI [.int 1])),
 oq 19 (.mov (.t 28))] false 0))))
noncomputable def clapref3_Check_l0 (E : Env) (v0 : C) (v1 : Int) (v2 : Int) : Option (Nat × List PV) := E.fix (stepOf E clapref3_Check_c0 clapref3_Check_h0 clapref3_Check_o0) [.r [v0], .r [.int v1], .r [.int v2]]
noncomputable def clapref3_Check_b0 (E : Env) (X : C → Int → Int → Option (Nat × List PV)) (v0 : C) (v1 : Int) (v2 : Int) : Option (Nat × List PV) :=
 if (decide (v2 < v1)) = true then
 if (0 : Int) ≤ v2 ∧ v2 < (v0.rows.length : Int) then
 (E.pc n_clapref3_Node [rowsAt v0.rows v2.toNat]).bind fun y6 =>
 if (((at_ (rowsAt y6 0) 0).toI) != 0) = true then
 some (1, [.r [.int ((at_ (rowsAt y6 0) 0).toI)]])
 else
 X v0 v1 (Go.IntKind.i64.wrap (v2 + 1))
 else none
 else
 some (0, [])
theorem clapref3_Check_s0 (E : Env) (X : List PV → Option (Nat × List PV)) (v0 : C) (v1 : Int) (v2 : Int) : stepOf E clapref3_Check_c0 clapref3_Check_h0 clapref3_Check_o0 X [.r [v0], .r [.int v1], .r [.int v2]] = clapref3_Check_b0 E (fun (v0 : C) (v1 : Int) (v2 : Int) => X [.r [v0], .r [.int v1], .r [.int v2]]) v0 v1 v2 := by kernel_rfl
def clapref3_Check_a : AFun := { ps := [lA0], rs := [lI], res := [(false, 2, none)], body := (.seq (.region [] [oq 1 (.boxP lA0 29 (.t 0)),
 oq 2 (.mov (.c lI [.int 0]))] false 0)
 (.seq (.region [] [oq 7 (.ld lA0 29 (.t 1)),
 oq 8 (.call 10 [lA0] [(.one (.sl 29))] [(.t 7)]),
 oq 3 (.mov (.t 8))] false 0)
 (.seq (.seq (.join [(.normal, { slots := [(3, .d (.one (.sl 29))), (16, .d lB)], objs := [] })] (.region [] [oq 9 (.mov (.t 3)),
 oq 10 (.lenL (.t 9)),
 oq 11 (.icmp .gtr (.t 10) (.c lI [.int 120])),
 oq 12 (.mov (.t 11)),
 ⟨some 13, .ld lA0 29 (.t 1), some (12, false), []⟩,
 ⟨some 14, .call 12 [lA0] [lI] [(.t 13)], some (12, false), []⟩,
 ⟨some 15, .icmp .gtr (.t 14) (.c lI [.int 40]), some (12, false), []⟩,
 oq 16 (.pick (.t 12) (.c lB [.bool true]) (.t 15))] false 0))
 (.cond (.t 16) (.seq (.region [] [oq 2 (.mov (.c lI [.int 2]))] false 0)
 .ret)
 .skip))
 (.seq (.seq (.region [] [oq 17 (.mov (.t 3)),
 oq 18 (.lenL (.t 17)),
 oq 19 (.mov (.c lI [.int 0]))] false 0)
 (.block 0 (.loop clapref3_Check_h0 clapref3_Check_o0 clapref3_Check_c0)))
 (.seq (.region [] [oq 2 (.mov (.c lI [.int 0]))] false 0)
 .ret))))) }
/-- clapperbridge/clapref3.Check -/
noncomputable def clapref3_Check (E : Env) (p0 : Row) : Option (List Row) :=
 (E.pc n_clapref3_Nodes [p0]).bind fun y1 =>
 (let K2 : Bool → Option (Nat × List PV) := fun q3 =>
 some (0, [.r [at_ (rowsAt y1 0) 0], .r [.bool q3]])
 if (decide ((((at_ (rowsAt y1 0) 0).rows).length : Int) > 120)) = true then
 K2 true
 else
 (E.pc n_clapref3_Levels [p0]).bind fun y4 =>
 K2 (decide (((at_ (rowsAt y4 0) 0).toI) > 40))).bind fun x5 =>
 if (gB 1 x5.2) = true then
 some [[.int 2]]
 else
 (clapref3_Check_l0 E (gC 0 x5.2) (((gC 0 x5.2).rows).length : Int) 0).bind fun x7 =>
 match x7.1 with
 | 0 =>
 some [[.int 0]]
 | i8 + 1 =>
 some [[.int (gI 0 x7.2)]]
theorem clapref3_Check_eq (E : Env) (p0 : Row) : runP E clapref3_Check_a [p0] = clapref3_Check E p0 := by kernel_rfl

def claplaw3_LensChecks_a : AFun := { ps := [lA0], rs := [lB], res := [(false, 2, none)], body := (.seq (.region [] [oq 1 (.boxP lA0 29 (.t 0)),
 oq 2 (.mov (.c lB [.bool false]))] false 0)
 (.seq (.seq (.region [] [oq 3 (.call 4 [] [lB] []),
 oq 4 (.not (.t 3))] false 0)
 (.cond (.t 4) (.seq (.region [] [oq 2 (.mov (.c lB [.bool false]))] false 0)
 .ret)
 .skip))
 (.seq (.region [] [oq 5 (.ld lA0 29 (.t 1)),
 ⟨some 6, .call 5 [lA0] [lI] [(.t 5)], none, [0]⟩,
 oq 7 (.ld lA0 29 (.t 1)),
 ⟨some 8, .call 6 [lA0] [lI] [(.t 7)], none, [0, 1, 2]⟩,
 ⟨some 9, .icmp .eql (.t 6) (.t 8), none, [0, 1, 2, 3]⟩,
 ⟨some 10, .mov (.t 9), none, [0, 1, 2, 3, 4]⟩,
 ⟨some 11, .ld lA0 29 (.t 1), some (10, true), [0, 1, 2, 3, 4, 5]⟩,
 ⟨some 12, .call 7 [lA0] [lI] [(.t 11)], some (10, true), [0, 1, 2, 3, 4, 5, 6]⟩,
 ⟨some 13, .ld lA0 29 (.t 1), some (10, true), [0, 1, 2, 3, 4, 5]⟩,
 ⟨some 14, .call 8 [lA0] [lI] [(.t 13)], some (10, true), [0, 1, 2, 3, 4, 5, 6, 7, 8]⟩,
 ⟨some 15, .icmp .eql (.t 12) (.t 14), some (10, true), [0, 1, 2, 3, 4, 5, 6, 7, 8, 9]⟩,
 ⟨some 16, .pick (.t 10) (.t 15) (.c lB [.bool false]), none, [0, 1, 2, 3, 4, 5, 6, 7, 8, 9, 10]⟩,
 ⟨some 17, .mov (.t 16), none, [0, 1, 2, 3, 4, 5, 6, 7, 8, 9, 10, 11]⟩,
 ⟨some 18, .ld lA0 29 (.t 1), some (17, true), [0, 1, 2, 3, 4, 5, 6, 7, 8, 9, 10, 11, 12]⟩,
 ⟨some 19, .call 9 [lA0] [lI] [(.t 18)], some (17, true), [0, 1, 2, 3, 4, 5, 6, 7, 8, 9, 10, 11, 12, 13]⟩,
 ⟨some 20, .ld lA0 29 (.t 1), some (17, true), [0, 1, 2, 3, 4, 5, 6, 7, 8, 9, 10, 11, 12]⟩,
 ⟨some 21, .call 10 [lA0] [(.one (.sl 29))] [(.t 20)], some (17, true), [0, 1, 2, 3, 4, 5, 6, 7, 8, 9, 10, 11, 12, 13, 14, 15]⟩,
 ⟨some 22, .lenL (.t 21), some (17, true), [0, 1, 2, 3, 4, 5, 6, 7, 8, 9, 10, 11, 12, 13, 14, 15, 16]⟩,
 ⟨some 23, .icmp .eql (.t 19) (.t 22), some (17, true), [0, 1, 2, 3, 4, 5, 6, 7, 8, 9, 10, 11, 12, 13, 14, 15, 16, 17]⟩,
 ⟨some 24, .pick (.t 17) (.t 23) (.c lB [.bool false]), none, [0, 1, 2, 3, 4, 5, 6, 7, 8, 9, 10, 11, 12, 13, 14, 15, 16, 17, 18]⟩,
 ⟨some 25, .mov (.t 24), none, [0, 1, 2, 3, 4, 5, 6, 7, 8, 9, 10, 11, 12, 13, 14, 15, 16, 17, 18, 19]⟩,
 ⟨some 26, .ld lA0 29 (.t 1), some (25, true), [0, 1, 2, 3, 4, 5, 6, 7, 8, 9, 10, 11, 12, 13, 14, 15, 16, 17, 18, 19, 20]⟩,
 ⟨some 27, .call 11 [lA0] [lI] [(.t 26)], some (25, true), [0, 1, 2, 3, 4, 5, 6, 7, 8, 9, 10, 11, 12, 13, 14, 15, 16, 17, 18, 19, 20, 21]⟩,
 ⟨some 28, .ld lA0 29 (.t 1), some (25, true), [0, 1, 2, 3, 4, 5, 6, 7, 8, 9, 10, 11, 12, 13, 14, 15, 16, 17, 18, 19, 20]⟩,
 ⟨some 29, .call 12 [lA0] [lI] [(.t 28)], some (25, true), [0, 1, 2, 3, 4, 5, 6, 7, 8, 9, 10, 11, 12, 13, 14, 15, 16, 17, 18, 19, 20, 21, 22, 23]⟩,
 ⟨some 30, .icmp .eql (.t 27) (.t 29), some (25, true), [0, 1, 2, 3, 4, 5, 6, 7, 8, 9, 10, 11, 12, 13, 14, 15, 16, 17, 18, 19, 20, 21, 22, 23, 24]⟩,
 ⟨some 31, .pick (.t 25) (.t 30) (.c lB [.bool false]), none, [0, 1, 2, 3, 4, 5, 6, 7, 8, 9, 10, 11, 12, 13, 14, 15, 16, 17, 18, 19, 20, 21, 22, 23, 24, 25]⟩,
 ⟨some 2, .mov (.t 31), none, [0, 1, 2, 3, 4, 5, 6, 7, 8, 9, 10, 11, 12, 13, 14, 15, 16, 17, 18, 19, 20, 21, 22, 23, 24, 25, 26]⟩] true 0)
 .ret))) }
/-- clapperbridge/claplaw3.LensChecks -/
noncomputable def claplaw3_LensChecks (E : Env) (p0 : Row) : Option (List Row) :=
 (E.pc n_claplaw3_formed []).bind fun y1 =>
 if (!((at_ (rowsAt y1 0) 0).toB)) = true then
 some [[.bool false]]
 else
 (E.pc n_lens_Check [p0]).bind fun y2 =>
 (E.pc n_clapref3_Check [p0]).bind fun y3 =>
 let K4 : Bool → Option (List Row) := fun q5 =>
 let K6 : Bool → Option (List Row) := fun q7 =>
 let K8 : Bool → Option (List Row) := fun q9 =>
 some [[.bool q9]]
 if q7 = true then
 (E.pc n_lens_Deep [p0]).bind fun y10 =>
 (E.pc n_clapref3_Levels [p0]).bind fun y11 =>
 K8 (((at_ (rowsAt y10 0) 0).toI) == ((at_ (rowsAt y11 0) 0).toI))
 else
 K8 false
 if q5 = true then
 (E.pc n_lens_Size [p0]).bind fun y12 =>
 (E.pc n_clapref3_Nodes [p0]).bind fun y13 =>
 K6 (((at_ (rowsAt y12 0) 0).toI) == (((at_ (rowsAt y13 0) 0).rows).length : Int))
 else
 K6 false
 if (((at_ (rowsAt y2 0) 0).toI) == ((at_ (rowsAt y3 0) 0).toI)) = true then
 (E.pc n_lens_Node [p0]).bind fun y14 =>
 (E.pc n_clapref3_Node [p0]).bind fun y15 =>
 K4 (((at_ (rowsAt y14 0) 0).toI) == ((at_ (rowsAt y15 0) 0).toI))
 else
 K4 false
theorem claplaw3_LensChecks_eq (E : Env) (p0 : Row) : runP E claplaw3_LensChecks_a [p0] = claplaw3_LensChecks E p0 := by kernel_rfl
end Go.Ev
