/-
  A part of the proof: what the functions of the program compute.
-/
import Derived.Test.YtfonaepdedbhhaaGreatDoorZNum
set_option linter.all false
set_option maxRecDepth 100000
namespace Go.Ev
def aCE:Shape:={slots:=[(1, .d (.one (.ref 29))),(4, .d lS),(65, .d (.one (.sl 71))),(66, .d lI),(67, .d lI)],objs:=[]}
def aCF:List (mB×Shape):=[(.exit 0,{slots:=[(1, .d (.one (.ref 29))),(4, .d lS)],objs:=[]}),(.ret,{slots:=[(2, .d lI)],objs:=[]})]
def aCG:zB:=(.seq (.region [] [oq 68 (.dA .lss (.t 67) (.t 66))] false 0)
 (.seq (.cond (.t 68) .skip
 (.exit 0))
 (.seq (.block 1 (.seq (.region [] [oq 69 (.iad 71 lA9 (.t 65) (.t 67)),
 oq 70 (.ld lA9 71 (.t 69)),
 oq 6 (.oB 0 lA9 [.int 0, .bool false]),
 ⟨none, .st lA9 (.t 6) (.t 70),none,[]⟩] false 1)
 (.seq (.region [] [oq 71 (.xA 1 1 71 4 (.t 6)),
 oq 72 (.ld lB 4 (.t 71)),
 oq 73 (.mov (.t 72)),
 ⟨some 74, .mov (.t 4),some (73,true),[]⟩,
 ⟨some 75, .xA 0 1 71 5 (.t 6),some (73,true),[]⟩,
 ⟨some 76, .ld lU 5 (.t 75),some (73,true),[]⟩,
 ⟨some 77, .call 29 [lS,lU] [lB] [(.t 74),(.t 76)],some (73,true),[]⟩,
 ⟨some 78, .not (.t 77),some (73,true),[]⟩,
 oq 79 (.pick (.t 73) (.t 78) (.c lB [.bool false]))] false 0)
 (.cond (.t 79) (.seq (.region [] [oq 2 (.mov (.c lI [.int 3]))] false 0)
 .ret)
 .skip))))
 (.region [] [oq 80 (.tB .add (.t 67) (.c lI [.int 1])),
 oq 67 (.mov (.t 80))] false 0))))
noncomputable def nY (E:Env) (v0:C) (v1:List UInt8) (v2:C) (v3:Int) (v4:Int):Option (Nat×List PV):=E.fix (stepOf E aCG aCE aCF) [.r [v0], .r [.str v1], .r [v2], .r [.int v3], .r [.int v4]]
noncomputable def oY (E:Env) (X:C→List UInt8→C→Int→Int→Option (Nat×List PV)) (v0:C) (v1:List UInt8) (v2:C) (v3:Int) (v4:Int):Option (Nat×List PV):=
 if (decide (v4<v3))=true then
 if (0:Int)≤v4∧v4<(v2.rows.length:Int)then
 let K10:Bool→Option (Nat×List PV):=fun q11=>
 if q11=true then
 some (1,[.r [.int 3]])
 else
 X v0 v1 v2 v3 (Go.IntKind.i64.wrap (v4+1))
 if ((at_ (aA v2.rows v4.toNat) 1).lK)=true then
 (E.pc xB [[.str v1],[.int ((at_ (aA v2.rows v4.toNat) 0).vA)]]).bind fun y12=>
 K10 (!((at_ (aA y12 0) 0).lK))
 else
 K10 false
 else none
 else
 some (0,[.r [v0], .r [.str v1]])
theorem aNB (E:Env) (X:List PV→Option (Nat×List PV)) (v0:C) (v1:List UInt8) (v2:C) (v3:Int) (v4:Int):stepOf E aCG aCE aCF X [.r [v0], .r [.str v1], .r [v2], .r [.int v3], .r [.int v4]]=oY E (fun (v0:C) (v1:List UInt8) (v2:C) (v3:Int) (v4:Int)=>X [.r [v0], .r [.str v1], .r [v2], .r [.int v3], .r [.int v4]]) v0 v1 v2 v3 v4:=by kernel_rfl
def s8:aD:={ps:=[fG],rs:=[lI],res:=[(false,2,none)],body:=(.seq (.region [] [oq 1 (.vL fG 29 (.t 0)),
 oq 2 (.mov (.c lI [.int 0]))] false 0)
 (.seq (.seq (.join [(.normal,{slots:=[(1, .d (.one (.ref 29))),(17, .d lB)],objs:=[]})] (.region [] [oq 10 (.xA 0 1 29 3 (.t 1)),
 oq 11 (.ld lI 3 (.t 10)),
 oq 12 (.dA .lss (.t 11) (.c lI [.int 0])),
 oq 13 (.mov (.t 12)),
 ⟨some 14, .xA 0 1 29 3 (.t 1),some (13,false),[]⟩,
 ⟨some 15, .ld lI 3 (.t 14),some (13,false),[]⟩,
 ⟨some 16, .dA .geq (.t 15) (.c lI [.int 19]),some (13,false),[]⟩,
 oq 17 (.pick (.t 13) (.c lB [.bool true]) (.t 16))] false 0))
 (.cond (.t 17) (.seq (.region [] [oq 2 (.mov (.c lI [.int 1]))] false 0)
 .ret)
 .skip))
 (.seq (.region [] [oq 19 (.xA 0 1 29 3 (.t 1)),
 oq 20 (.ld lI 3 (.t 19)),
 oq 21 (.call 28 [lI] [lS,lS] [(.t 20)]),
 oq 18 (.mov (.t 21)),
 oq 22 (.ext 0 (.t 18)),
 oq 23 (.ext 1 (.t 18)),
 oq 3 (.mov (.t 22)),
 oq 4 (.mov (.t 23))] false 0)
 (.seq (.seq (.join [(.normal,{slots:=[(1, .d (.one (.ref 29))),(4, .d lS),(65, .d (.one (.sl 71))),(66, .d lI),(67, .d lI)],objs:=[]})] (.region [] [oq 24 (.xA 1 1 29 9 (.t 1)),
 ⟨some 25, .ld lS 9 (.t 24),none,[0]⟩,
 ⟨some 26, .aEK .neq (.t 25) (.c lS [.str ([]:List UInt8)]),none,[0,1]⟩,
 ⟨some 27, .bld lA9 [.int 0, .bool false] [(0,1,(.c lU [.int 110])),(1,1,(.t 26))],none,[0,1,2]⟩,
 oq 28 (.xA 2 1 29 9 (.t 1)),
 ⟨some 29, .ld lS 9 (.t 28),none,[4]⟩,
 ⟨some 30, .aEK .neq (.t 29) (.c lS [.str ([]:List UInt8)]),none,[4,5]⟩,
 ⟨some 31, .bld lA9 [.int 0, .bool false] [(0,1,(.c lU [.int 116])),(1,1,(.t 30))],none,[4,5,6]⟩,
 oq 32 (.xA 3 1 29 22 (.t 1)),
 ⟨some 33, .ld (.one (.sl 9)) 22 (.t 32),none,[8]⟩,
 ⟨some 34, .gE (.t 33),none,[8,9]⟩,
 ⟨some 35, .dA .neq (.t 34) (.c lI [.int 0]),none,[8,9,10]⟩,
 ⟨some 36, .bld lA9 [.int 0, .bool false] [(0,1,(.c lU [.int 115])),(1,1,(.t 35))],none,[8,9,10,11]⟩,
 oq 37 (.xA 4 1 29 3 (.t 1)),
 ⟨some 38, .ld lI 3 (.t 37),none,[13]⟩,
 ⟨some 39, .dA .neq (.t 38) (.c lI [.int 0]),none,[13,14]⟩,
 ⟨some 40, .bld lA9 [.int 0, .bool false] [(0,1,(.c lU [.int 105])),(1,1,(.t 39))],none,[13,14,15]⟩,
 oq 41 (.xA 5 1 29 3 (.t 1)),
 ⟨some 42, .ld lI 3 (.t 41),none,[17]⟩,
 ⟨some 43, .dA .neq (.t 42) (.c lI [.int 0]),none,[17,18]⟩,
 ⟨some 44, .mov (.t 43),none,[17,18,19]⟩,
 ⟨some 45, .xA 6 1 29 3 (.t 1),some (44,false),[17,18,19,20]⟩,
 ⟨some 46, .ld lI 3 (.t 45),some (44,false),[17,18,19,20,21]⟩,
 ⟨some 47, .dA .neq (.t 46) (.c lI [.int 0]),some (44,false),[17,18,19,20,21,22]⟩,
 ⟨some 48, .pick (.t 44) (.c lB [.bool true]) (.t 47),none,[17,18,19,20,21,22,23]⟩,
 ⟨some 49, .bld lA9 [.int 0, .bool false] [(0,1,(.c lU [.int 98])),(1,1,(.t 48))],none,[17,18,19,20,21,22,23,24]⟩,
 oq 50 (.xA 7 1 29 5 (.t 1)),
 ⟨some 51, .ld lU 5 (.t 50),none,[26]⟩,
 ⟨some 52, .dA .neq (.t 51) (.c lU [.int 0]),none,[26,27]⟩,
 ⟨some 53, .bld lA9 [.int 0, .bool false] [(0,1,(.c lU [.int 112])),(1,1,(.t 52))],none,[26,27,28]⟩,
 oq 54 (.xA 8 4 29 25 (.t 1)),
 ⟨some 55, .ld lH 25 (.t 54),none,[30]⟩,
 ⟨some 56, .call 38 [] [lH] [],none,[17,18,19,20]⟩,
 ⟨some 57, .call 37 [lH,lH] [lB] [(.t 55),(.t 56)],none,[17,18,19,20,30,31,32]⟩,
 ⟨some 58, .not (.t 57),none,[17,18,19,20,30,31,32,33]⟩,
 ⟨some 59, .bld lA9 [.int 0, .bool false] [(0,1,(.c lU [.int 118])),(1,1,(.t 58))],none,[17,18,19,20,30,31,32,33,34]⟩,
 oq 60 (.xA 12 1 29 26 (.t 1)),
 ⟨some 61, .ld (.one (.sl 68)) 26 (.t 60),none,[36]⟩,
 ⟨some 62, .gE (.t 61),none,[36,37]⟩,
 ⟨some 63, .dA .neq (.t 62) (.c lI [.int 0]),none,[36,37,38]⟩,
 ⟨some 64, .bld lA9 [.int 0, .bool false] [(0,1,(.c lU [.int 108])),(1,1,(.t 63))],none,[36,37,38,39]⟩,
 ⟨some 65, .bsl 71 lA9 8 [.int 0, .bool false] [(0,(.t 27)),(1,(.t 31)),(2,(.t 36)),(3,(.t 40)),(4,(.t 49)),(5,(.t 53)),(6,(.t 59)),(7,(.t 64))],none,[0,1,2,3,4,5,6,7,8,9,10,11,12,13,14,15,16,17,18,19,20,21,22,23,24,25,26,27,28,29,30,31,32,33,34,35,36,37,38,39,40]⟩,
 ⟨some 66, .gE (.t 65),none,[0,1,2,3,4,5,6,7,8,9,10,11,12,13,14,15,16,17,18,19,20,21,22,23,24,25,26,27,28,29,30,31,32,33,34,35,36,37,38,39,40,41]⟩,
 oq 67 (.mov (.c lI [.int 0]))] true 0))
 (.block 0 (.loop aCE aCF aCG)))
 (.seq (.seq (.region [] [oq 81 (.xA 13 1 29 27 (.t 1)),
 oq 82 (.ld (.one (.sl 29)) 27 (.t 81)),
 oq 83 (.gE (.t 82)),
 oq 7 (.mov (.t 83))] false 0)
 (.join [(.normal,{slots:=[(1, .d (.one (.ref 29))),(4, .d lS)],objs:=[]}),(.ret,{slots:=[(2, .d lI)],objs:=[]})] (.block 2 (.seq (.seq (.join [(.normal,{slots:=[(1, .d (.one (.ref 29))),(4, .d lS),(7, .d lI),(84, .d lB)],objs:=[]})] (.region [] [oq 85 (.mov (.t 4)),
 oq 86 (.call 29 [lS,lU] [lB] [(.t 85),(.c lU [.int 49])]),
 oq 87 (.mov (.t 86)),
 ⟨some 88, .mov (.t 7),some (87,true),[]⟩,
 ⟨some 89, .dA .neq (.t 88) (.c lI [.int 1]),some (87,true),[]⟩,
 oq 90 (.pick (.t 87) (.t 89) (.c lB [.bool false])),
 oq 84 (.mov (.t 90))] false 0))
 (.cond (.t 84) .skip
 (.seq (.join [(.normal,{slots:=[(1, .d (.one (.ref 29))),(4, .d lS),(7, .d lI),(84, .d lB)],objs:=[]})] (.region [] [oq 91 (.mov (.t 4)),
 oq 92 (.call 29 [lS,lU] [lB] [(.t 91),(.c lU [.int 43])]),
 oq 93 (.mov (.t 92)),
 ⟨some 94, .mov (.t 7),some (93,true),[]⟩,
 ⟨some 95, .dA .eql (.t 94) (.c lI [.int 0]),some (93,true),[]⟩,
 oq 96 (.pick (.t 93) (.t 95) (.c lB [.bool false])),
 oq 84 (.mov (.t 96))] false 0))
 (.cond (.t 84) .skip
 (.region [] [oq 97 (.mov (.t 4)),
 oq 98 (.call 29 [lS,lU] [lB] [(.t 97),(.c lU [.int 49])]),
 oq 99 (.not (.t 98)),
 oq 100 (.mov (.t 99)),
 ⟨some 101, .mov (.t 4),some (100,true),[]⟩,
 ⟨some 102, .call 29 [lS,lU] [lB] [(.t 101),(.c lU [.int 43])],some (100,true),[]⟩,
 ⟨some 103, .not (.t 102),some (100,true),[]⟩,
 oq 104 (.pick (.t 100) (.t 103) (.c lB [.bool false])),
 oq 105 (.mov (.t 104)),
 ⟨some 106, .mov (.t 7),some (105,true),[]⟩,
 ⟨some 107, .dA .neq (.t 106) (.c lI [.int 0]),some (105,true),[]⟩,
 oq 108 (.pick (.t 105) (.t 107) (.c lB [.bool false])),
 oq 84 (.mov (.t 108))] false 0)))))
 (.cond (.t 84) (.seq (.region [] [oq 2 (.mov (.c lI [.int 3]))] false 0)
 .ret)
 .skip)))))
 (.seq (.seq (.join [(.normal,{slots:=[(1, .d (.one (.ref 29))),(4, .d lS),(126, .d lB)],objs:=[]})] (.region [] [oq 109 (.mov (.t 4)),
 oq 110 (.call 29 [lS,lU] [lB] [(.t 109),(.c lU [.int 110])]),
 oq 111 (.mov (.t 110)),
 ⟨some 112, .xA 1 1 29 9 (.t 1),some (111,true),[]⟩,
 ⟨some 113, .ld lS 9 (.t 112),some (111,true),[]⟩,
 ⟨some 114, .call 39 [lS] [lB] [(.t 113)],some (111,true),[]⟩,
 ⟨some 115, .not (.t 114),some (111,true),[]⟩,
 oq 116 (.pick (.t 111) (.t 115) (.c lB [.bool false])),
 oq 117 (.mov (.t 116)),
 ⟨some 118, .xA 0 1 29 3 (.t 1),some (117,true),[]⟩,
 ⟨some 119, .ld lI 3 (.t 118),some (117,true),[]⟩,
 ⟨some 120, .dA .neq (.t 119) (.c lI [.int 13]),some (117,true),[]⟩,
 ⟨some 121, .mov (.t 120),some (117,true),[]⟩,
 ⟨some 122, .xA 1 1 29 9 (.t 1),some (121,false),[]⟩,
 ⟨some 123, .ld lS 9 (.t 122),some (121,false),[]⟩,
 ⟨some 124, .aEK .neq (.t 123) (.c lS [.str ([]:List UInt8)]),some (121,false),[]⟩,
 ⟨some 125, .pick (.t 121) (.c lB [.bool true]) (.t 124),some (117,true),[]⟩,
 oq 126 (.pick (.t 117) (.t 125) (.c lB [.bool false]))] false 0))
 (.cond (.t 126) (.seq (.region [] [oq 2 (.mov (.c lI [.int 15]))] false 0)
 .ret)
 .skip))
 (.seq (.seq (.join [(.normal,{slots:=[(1, .d (.one (.ref 29))),(4, .d lS),(134, .d lB)],objs:=[]})] (.region [] [oq 127 (.mov (.t 4)),
 oq 128 (.call 29 [lS,lU] [lB] [(.t 127),(.c lU [.int 116])]),
 oq 129 (.mov (.t 128)),
 ⟨some 130, .xA 2 1 29 9 (.t 1),some (129,true),[]⟩,
 ⟨some 131, .ld lS 9 (.t 130),some (129,true),[]⟩,
 ⟨some 132, .call 39 [lS] [lB] [(.t 131)],some (129,true),[]⟩,
 ⟨some 133, .not (.t 132),some (129,true),[]⟩,
 oq 134 (.pick (.t 129) (.t 133) (.c lB [.bool false]))] false 0))
 (.cond (.t 134) (.seq (.region [] [oq 2 (.mov (.c lI [.int 15]))] false 0)
 .ret)
 .skip))
 (.seq (.seq (.region [] [oq 135 (.mov (.t 4)),
 oq 136 (.call 29 [lS,lU] [lB] [(.t 135),(.c lU [.int 118])])] false 0)
 (.join [(.normal,{slots:=[(1, .d (.one (.ref 29)))],objs:=[]}),(.ret,{slots:=[(2, .d lI)],objs:=[]})] (.cond (.t 136) (.seq (.seq (.region [] [oq 137 (.xA 8 4 29 25 (.t 1)),
 oq 138 (.ld lH 25 (.t 137)),
 oq 139 (.call 40 [lH] [lI] [(.t 138)]),
 oq 8 (.mov (.t 139))] false 0)
 (.seq (.region [] [oq 140 (.mov (.t 8)),
 oq 141 (.dA .neq (.t 140) (.c lI [.int 0]))] false 0)
 (.cond (.t 141) (.seq (.region [] [oq 142 (.mov (.t 8)),
 oq 2 (.mov (.t 142))] false 0)
 .ret)
 .skip)))
 (.seq (.region [] [oq 143 (.xA 8 4 29 25 (.t 1)),
 oq 144 (.xA 0 1 25 3 (.t 143)),
 oq 145 (.ld lI 3 (.t 144)),
 oq 9 (.mov (.t 145))] false 0)
 (.seq (.region [] [oq 146 (.xA 0 1 29 3 (.t 1)),
 oq 147 (.ld lI 3 (.t 146)),
 oq 148 (.dA .eql (.t 147) (.c lI [.int 5])),
 oq 149 (.mov (.t 148)),
 ⟨some 150, .mov (.t 9),some (149,true),[]⟩,
 ⟨some 151, .dA .neq (.t 150) (.c lI [.int 0]),some (149,true),[]⟩,
 oq 152 (.pick (.t 149) (.t 151) (.c lB [.bool false])),
 oq 153 (.mov (.t 152)),
 ⟨some 154, .mov (.t 9),some (153,true),[]⟩,
 ⟨some 155, .call 41 [lI] [lB] [(.t 154)],some (153,true),[]⟩,
 ⟨some 156, .not (.t 155),some (153,true),[]⟩,
 oq 157 (.pick (.t 153) (.t 156) (.c lB [.bool false])),
 oq 158 (.mov (.t 157)),
 ⟨some 159, .xA 0 1 29 3 (.t 1),some (158,false),[]⟩,
 ⟨some 160, .ld lI 3 (.t 159),some (158,false),[]⟩,
 ⟨some 161, .dA .eql (.t 160) (.c lI [.int 15]),some (158,false),[]⟩,
 ⟨some 162, .mov (.t 161),some (158,false),[]⟩,
 ⟨some 163, .mov (.t 9),some (162,true),[]⟩,
 ⟨some 164, .call 41 [lI] [lB] [(.t 163)],some (162,true),[]⟩,
 ⟨some 165, .not (.t 164),some (162,true),[]⟩,
 ⟨some 166, .pick (.t 162) (.t 165) (.c lB [.bool false]),some (158,false),[]⟩,
 oq 167 (.pick (.t 158) (.c lB [.bool true]) (.t 166))] false 0)
 (.cond (.t 167) (.seq (.region [] [oq 2 (.mov (.c lI [.int 8]))] false 0)
 .ret)
 .skip))))
 .skip)))
 (.seq (.region [] [oq 168 (.ld fG 29 (.t 1)),
 oq 169 (.call 42 [fG] [lI] [(.t 168)]),
 oq 2 (.mov (.t 169))] false 0)
 .ret)))))))))}
noncomputable def aDj (E:Env) (p0:Row):Option (List Row):=
 (let K1:Bool→Option (Nat×List PV):=fun q2=>
  some (0,[.r [.dp p0], .r [.bool q2]])
 if (decide (((at_ p0 0).vA)<0))=true then
  K1 true
 else
  K1 (decide (((at_ p0 0).vA)≥19))).bind fun x3=>
  if (gB 1 x3.2)=true then
   some [[.int 1]]
  else
   if (gC 0 x3.2).jB=true then
    (E.pc pU [[.int ((at_ ((gC 0 x3.2).cA) 0).vA)]]).bind fun y4=>
     (if (gC 0 x3.2).jB=true then
      if (gC 0 x3.2).jB=true then
       if (gC 0 x3.2).jB=true then
        if (gC 0 x3.2).jB=true then
         if (gC 0 x3.2).jB=true then
          let K5:Bool→Option (Nat×List PV):=fun q6=>
           if (gC 0 x3.2).jB=true then
            if (gC 0 x3.2).jB=true then
             (E.pc aDT []).bind fun y7=>
              (E.pc kP [[at_ ((gC 0 x3.2).cA) 8,at_ ((gC 0 x3.2).cA) 9,at_ ((gC 0 x3.2).cA) 10,at_ ((gC 0 x3.2).cA) 11],aA y7 0]).bind fun y8=>
               if (gC 0 x3.2).jB=true then
                some (0,[.r [gC 0 x3.2], .r [.str ((at_ (aA y4 1) 0).mD)], .r [.sl ([[.int 110, .bool (!(((at_ ((gC 0 x3.2).cA) 1).mD)==([]:List UInt8)))],[.int 116, .bool (!(((at_ ((gC 0 x3.2).cA) 2).mD)==([]:List UInt8)))],[.int 115, .bool ((((at_ ((gC 0 x3.2).cA) 3).rows).length:Int) !=0)],[.int 105, .bool (((at_ ((gC 0 x3.2).cA) 4).vA) !=0)],[.int 98, .bool q6],[.int 112, .bool (((at_ ((gC 0 x3.2).cA) 7).vA) !=0)],[.int 118, .bool (!((at_ (aA y8 0) 0).lK))],[.int 108, .bool ((((at_ ((gC 0 x3.2).cA) 12).rows).length:Int) !=0)]]:List Row)], .r [.int (([[.int 110, .bool (!(((at_ ((gC 0 x3.2).cA) 1).mD)==([]:List UInt8)))],[.int 116, .bool (!(((at_ ((gC 0 x3.2).cA) 2).mD)==([]:List UInt8)))],[.int 115, .bool ((((at_ ((gC 0 x3.2).cA) 3).rows).length:Int) !=0)],[.int 105, .bool (((at_ ((gC 0 x3.2).cA) 4).vA) !=0)],[.int 98, .bool q6],[.int 112, .bool (((at_ ((gC 0 x3.2).cA) 7).vA) !=0)],[.int 118, .bool (!((at_ (aA y8 0) 0).lK))],[.int 108, .bool ((((at_ ((gC 0 x3.2).cA) 12).rows).length:Int) !=0)]]:List Row).length:Int)], .r [.int 0]])
               else none
            else none
           else none
          if (((at_ ((gC 0 x3.2).cA) 5).vA) !=0)=true then
           K5 true
          else
           if (gC 0 x3.2).jB=true then
            K5 (((at_ ((gC 0 x3.2).cA) 6).vA) !=0)
           else none
         else none
        else none
       else none
      else none
     else none).bind fun x9=>
      (nY E (gC 0 x9.2) (gS 1 x9.2) (gC 2 x9.2) (gI 3 x9.2) (gI 4 x9.2)).bind fun x13=>
       match x13.1 with
       |0=>
        if (gC 0 x13.2).jB=true then
         (((E.pc xB [[.str (gS 1 x13.2)],[.int 49]]).bind fun y15=>
          let K16:Bool→Option (Nat×List PV):=fun q17=>
           some (0,[.r [gC 0 x13.2], .r [.str (gS 1 x13.2)], .r [.int (((at_ ((gC 0 x13.2).cA) 13).rows).length:Int)], .r [.bool q17]])
          if ((at_ (aA y15 0) 0).lK)=true then
           K16 ((((at_ ((gC 0 x13.2).cA) 13).rows).length:Int) !=1)
          else
           K16 false).bind fun qK=>
          if (gB 3 qK.2)=true then
           if (gB 3 qK.2)=true then
            some (1,[.r [.int 3]])
           else
            some (0,[.r [gC 0 qK.2], .r [.str (gS 1 qK.2)]])
          else
           ((E.pc xB [[.str (gS 1 qK.2)],[.int 43]]).bind fun y19=>
            let K20:Bool→Option (Nat×List PV):=fun q21=>
             some (0,[.r [gC 0 qK.2], .r [.str (gS 1 qK.2)], .r [.int (gI 2 qK.2)], .r [.bool q21]])
            if ((at_ (aA y19 0) 0).lK)=true then
             K20 ((gI 2 qK.2)==0)
            else
             K20 false).bind fun x22=>
            if (gB 3 x22.2)=true then
             if (gB 3 x22.2)=true then
              some (1,[.r [.int 3]])
             else
              some (0,[.r [gC 0 x22.2], .r [.str (gS 1 x22.2)]])
            else
             (E.pc xB [[.str (gS 1 x22.2)],[.int 49]]).bind fun y23=>
              let K24:Bool→Option (Nat×List PV):=fun q25=>
               let K26:Bool→Option (Nat×List PV):=fun q27=>
                if q27=true then
                 some (1,[.r [.int 3]])
                else
                 some (0,[.r [gC 0 x22.2], .r [.str (gS 1 x22.2)]])
               if q25=true then
                K26 ((gI 2 x22.2) !=0)
               else
                K26 false
              if (!((at_ (aA y23 0) 0).lK))=true then
               (E.pc xB [[.str (gS 1 x22.2)],[.int 43]]).bind fun y28=>
                K24 (!((at_ (aA y28 0) 0).lK))
              else
               K24 false).bind fun x29=>
          match x29.1 with
          |0=>
           ((E.pc xB [[.str (gS 1 x29.2)],[.int 110]]).bind fun y31=>
            let K32:Bool→Option (Nat×List PV):=fun q33=>
             let K34:Bool→Option (Nat×List PV):=fun q35=>
              some (0,[.r [gC 0 x29.2], .r [.str (gS 1 x29.2)], .r [.bool q35]])
             if q33=true then
              if (gC 0 x29.2).jB=true then
               let K36:Bool→Option (Nat×List PV):=fun q37=>
                K34 q37
               if (((at_ ((gC 0 x29.2).cA) 0).vA) !=13)=true then
                K36 true
               else
                if (gC 0 x29.2).jB=true then
                 K36 (!(((at_ ((gC 0 x29.2).cA) 1).mD)==([]:List UInt8)))
                else none
              else none
             else
              K34 false
            if ((at_ (aA y31 0) 0).lK)=true then
             if (gC 0 x29.2).jB=true then
              (E.pc rH [[.str ((at_ ((gC 0 x29.2).cA) 1).mD)]]).bind fun y38=>
               K32 (!((at_ (aA y38 0) 0).lK))
             else none
            else
             K32 false).bind fun x39=>
            if (gB 2 x39.2)=true then
             some [[.int 15]]
            else
             ((E.pc xB [[.str (gS 1 x39.2)],[.int 116]]).bind fun y40=>
              let K41:Bool→Option (Nat×List PV):=fun q42=>
               some (0,[.r [gC 0 x39.2], .r [.str (gS 1 x39.2)], .r [.bool q42]])
              if ((at_ (aA y40 0) 0).lK)=true then
               if (gC 0 x39.2).jB=true then
                (E.pc rH [[.str ((at_ ((gC 0 x39.2).cA) 2).mD)]]).bind fun y43=>
                 K41 (!((at_ (aA y43 0) 0).lK))
               else none
              else
               K41 false).bind fun x44=>
              if (gB 2 x44.2)=true then
               some [[.int 15]]
              else
               (E.pc xB [[.str (gS 1 x44.2)],[.int 118]]).bind fun y45=>
                (if ((at_ (aA y45 0) 0).lK)=true then
                 if (gC 0 x44.2).jB=true then
                  (E.pc mH [[at_ ((gC 0 x44.2).cA) 8,at_ ((gC 0 x44.2).cA) 9,at_ ((gC 0 x44.2).cA) 10,at_ ((gC 0 x44.2).cA) 11]]).bind fun y46=>
                   if (((at_ (aA y46 0) 0).vA) !=0)=true then
                    some (1,[.r [.int ((at_ (aA y46 0) 0).vA)]])
                   else
                    if (gC 0 x44.2).jB=true then
                     if (gC 0 x44.2).jB=true then
                      let K47:Bool→Option (Nat×List PV):=fun q48=>
                       let K49:Bool→Option (Nat×List PV):=fun q50=>
                        let K51:Bool→Option (Nat×List PV):=fun q52=>
                         if q52=true then
                          some (1,[.r [.int 8]])
                         else
                          some (0,[.r [gC 0 x44.2]])
                        if q50=true then
                         K51 true
                        else
                         if (gC 0 x44.2).jB=true then
                          let K53:Bool→Option (Nat×List PV):=fun q54=>
                           K51 q54
                          if (((at_ ((gC 0 x44.2).cA) 0).vA)==15)=true then
                           (E.pc rS [[.int ((at_ ((gC 0 x44.2).cA) 8).vA)]]).bind fun y55=>
                            K53 (!((at_ (aA y55 0) 0).lK))
                          else
                           K53 false
                         else none
                       if q48=true then
                        (E.pc rS [[.int ((at_ ((gC 0 x44.2).cA) 8).vA)]]).bind fun y56=>
                         K49 (!((at_ (aA y56 0) 0).lK))
                       else
                        K49 false
                      if (((at_ ((gC 0 x44.2).cA) 0).vA)==5)=true then
                       K47 (((at_ ((gC 0 x44.2).cA) 8).vA) !=0)
                      else
                       K47 false
                     else none
                    else none
                 else none
                else
                 some (0,[.r [gC 0 x44.2]])).bind fun x57=>
                 match x57.1 with
                 |0=>
                  if (gC 0 x57.2).jB=true then
                   (E.pc pY [(gC 0 x57.2).cA]).bind fun y59=>
                    some [[.int ((at_ (aA y59 0) 0).vA)]]
                  else none
                 |i58+1=>
                  some [[.int (gI 0 x57.2)]]
          |i30+1=>
           some [[.int (gI 0 x29.2)]]
        else none
       |i14+1=>
        some [[.int (gI 0 x13.2)]]
   else none
theorem aNC (E:Env) (p0:Row):xE E s8 [p0]=aDj E p0:=by kernel_rfl
def aBL:Shape:={slots:=[(17, .d (.one (.sl 29))),(18, .d lI),(19, .d lI)],objs:=[]}
def aBM:List (mB×Shape):=[(.exit 0,{slots:=[],objs:=[]}),(.ret,{slots:=[(2, .d lI)],objs:=[]})]
def aBN:zB:=(.seq (.region [] [oq 20 (.dA .lss (.t 19) (.t 18))] false 0)
 (.seq (.cond (.t 20) .skip
 (.exit 0))
 (.seq (.block 1 (.seq (.region [] [oq 21 (.iad 29 fG (.t 17) (.t 19)),
 oq 22 (.ld fG 29 (.t 21)),
 oq 5 (.oB 0 fG [.int 0, .str [], .str [], .fA, .int 0, .int 0, .int 0, .int 0, .int 0, .int 0, .str [], .fA, .fA, .fA]),
 ⟨none, .st fG (.t 5) (.t 22),none,[]⟩] false 1)
 (.seq (.region [] [oq 23 (.ld fG 29 (.t 5)),
 oq 24 (.call 24 [fG] [lI] [(.t 23)]),
 oq 6 (.mov (.t 24))] false 0)
 (.seq (.region [] [oq 25 (.mov (.t 6)),
 oq 26 (.dA .neq (.t 25) (.c lI [.int 0]))] false 0)
 (.cond (.t 26) (.seq (.region [] [oq 27 (.mov (.t 6)),
 oq 2 (.mov (.t 27))] false 0)
 .ret)
 .skip)))))
 (.region [] [oq 28 (.tB .add (.t 19) (.c lI [.int 1])),
 oq 19 (.mov (.t 28))] false 0))))
noncomputable def zV (E:Env) (v0:C) (v1:Int) (v2:Int):Option (Nat×List PV):=E.fix (stepOf E aBN aBL aBM) [.r [v0], .r [.int v1], .r [.int v2]]
noncomputable def aW (E:Env) (X:C→Int→Int→Option (Nat×List PV)) (v0:C) (v1:Int) (v2:Int):Option (Nat×List PV):=
 if (decide (v2<v1))=true then
 if (0:Int)≤v2∧v2<(v0.rows.length:Int)then
 (E.pc qU [aA v0.rows v2.toNat]).bind fun y6=>
 if (((at_ (aA y6 0) 0).vA) !=0)=true then
 some (1,[.r [.int ((at_ (aA y6 0) 0).vA)]])
 else
 X v0 v1 (Go.IntKind.i64.wrap (v2+1))
 else none
 else
 some (0,[])
theorem aMw (E:Env) (X:List PV→Option (Nat×List PV)) (v0:C) (v1:Int) (v2:Int):stepOf E aBN aBL aBM X [.r [v0], .r [.int v1], .r [.int v2]]=aW E (fun (v0:C) (v1:Int) (v2:Int)=>X [.r [v0], .r [.int v1], .r [.int v2]]) v0 v1 v2:=by kernel_rfl
def qY:aD:={ps:=[fG],rs:=[lI],res:=[(false,2,none)],body:=(.seq (.region [] [oq 1 (.vL fG 29 (.t 0)),
 oq 2 (.mov (.c lI [.int 0]))] false 0)
 (.seq (.region [] [oq 7 (.ld fG 29 (.t 1)),
 oq 8 (.call 22 [fG] [(.one (.sl 29))] [(.t 7)]),
 oq 3 (.mov (.t 8))] false 0)
 (.seq (.seq (.join [(.normal,{slots:=[(3, .d (.one (.sl 29))),(16, .d lB)],objs:=[]})] (.region [] [oq 9 (.mov (.t 3)),
 oq 10 (.gE (.t 9)),
 oq 11 (.dA .gtr (.t 10) (.c lI [.int 120])),
 oq 12 (.mov (.t 11)),
 ⟨some 13, .ld fG 29 (.t 1),some (12,false),[]⟩,
 ⟨some 14, .call 23 [fG] [lI] [(.t 13)],some (12,false),[]⟩,
 ⟨some 15, .dA .gtr (.t 14) (.c lI [.int 40]),some (12,false),[]⟩,
 oq 16 (.pick (.t 12) (.c lB [.bool true]) (.t 15))] false 0))
 (.cond (.t 16) (.seq (.region [] [oq 2 (.mov (.c lI [.int 2]))] false 0)
 .ret)
 .skip))
 (.seq (.seq (.region [] [oq 17 (.mov (.t 3)),
 oq 18 (.gE (.t 17)),
 oq 19 (.mov (.c lI [.int 0]))] false 0)
 (.block 0 (.loop aBL aBM aBN)))
 (.seq (.region [] [oq 2 (.mov (.c lI [.int 0]))] false 0)
 .ret)))))}
noncomputable def aE7 (E:Env) (p0:Row):Option (List Row):=
 (E.pc mN [p0]).bind fun y1=>
 (let K2:Bool→Option (Nat×List PV):=fun q3=>
 some (0,[.r [at_ (aA y1 0) 0], .r [.bool q3]])
 if (decide ((((at_ (aA y1 0) 0).rows).length:Int)>120))=true then
 K2 true
 else
 (E.pc gL [p0]).bind fun y4=>
 K2 (decide (((at_ (aA y4 0) 0).vA)>40))).bind fun x5=>
 if (gB 1 x5.2)=true then
 some [[.int 2]]
 else
 (zV E (gC 0 x5.2) (((gC 0 x5.2).rows).length:Int) 0).bind fun x7=>
 match x7.1 with
 |0=>
 some [[.int 0]]
 |i8+1=>
 some [[.int (gI 0 x7.2)]]
theorem aMx (E:Env) (p0:Row):xE E qY [p0]=aE7 E p0:=by kernel_rfl
def bW:aD:={ps:=[(.one (.sl 9))],rs:=[(.one (.sl 9))],res:=[(false,2,(some lS))],body:=(.seq (.region [] [oq 2 (.mov (.c (.one (.sl 9)) [.fA]))] false 0)
 (.seq (.region [] [oq 3 (.bslS 0 9 lS 1 [.str []] [(0,(.c lS [.str ([40]:List UInt8)]))]),
 oq 4 (.mov (.t 0)),
 oq 5 (.eU 1 9 lS 16 (.t 3) (.t 4)),
 oq 6 (.bsl 9 lS 1 [.str []] [(0,(.c lS [.str ([41]:List UInt8)]))]),
 oq 7 (.eU 2 9 lS 16 (.t 5) (.t 6)),
 oq 2 (.mov (.t 7))] false 3)
 .ret))}
noncomputable def aDU (E:Env) (p0:C):Option (List Row):=
 if (([[.str ([40]:List UInt8)]]:List Row).length+p0.rows.length)*16≤140737488355328 then
 if (((pE (.sl ([[.str ([40]:List UInt8)]]:List Row)) p0.rows).rows).length+([[.str ([41]:List UInt8)]]:List Row).length)*16≤140737488355328 then
 some [[pE (pE (.sl ([[.str ([40]:List UInt8)]]:List Row)) p0.rows) ([[.str ([41]:List UInt8)]]:List Row)]]
 else none
 else none
theorem aLj (E:Env) (p0:C):xE E bW [[p0]]=aDU E p0:=by kernel_rfl
def lD:aD:={ps:=[lI],rs:=[lB],res:=[(false,2,none)],body:=(.seq (.region [] [oq 2 (.mov (.c lB [.bool false]))] false 0)
 (.seq (.region [] [oq 3 (.mov (.t 0)),
 oq 4 (.mov (.t 0)),
 oq 5 (.tB .sub (.t 4) (.c lI [.int 1])),
 oq 6 (.tB .and (.t 3) (.t 5)),
 oq 7 (.dA .eql (.t 6) (.c lI [.int 0])),
 oq 2 (.mov (.t 7))] false 0)
 .ret))}
def wE:aD:={ps:=[lW],rs:=[lI],res:=[(false,2,none)],body:=(.seq (.region [] [oq 2 (.mov (.c lI [.int 0]))] false 0)
 (.seq (.seq (.region [] [oq 3 (.mov (.t 0)),
 oq 4 (.dA .eql (.t 3) (.c lW [.int 0]))] false 0)
 (.cond (.t 4) (.seq (.region [] [oq 2 (.mov (.c lI [.int 64]))] false 0)
 .ret)
 .skip))
 (.seq (.region [] [oq 5 (.mov (.t 0)),
 oq 6 (.mov (.t 0)),
 oq 7 (.aSp (.t 6)),
 oq 8 (.tB .and (.t 5) (.t 7)),
 oq 9 (.tB .mul (.t 8) (.c lW [.int 285870213051353865])),
 oq 10 (.shf .shr (.t 9) (.c lW [.int 58])),
 oq 11 (.qF 64 194 5 lU (.c (.one (.ref 194)) [.dp xD]) (.t 10)),
 oq 12 (.ld lU 5 (.t 11)),
 oq 13 (.i2i .i64 (.t 12)),
 oq 2 (.mov (.t 13))] false 0)
 .ret)))}
def pF:aD:={ps:=[lW],rs:=[lI],res:=[(false,2,none)],body:=(.seq (.region [] [oq 2 (.mov (.c lI [.int 0]))] false 0)
 (.seq (.cond (.c lB [.bool false]) (.seq .bad
 .ret)
 .skip)
 (.seq (.region [] [oq 6 (.mov (.t 0)),
 oq 7 (.call 118 [lW] [lI] [(.t 6)]),
 oq 2 (.mov (.t 7))] false 0)
 .ret)))}
def pG:Shape:={slots:=[(0, .d (.one (.sl 5))),(1, .d lW),(3, .d lB),(4, .d lB),(10, .d (.one (.sl 5))),(11, .d lS),(12, .ptr 0 0),(13, .d lI),(14, .d lW),(15, .d lW),(16, .d lW)],objs:=bS7}
def qG:List (mB×Shape):=[(.exit 0,{slots:=[(0, .d (.one (.sl 5))),(1, .d lW),(3, .d lB),(4, .d lB),(10, .d (.one (.sl 5))),(11, .d lS),(12, .ptr 0 0),(13, .d lI)],objs:=bS7})]
def rG:zB:=(.seq (.seq (.region [] [oq 44 (.mov (.t 1)),
 oq 45 (.mov (.t 15)),
 oq 46 (.dA .geq (.t 44) (.t 45))] false 0)
 (.cond (.t 46) .skip
 (.exit 0)))
 (.block 1 (.seq (.region [] [oq 47 (.mov (.t 13)),
 oq 48 (.tB .sub (.t 47) (.c lI [.int 1])),
 oq 13 (.mov (.t 48))] false 0)
 (.seq (.region [] [oq 49 (.mov (.t 13)),
 oq 50 (.mov (.t 1)),
 oq 51 (.mov (.t 16)),
 oq 52 (.tB .and (.t 50) (.t 51)),
 oq 53 (.aB2 (.c lS [.str ([48,49,50,51,52,53,54,55,56,57,97,98,99,100,101,102,103,104,105,106,107,108,109,110,111,112,113,114,115,116,117,118,119,120,121,122]:List UInt8)]) (.t 52)),
 oq 54 (.qF 65 143 5 lU (.t 12) (.t 49)),
 ⟨none, .st lU (.t 54) (.t 53),none,[]⟩] false 0)
 (.region [] [oq 55 (.mov (.t 1)),
 oq 56 (.mov (.t 14)),
 oq 57 (.shf .shr (.t 55) (.t 56)),
 oq 1 (.mov (.t 57))] false 0)))))
noncomputable def eE (E:Env) (v0:C) (v1:Int) (v2:Bool) (v3:Bool) (v4:C) (v5:List UInt8) (v6:Int) (v7:Int) (v8:Int) (v9:Int) (v10:Row):Option (Nat×List PV):=E.fix (stepOf E rG pG qG) [.r [v0], .r [.int v1], .r [.bool v2], .r [.bool v3], .r [v4], .r [.str v5], .r [.int v6], .r [.int v7], .r [.int v8], .r [.int v9], .r v10]
noncomputable def fE (E:Env) (X:C→Int→Bool→Bool→C→List UInt8→Int→Int→Int→Int→Row→Option (Nat×List PV)) (v0:C) (v1:Int) (v2:Bool) (v3:Bool) (v4:C) (v5:List UInt8) (v6:Int) (v7:Int) (v8:Int) (v9:Int) (v10:Row):Option (Nat×List PV):=
 if (decide (v1≥v8))=true then
 if (0:Int)≤(bitsOf .and .u64 v1 v9)∧(bitsOf .and .u64 v1 v9)<(([48,49,50,51,52,53,54,55,56,57,97,98,99,100,101,102,103,104,105,106,107,108,109,110,111,112,113,114,115,116,117,118,119,120,121,122]:List UInt8).length:Int)then
 if (0:Int)≤(Go.IntKind.i64.wrap (v6 - 1))∧(Go.IntKind.i64.wrap (v6 - 1))<(65:Int)then
 aA1 lU (.agg (List.replicate 65 (.int .u8))) (0+(((Go.IntKind.i64.wrap (v6 - 1)).toNat)*1)) v10 [.int ((([48,49,50,51,52,53,54,55,56,57,97,98,99,100,101,102,103,104,105,106,107,108,109,110,111,112,113,114,115,116,117,118,119,120,121,122]:List UInt8).getD ((bitsOf .and .u64 v1 v9).toNat) 0).toNat:Int)] fun r10=>
 if v7<0 then none else X v0 (v1.fdiv (2^(min v7.toNat (Go.IntKind.bits .u64)))) v2 v3 v4 v5 (Go.IntKind.i64.wrap (v6 - 1)) v7 v8 v9 r10
 else none
 else none
 else
 some (0,[.r [v0], .r [.int v1], .r [.bool v2], .r [.bool v3], .r [v4], .r [.str v5], .r [.int v6], .r v10])
theorem aAn (E:Env) (X:List PV→Option (Nat×List PV)) (v0:C) (v1:Int) (v2:Bool) (v3:Bool) (v4:C) (v5:List UInt8) (v6:Int) (v7:Int) (v8:Int) (v9:Int) (v10:Row):stepOf E rG pG qG X [.r [v0], .r [.int v1], .r [.bool v2], .r [.bool v3], .r [v4], .r [.str v5], .r [.int v6], .r [.int v7], .r [.int v8], .r [.int v9], .r v10]=fE E (fun (v0:C) (v1:Int) (v2:Bool) (v3:Bool) (v4:C) (v5:List UInt8) (v6:Int) (v7:Int) (v8:Int) (v9:Int) (v10:Row)=>X [.r [v0], .r [.int v1], .r [.bool v2], .r [.bool v3], .r [v4], .r [.str v5], .r [.int v6], .r [.int v7], .r [.int v8], .r [.int v9], .r v10]) v0 v1 v2 v3 v4 v5 v6 v7 v8 v9 v10:=by kernel_rfl
def yN:Shape:={slots:=[(0, .d (.one (.sl 5))),(1, .d lW),(3, .d lB),(4, .d lB),(10, .d (.one (.sl 5))),(11, .d lS),(12, .ptr 0 0),(13, .d lI),(17, .d lW)],objs:=bS7}
def zN:List (mB×Shape):=[(.exit 2,{slots:=[(0, .d (.one (.sl 5))),(1, .d lW),(3, .d lB),(4, .d lB),(10, .d (.one (.sl 5))),(11, .d lS),(12, .ptr 0 0),(13, .d lI)],objs:=bS7})]
def aO:zB:=(.seq (.seq (.region [] [oq 66 (.mov (.t 1)),
 oq 67 (.mov (.t 17)),
 oq 68 (.dA .geq (.t 66) (.t 67))] false 0)
 (.cond (.t 68) .skip
 (.exit 2)))
 (.block 3 (.seq (.region [] [oq 69 (.mov (.t 13)),
 oq 70 (.tB .sub (.t 69) (.c lI [.int 1])),
 oq 13 (.mov (.t 70))] false 0)
 (.seq (.region [] [oq 71 (.mov (.t 1)),
 oq 72 (.mov (.t 17)),
 oq 73 (.idiv .quo (.t 71) (.t 72)),
 oq 18 (.mov (.t 73))] false 0)
 (.seq (.region [] [oq 74 (.mov (.t 13)),
 oq 75 (.mov (.t 1)),
 oq 76 (.mov (.t 18)),
 oq 77 (.mov (.t 17)),
 oq 78 (.tB .mul (.t 76) (.t 77)),
 oq 79 (.tB .sub (.t 75) (.t 78)),
 oq 80 (.aB2 (.c lS [.str ([48,49,50,51,52,53,54,55,56,57,97,98,99,100,101,102,103,104,105,106,107,108,109,110,111,112,113,114,115,116,117,118,119,120,121,122]:List UInt8)]) (.t 79)),
 oq 81 (.qF 65 143 5 lU (.t 12) (.t 74)),
 ⟨none, .st lU (.t 81) (.t 80),none,[]⟩] false 0)
 (.region [] [oq 82 (.mov (.t 18)),
 oq 1 (.mov (.t 82))] false 0))))))
noncomputable def aAo (E:Env) (v0:C) (v1:Int) (v2:Bool) (v3:Bool) (v4:C) (v5:List UInt8) (v6:Int) (v7:Int) (v8:Row):Option (Nat×List PV):=E.fix (stepOf E aO yN zN) [.r [v0], .r [.int v1], .r [.bool v2], .r [.bool v3], .r [v4], .r [.str v5], .r [.int v6], .r [.int v7], .r v8]
def kE:rZ:={fn:=78,entry:=bO,res:=[.tmp 10, .tmp 11],exit:=cO,body:=(.seq (.region [] [oq 10 (.mov (.c (.one (.sl 5)) [.fA])),
 oq 11 (.mov (.c lS [.str ([]:List UInt8)]))] false 0)
 (.seq (.seq (.join [(.normal,{slots:=[(0, .d (.one (.sl 5))),(1, .d lW),(2, .d lI),(3, .d lB),(4, .d lB),(10, .d (.one (.sl 5))),(11, .d lS),(28, .d lB)],objs:=[]})] (.region [] [oq 19 (.mov (.t 2)),
 oq 20 (.dA .lss (.t 19) (.c lI [.int 2])),
 oq 21 (.mov (.t 20)),
 ⟨some 22, .mov (.t 2),some (21,false),[]⟩,
 ⟨some 23, .dA .eql (.t 22) (.c lI [.int 10]),some (21,false),[]⟩,
 oq 24 (.pick (.t 21) (.c lB [.bool true]) (.t 23)),
 oq 25 (.mov (.t 24)),
 ⟨some 26, .mov (.t 2),some (25,false),[]⟩,
 ⟨some 27, .dA .gtr (.t 26) (.c lI [.int 36]),some (25,false),[]⟩,
 oq 28 (.pick (.t 25) (.c lB [.bool true]) (.t 27))] false 0))
 (.join [(.normal,{slots:=[(0, .d (.one (.sl 5))),(1, .d lW),(2, .d lI),(3, .d lB),(4, .d lB),(10, .d (.one (.sl 5))),(11, .d lS)],objs:=[]})] (.cond (.t 28) (.region [] [oq 29 (.bad),
 ⟨none, .bad,none,[]⟩] false 0)
 .skip)))
 (.seq (.region [] [oq 12 (.oB 0 (.agg (List.replicate 65 (.int .u8))) (List.replicate 65 (C.int 0)))] false 1)
 (.seq (.region [] [oq 13 (.mov (.c lI [.int 65]))] false 0)
 (.seq (.seq (.region [] [oq 30 (.mov (.t 3))] false 0)
 (.join [(.normal,{slots:=[(0, .d (.one (.sl 5))),(1, .d lW),(2, .d lI),(3, .d lB),(4, .d lB),(10, .d (.one (.sl 5))),(11, .d lS),(12, .ptr 0 0),(13, .d lI)],objs:=bS7})] (.cond (.t 30) (.region [] [oq 31 (.mov (.t 1)),
 oq 32 (.aSp (.t 31)),
 oq 1 (.mov (.t 32))] false 0)
 .skip)))
 (.seq (.seq (.region [] [oq 33 (.mov (.t 2)),
 oq 34 (.call 99 [lI] [lB] [(.t 33)])] false 0)
 (.join [(.normal,{slots:=[(0, .d (.one (.sl 5))),(3, .d lB),(4, .d lB),(10, .d (.one (.sl 5))),(11, .d lS),(12, .ptr 0 0),(13, .d lI)],objs:=bS7})] (.cond (.t 34) (.seq (.region [] [oq 35 (.mov (.t 2)),
 oq 36 (.i2i .u64 (.t 35)),
 oq 37 (.call 100 [lW] [lI] [(.t 36)]),
 oq 38 (.i2i .u64 (.t 37)),
 oq 14 (.mov (.t 38))] false 0)
 (.seq (.region [] [oq 39 (.mov (.t 2)),
 oq 40 (.i2i .u64 (.t 39)),
 oq 15 (.mov (.t 40))] false 0)
 (.seq (.region [] [oq 41 (.mov (.t 2)),
 oq 42 (.i2i .u64 (.t 41)),
 oq 43 (.tB .sub (.t 42) (.c lW [.int 1])),
 oq 16 (.mov (.t 43))] false 0)
 (.seq (.block 0 (.loop pG qG rG))
 (.seq (.region [] [oq 58 (.mov (.t 13)),
 oq 59 (.tB .sub (.t 58) (.c lI [.int 1])),
 oq 13 (.mov (.t 59))] false 0)
 (.region [] [oq 60 (.mov (.t 13)),
 oq 61 (.mov (.t 1)),
 oq 62 (.aB2 (.c lS [.str ([48,49,50,51,52,53,54,55,56,57,97,98,99,100,101,102,103,104,105,106,107,108,109,110,111,112,113,114,115,116,117,118,119,120,121,122]:List UInt8)]) (.t 61)),
 oq 63 (.qF 65 143 5 lU (.t 12) (.t 60)),
 ⟨none, .st lU (.t 63) (.t 62),none,[]⟩] false 0))))))
 (.seq (.region [] [oq 64 (.mov (.t 2)),
 oq 65 (.i2i .u64 (.t 64)),
 oq 17 (.mov (.t 65))] false 0)
 (.seq (.block 2 (.loop yN zN aO))
 (.seq (.region [] [oq 83 (.mov (.t 13)),
 oq 84 (.tB .sub (.t 83) (.c lI [.int 1])),
 oq 13 (.mov (.t 84))] false 0)
 (.region [] [oq 85 (.mov (.t 13)),
 oq 86 (.mov (.t 1)),
 oq 87 (.aB2 (.c lS [.str ([48,49,50,51,52,53,54,55,56,57,97,98,99,100,101,102,103,104,105,106,107,108,109,110,111,112,113,114,115,116,117,118,119,120,121,122]:List UInt8)]) (.t 86)),
 oq 88 (.qF 65 143 5 lU (.t 12) (.t 85)),
 ⟨none, .st lU (.t 88) (.t 87),none,[]⟩] false 0)))))))
 (.seq (.seq (.region [] [oq 89 (.mov (.t 3))] false 0)
 (.cond (.t 89) (.seq (.region [] [oq 90 (.mov (.t 13)),
 oq 91 (.tB .sub (.t 90) (.c lI [.int 1])),
 oq 13 (.mov (.t 91))] false 0)
 (.region [] [oq 92 (.mov (.t 13)),
 oq 93 (.qF 65 143 5 lU (.t 12) (.t 92)),
 ⟨none, .st lU (.t 93) (.c lU [.int 45]),none,[]⟩] false 0))
 .skip))
 (.seq (.seq (.region [] [oq 94 (.mov (.t 4))] false 0)
 (.cond (.t 94) (.seq (.region [(12,143,some (.agg (List.replicate 65 (.int .u8))))] [oq 95 (.mov (.t 0)),
 oq 96 (.mov (.t 13)),
 oq 97 (.aSr 65 143 5 lU (.t 12) (.t 96)),
 oq 98 (.bad),
 oq 10 (.bad)] false 1)
 .ret)
 .skip))
 (.seq (.region [(12,143,some (.agg (List.replicate 65 (.int .u8))))] [oq 99 (.mov (.t 13)),
 oq 100 (.aSr 65 143 5 lU (.t 12) (.t 99)),
 oq 101 (.b2s 5 (.t 100)),
 oq 11 (.mov (.t 101))] false 0)
 .ret)))))))))}
noncomputable def jI (E:Env) (p0:C) (p1:Int) (p2:Int) (p3:Bool) (p4:Bool):Option (List PV):=
 (let K1:Bool→Option (Nat×List PV):=fun q2=>
 let K3:Bool→Option (Nat×List PV):=fun q4=>
 some (0,[.r [p0], .r [.int p1], .r [.int p2], .r [.bool p3], .r [.bool p4], .r [.fA], .r [.str ([]:List UInt8)], .r [.bool q4]])
 if q2=true then
 K3 true
 else
 K3 (decide (p2>36))
 if (decide (p2<2))=true then
 K1 true
 else
 K1 (p2==10)).bind fun x5=>
 (if (gB 7 x5.2)=true then
 none
 else
 some (0,[.r [gC 0 x5.2], .r [.int (gI 1 x5.2)], .r [.int (gI 2 x5.2)], .r [.bool (gB 3 x5.2)], .r [.bool (gB 4 x5.2)], .r [gC 5 x5.2], .r [.str (gS 6 x5.2)]])).bind fun x6=>
 (if (gB 3 x6.2)=true then
 some (0,[.r [gC 0 x6.2], .r [.int (Go.IntKind.u64.wrap (0 - (gI 1 x6.2)))], .r [.int (gI 2 x6.2)], .r [.bool (gB 3 x6.2)], .r [.bool (gB 4 x6.2)], .r [gC 5 x6.2], .r [.str (gS 6 x6.2)], .r [.int 65], .r (List.replicate 65 (C.int 0))])
 else
 some (0,[.r [gC 0 x6.2], .r [.int (gI 1 x6.2)], .r [.int (gI 2 x6.2)], .r [.bool (gB 3 x6.2)], .r [.bool (gB 4 x6.2)], .r [gC 5 x6.2], .r [.str (gS 6 x6.2)], .r [.int 65], .r (List.replicate 65 (C.int 0))])).bind fun x7=>
 (E.pc kI [[.int (gI 2 x7.2)]]).bind fun y8=>
 (if ((at_ (aA y8 0) 0).lK)=true then
 (E.pc cP [[.int (Go.IntKind.u64.wrap (gI 2 x7.2))]]).bind fun y9=>
 (eE E (gC 0 x7.2) (gI 1 x7.2) (gB 3 x7.2) (gB 4 x7.2) (gC 5 x7.2) (gS 6 x7.2) (gI 7 x7.2) (Go.IntKind.u64.wrap ((at_ (aA y9 0) 0).vA)) (Go.IntKind.u64.wrap (gI 2 x7.2)) (Go.IntKind.u64.wrap ((Go.IntKind.u64.wrap (gI 2 x7.2)) - 1)) (gR 8 x7.2)).bind fun eJ=>
 if (0:Int)≤(gI 1 eJ.2)∧(gI 1 eJ.2)<(([48,49,50,51,52,53,54,55,56,57,97,98,99,100,101,102,103,104,105,106,107,108,109,110,111,112,113,114,115,116,117,118,119,120,121,122]:List UInt8).length:Int)then
 if (0:Int)≤(Go.IntKind.i64.wrap ((gI 6 eJ.2) - 1))∧(Go.IntKind.i64.wrap ((gI 6 eJ.2) - 1))<(65:Int)then
 aA1 lU (.agg (List.replicate 65 (.int .u8))) (0+(((Go.IntKind.i64.wrap ((gI 6 eJ.2) - 1)).toNat)*1)) (gR 7 eJ.2) [.int ((([48,49,50,51,52,53,54,55,56,57,97,98,99,100,101,102,103,104,105,106,107,108,109,110,111,112,113,114,115,116,117,118,119,120,121,122]:List UInt8).getD ((gI 1 eJ.2).toNat) 0).toNat:Int)] fun r12=>
 some (0,[.r [gC 0 eJ.2], .r [.bool (gB 2 eJ.2)], .r [.bool (gB 3 eJ.2)], .r [gC 4 eJ.2], .r [.str (gS 5 eJ.2)], .r [.int (Go.IntKind.i64.wrap ((gI 6 eJ.2) - 1))], .r r12])
 else none
 else none
 else
 (aAo E (gC 0 x7.2) (gI 1 x7.2) (gB 3 x7.2) (gB 4 x7.2) (gC 5 x7.2) (gS 6 x7.2) (gI 7 x7.2) (Go.IntKind.u64.wrap (gI 2 x7.2)) (gR 8 x7.2)).bind fun nW=>
 if (0:Int)≤(gI 1 nW.2)∧(gI 1 nW.2)<(([48,49,50,51,52,53,54,55,56,57,97,98,99,100,101,102,103,104,105,106,107,108,109,110,111,112,113,114,115,116,117,118,119,120,121,122]:List UInt8).length:Int)then
 if (0:Int)≤(Go.IntKind.i64.wrap ((gI 6 nW.2) - 1))∧(Go.IntKind.i64.wrap ((gI 6 nW.2) - 1))<(65:Int)then
 aA1 lU (.agg (List.replicate 65 (.int .u8))) (0+(((Go.IntKind.i64.wrap ((gI 6 nW.2) - 1)).toNat)*1)) (gR 7 nW.2) [.int ((([48,49,50,51,52,53,54,55,56,57,97,98,99,100,101,102,103,104,105,106,107,108,109,110,111,112,113,114,115,116,117,118,119,120,121,122]:List UInt8).getD ((gI 1 nW.2).toNat) 0).toNat:Int)] fun r15=>
 some (0,[.r [gC 0 nW.2], .r [.bool (gB 2 nW.2)], .r [.bool (gB 3 nW.2)], .r [gC 4 nW.2], .r [.str (gS 5 nW.2)], .r [.int (Go.IntKind.i64.wrap ((gI 6 nW.2) - 1))], .r r15])
 else none
 else none).bind fun x16=>
 if (gB 1 x16.2)=true then
 if (0:Int)≤(Go.IntKind.i64.wrap ((gI 5 x16.2) - 1))∧(Go.IntKind.i64.wrap ((gI 5 x16.2) - 1))<(65:Int)then
 aA1 lU (.agg (List.replicate 65 (.int .u8))) (0+(((Go.IntKind.i64.wrap ((gI 5 x16.2) - 1)).toNat)*1)) (gR 6 x16.2) [.int 45] fun r17=>
 if (gB 2 x16.2)=true then
 if (0:Int)≤(Go.IntKind.i64.wrap ((gI 5 x16.2) - 1))∧(Go.IntKind.i64.wrap ((gI 5 x16.2) - 1))≤(65:Int)∧(C.dp r17).jB=true then
 none
 else none
 else
 if (0:Int)≤(Go.IntKind.i64.wrap ((gI 5 x16.2) - 1))∧(Go.IntKind.i64.wrap ((gI 5 x16.2) - 1))≤(65:Int)∧(C.dp r17).jB=true then
 some [.r [gC 3 x16.2], .r [.str (bytesOf ((r17.drop ((Go.IntKind.i64.wrap ((gI 5 x16.2) - 1)).toNat)).map fun c=>[c]))]]
 else none
 else none
 else
 if (gB 2 x16.2)=true then
 if (0:Int)≤(gI 5 x16.2)∧(gI 5 x16.2)≤(65:Int)∧(C.dp (gR 6 x16.2)).jB=true then
 none
 else none
 else
 if (0:Int)≤(gI 5 x16.2)∧(gI 5 x16.2)≤(65:Int)∧(C.dp (gR 6 x16.2)).jB=true then
 some [.r [gC 3 x16.2], .r [.str (bytesOf (((gR 6 x16.2).drop ((gI 5 x16.2).toNat)).map fun c=>[c]))]]
 else none
theorem aAp (E:Env) (p0:C) (p1:Int) (p2:Int) (p3:Bool) (p4:Bool):j9 E kE [.r [p0], .r [.int p1], .r [.int p2], .r [.bool p3], .r [.bool p4]]=jI E p0 p1 p2 p3 p4:=by kernel_rfl
def xF:aD:={ps:=[lW,lI],rs:=[lS],res:=[(false,4,none)],body:=(.seq (.region [] [oq 4 (.mov (.c lS [.str ([]:List UInt8)]))] false 0)
 (.seq (.seq (.region [] [oq 9 (.mov (.t 1)),
 oq 10 (.dA .eql (.t 9) (.c lI [.int 10]))] false 0)
 (.cond (.t 10) (.seq (.seq (.region [] [oq 11 (.mov (.t 0)),
 oq 12 (.dA .lss (.t 11) (.c lW [.int 100]))] false 0)
 (.cond (.t 12) (.seq (.region [] [oq 13 (.mov (.t 0)),
 oq 14 (.i2i .i64 (.t 13)),
 oq 15 (.bad),
 oq 4 (.bad)] false 0)
 .ret)
 .skip))
 (.seq (.region [] [oq 5 (.oB 0 (.agg [.int .u8, .int .u8, .int .u8, .int .u8, .int .u8, .int .u8, .int .u8, .int .u8, .int .u8, .int .u8, .int .u8, .int .u8, .int .u8, .int .u8, .int .u8, .int .u8, .int .u8, .int .u8, .int .u8, .int .u8, .int .u8, .int .u8, .int .u8, .int .u8]) [.int 0, .int 0, .int 0, .int 0, .int 0, .int 0, .int 0, .int 0, .int 0, .int 0, .int 0, .int 0, .int 0, .int 0, .int 0, .int 0, .int 0, .int 0, .int 0, .int 0, .int 0, .int 0, .int 0, .int 0])] false 1)
 (.seq (.region [] [oq 16 (.mov (.t 0)),
 oq 17 (.bad),
 oq 6 (.bad)] false 0)
 (.seq .bad
 (.seq .bad
 .ret)))))
 .skip))
 (.seq (.region [] [oq 26 (.mov (.t 0)),
 oq 27 (.mov (.t 1)),
 oq 28 (.nB 191 78 (bO) (cO) [] 0 none [(.c (.one (.sl 5)) [.fA]),(.t 26),(.t 27),(.c lB [.bool false]),(.c lB [.bool false])]),
 oq 25 (.mov (.t 28)),
 oq 29 (.ext 0 (.t 25)),
 oq 30 (.ext 1 (.t 25)),
 oq 7 (.mov (.t 29)),
 oq 8 (.mov (.t 30))] false 0)
 (.seq (.region [] [oq 31 (.mov (.t 8)),
 oq 4 (.mov (.t 31))] false 0)
 .ret))))}
noncomputable def zM (E:Env) (p0:Int) (p1:Int):Option (List Row):=
 if (p1==10)=true then
 if (decide (p0<100))=true then
 none
 else
 none
 else
 (E.ic kH [.r [.fA], .r [.int p0], .r [.int p1], .r [.bool false], .r [.bool false]]).bind fun y1=>
 some [[.str (gS 1 y1)]]
theorem aCH (E:Env) (p0:Int) (p1:Int):xE E xF [[.int p0],[.int p1]]=zM E p0 p1:=by kernel_rfl
def yP:aD:={ps:=[lW,lI],rs:=[lS],res:=[(false,4,none)],body:=(.seq (.region [] [oq 4 (.mov (.c lS [.str ([]:List UInt8)]))] false 0)
 (.seq (.region [] [oq 5 (.mov (.t 0)),
 oq 6 (.mov (.t 1)),
 oq 7 (.call 67 [lW,lI] [lS] [(.t 5),(.t 6)]),
 oq 4 (.mov (.t 7))] false 0)
 .ret))}
noncomputable def aAq (E:Env) (p0:Int) (p1:Int):Option (List Row):=
 (E.pc iK [[.int p0],[.int p1]]).bind fun y1=>
 some [[.str ((at_ (aA y1 0) 0).mD)]]
theorem aI0 (E:Env) (p0:Int) (p1:Int):xE E yP [[.int p0],[.int p1]]=aAq E p0 p1:=by kernel_rfl
end Go.Ev
