/-
  A part of the proof: what the functions of the program compute.
-/
import Derived.Test.YtfonaepdedbhhaaGreatDoorZNum
set_option linter.all false
set_option maxRecDepth 100000
namespace Go.Ev
def aGp:Shape:={slots:=[(0, .d (.one (.sl 68))),(3, .d lI),(4, .d (.one (.ref 68))),(5, .d lI),(15, .d (.one (.sl 68))),(16, .d lI),(17, .d lI),(22, .d lI),(53, .d (.one (.sl 68))),(54, .d lI),(55, .d lI)],objs:=[]}
def aGq:List (mB×Shape):=[(.exit 4,{slots:=[(0, .d (.one (.sl 68))),(3, .d lI),(4, .d (.one (.ref 68))),(15, .d (.one (.sl 68))),(16, .d lI),(17, .d lI),(22, .d lI)],objs:=[]}),(.ret,{slots:=[(2, .d lI)],objs:=[]})]
def aGr:zB:=(.seq (.region [] [oq 56 (.dA .lss (.t 55) (.t 54))] false 0)
 (.seq (.cond (.t 56) .skip
 (.exit 4))
 (.seq (.block 5 (.seq (.region [] [oq 57 (.iad 68 lA8 (.t 53) (.t 55)),
 oq 58 (.ld lA8 68 (.t 57)),
 oq 8 (.oB 0 lA8 [.int 0, .int 0, .str [], .fA, .int 0, .int 0, .str [], .fA]),
 ⟨none, .st lA8 (.t 8) (.t 58),none,[]⟩] false 1)
 (.seq (.region [(8,68,some lA8)] [oq 59 (.mov (.t 5)),
 ⟨some 60, .qF 2 68 25 lH (.t 4) (.t 59),none,[0]⟩,
 ⟨some 61, .ld lH 25 (.t 60),none,[0,1]⟩,
 oq 62 (.mov (.t 5)),
 ⟨some 63, .qF 2 68 25 lH (.t 8) (.t 62),none,[3]⟩,
 ⟨some 64, .ld lH 25 (.t 63),none,[3,4]⟩,
 ⟨some 65, .call 52 [lH,lH] [lB] [(.t 61),(.t 64)],none,[0,1,2,3,4,5]⟩] true 0)
 (.cond (.t 65) (.seq (.region [] [oq 2 (.mov (.c lI [.int 5]))] false 0)
 .ret)
 .skip))))
 (.region [] [oq 66 (.tB .add (.t 55) (.c lI [.int 1])),
 oq 55 (.mov (.t 66))] false 0))))
noncomputable def aDd (E:Env) (v0:C) (v1:Int) (v2:C) (v3:Int) (v4:C) (v5:Int) (v6:Int) (v7:Int) (v8:C) (v9:Int) (v10:Int):Option (Nat×List PV):=E.fix (stepOf E aGr aGp aGq) [.r [v0], .r [.int v1], .r [v2], .r [.int v3], .r [v4], .r [.int v5], .r [.int v6], .r [.int v7], .r [v8], .r [.int v9], .r [.int v10]]
noncomputable def aDe (E:Env) (X:C→Int→C→Int→C→Int→Int→Int→C→Int→Int→Option (Nat×List PV)) (v0:C) (v1:Int) (v2:C) (v3:Int) (v4:C) (v5:Int) (v6:Int) (v7:Int) (v8:C) (v9:Int) (v10:Int):Option (Nat×List PV):=
 if (decide (v10<v9))=true then
 if (0:Int)≤v10∧v10<(v8.rows.length:Int)then
 if (0:Int)≤v3∧v3<(2:Int)∧v2.jB=true then
 if (0:Int)≤v3∧v3<(2:Int)∧(C.dp (aA v8.rows v10.toNat)).jB=true then
 (E.pc aBv [[at_ v2.cA (v3.toNat*4),at_ v2.cA (v3.toNat*4+1),at_ v2.cA (v3.toNat*4+2),at_ v2.cA (v3.toNat*4+3)],[at_ (aA v8.rows v10.toNat) (v3.toNat*4),at_ (aA v8.rows v10.toNat) (v3.toNat*4+1),at_ (aA v8.rows v10.toNat) (v3.toNat*4+2),at_ (aA v8.rows v10.toNat) (v3.toNat*4+3)]]).bind fun y6=>
 if ((at_ (aA y6 0) 0).lK)=true then
 some (1,[.r [.int 5]])
 else
 X v0 v1 v2 v3 v4 v5 v6 v7 v8 v9 (Go.IntKind.i64.wrap (v10+1))
 else none
 else none
 else none
 else
 some (0,[.r [v0], .r [.int v1], .r [v2], .r [v4], .r [.int v5], .r [.int v6], .r [.int v7]])
theorem aQ6 (E:Env) (X:List PV→Option (Nat×List PV)) (v0:C) (v1:Int) (v2:C) (v3:Int) (v4:C) (v5:Int) (v6:Int) (v7:Int) (v8:C) (v9:Int) (v10:Int):stepOf E aGr aGp aGq X [.r [v0], .r [.int v1], .r [v2], .r [.int v3], .r [v4], .r [.int v5], .r [.int v6], .r [.int v7], .r [v8], .r [.int v9], .r [.int v10]]=aDe E (fun (v0:C) (v1:Int) (v2:C) (v3:Int) (v4:C) (v5:Int) (v6:Int) (v7:Int) (v8:C) (v9:Int) (v10:Int)=>X [.r [v0], .r [.int v1], .r [v2], .r [.int v3], .r [v4], .r [.int v5], .r [.int v6], .r [.int v7], .r [v8], .r [.int v9], .r [.int v10]]) v0 v1 v2 v3 v4 v5 v6 v7 v8 v9 v10:=by kernel_rfl
def aGs:Shape:={slots:=[(0, .d (.one (.sl 68))),(3, .d lI),(4, .d (.one (.ref 68))),(15, .d (.one (.sl 68))),(16, .d lI),(17, .d lI),(22, .d lI)],objs:=[]}
def aGt:List (mB×Shape):=[(.exit 2,{slots:=[(0, .d (.one (.sl 68))),(15, .d (.one (.sl 68))),(16, .d lI),(17, .d lI)],objs:=[]}),(.ret,{slots:=[(2, .d lI)],objs:=[]})]
def aGu:zB:=(.seq (.region [] [oq 23 (.dA .lss (.t 22) (.c lI [.int 2]))] false 0)
 (.seq (.cond (.t 23) .skip
 (.exit 2))
 (.seq (.block 3 (.seq (.region [] [oq 24 (.mov (.t 22)),
 oq 5 (.mov (.t 24))] false 0)
 (.seq (.seq (.region [] [oq 25 (.mov (.t 5)),
 oq 26 (.qF 2 68 25 lH (.t 4) (.t 25)),
 oq 27 (.ld lH 25 (.t 26)),
 oq 28 (.call 40 [lH] [lI] [(.t 27)]),
 oq 6 (.mov (.t 28))] false 0)
 (.seq (.region [] [oq 29 (.mov (.t 6)),
 oq 30 (.dA .neq (.t 29) (.c lI [.int 0]))] false 0)
 (.cond (.t 30) (.seq (.region [] [oq 31 (.mov (.t 6)),
 oq 2 (.mov (.t 31))] false 0)
 .ret)
 .skip)))
 (.seq (.seq (.join [(.normal,{slots:=[(0, .d (.one (.sl 68))),(3, .d lI),(4, .d (.one (.ref 68))),(5, .d lI),(15, .d (.one (.sl 68))),(16, .d lI),(17, .d lI),(22, .d lI),(50, .d lB)],objs:=[]})] (.region [] [oq 32 (.mov (.t 5)),
 ⟨some 33, .qF 2 68 25 lH (.t 4) (.t 32),none,[0]⟩,
 ⟨some 34, .xA 0 1 25 3 (.t 33),none,[0,1]⟩,
 ⟨some 35, .ld lI 3 (.t 34),none,[0,1,2]⟩,
 ⟨some 36, .call 72 [lI] [lB] [(.t 35)],none,[0,1,2,3]⟩,
 ⟨some 37, .not (.t 36),none,[0,1,2,3,4]⟩,
 ⟨some 38, .mov (.t 37),none,[0,1,2,3,4,5]⟩,
 ⟨some 39, .mov (.t 5),some (38,false),[0,1,2,3,4,5,6]⟩,
 ⟨some 40, .qF 2 68 25 lH (.t 4) (.t 39),some (38,false),[0,1,2,3,4,5,6,7]⟩,
 ⟨some 41, .xA 0 1 25 3 (.t 40),some (38,false),[0,1,2,3,4,5,6,7,8]⟩,
 ⟨some 42, .ld lI 3 (.t 41),some (38,false),[0,1,2,3,4,5,6,7,8,9]⟩,
 ⟨some 43, .mov (.t 0),some (38,false),[0,1,2,3,4,5,6]⟩,
 ⟨some 44, .mov (.t 5),some (38,false),[0,1,2,3,4,5,6]⟩,
 ⟨some 45, .iad 68 lA8 (.t 43) (.c lI [.int 0]),some (38,false),[0,1,2,3,4,5,6,11]⟩,
 ⟨some 46, .qF 2 68 25 lH (.t 45) (.t 44),some (38,false),[0,1,2,3,4,5,6,11,12,13]⟩,
 ⟨some 47, .xA 0 1 25 3 (.t 46),some (38,false),[0,1,2,3,4,5,6,11,12,13,14]⟩,
 ⟨some 48, .ld lI 3 (.t 47),some (38,false),[0,1,2,3,4,5,6,11,12,13,14,15]⟩,
 ⟨some 49, .dA .neq (.t 42) (.t 48),some (38,false),[0,1,2,3,4,5,6,7,8,9,10,11,12,13,14,15,16]⟩,
 ⟨some 50, .pick (.t 38) (.c lB [.bool true]) (.t 49),none,[0,1,2,3,4,5,6,7,8,9,10,11,12,13,14,15,16,17]⟩] true 0))
 (.cond (.t 50) (.seq (.region [] [oq 2 (.mov (.c lI [.int 8]))] false 0)
 .ret)
 .skip))
 (.seq (.region [] [oq 51 (.mov (.t 0)),
 oq 52 (.mov (.t 3)),
 oq 53 (.slc 68 lA8 (.t 51) none (some (.t 52))),
 oq 54 (.gE (.t 53)),
 oq 55 (.mov (.c lI [.int 0]))] false 0)
 (.block 4 (.loop aGp aGq aGr)))))))
 (.region [] [oq 67 (.tB .add (.t 22) (.c lI [.int 1])),
 oq 22 (.mov (.t 67))] false 0))))
noncomputable def vU (E:Env) (v0:C) (v1:Int) (v2:C) (v3:C) (v4:Int) (v5:Int) (v6:Int):Option (Nat×List PV):=E.fix (stepOf E aGu aGs aGt) [.r [v0], .r [.int v1], .r [v2], .r [v3], .r [.int v4], .r [.int v5], .r [.int v6]]
noncomputable def aDf (E:Env) (X:C→Int→C→C→Int→Int→Int→Option (Nat×List PV)) (v0:C) (v1:Int) (v2:C) (v3:C) (v4:Int) (v5:Int) (v6:Int):Option (Nat×List PV):=
 if (decide (v6<2))=true then
 if (0:Int)≤v6∧v6<(2:Int)∧v2.jB=true then
 (E.pc mH [[at_ v2.cA (v6.toNat*4),at_ v2.cA (v6.toNat*4+1),at_ v2.cA (v6.toNat*4+2),at_ v2.cA (v6.toNat*4+3)]]).bind fun y1=>
 if (((at_ (aA y1 0) 0).vA) !=0)=true then
 some (1,[.r [.int ((at_ (aA y1 0) 0).vA)]])
 else
 (if (0:Int)≤v6∧v6<(2:Int)∧v2.jB=true then
 (E.pc aBw [[.int ((at_ v2.cA (v6.toNat*4)).vA)]]).bind fun y2=>
 let K3:Bool→Option (Nat×List PV):=fun q4=>
 some (0,[.r [v0], .r [.int v1], .r [v2], .r [.int v6], .r [v3], .r [.int v4], .r [.int v5], .r [.int v6], .r [.bool q4]])
 if (!((at_ (aA y2 0) 0).lK))=true then
 K3 true
 else
 if (0:Int)≤v6∧v6<(2:Int)∧v2.jB=true then
 if (0:Int)≤0∧0<(v0.rows.length:Int)then
 if (0:Int)≤v6∧v6<(2:Int)∧(C.dp (aA v0.rows 0)).jB=true then
 K3 (((at_ v2.cA (v6.toNat*4)).vA) !=((at_ (aA v0.rows 0) (v6.toNat*4)).vA))
 else none
 else none
 else none
 else none).bind fun x5=>
 if (gB 8 x5.2)=true then
 some (1,[.r [.int 8]])
 else
 if (0:Int)≤0∧0≤(gI 1 x5.2)∧(gI 1 x5.2)≤(((gC 0 x5.2).rows).length:Int)then
 (aDd E (gC 0 x5.2) (gI 1 x5.2) (gC 2 x5.2) (gI 3 x5.2) (gC 4 x5.2) (gI 5 x5.2) (gI 6 x5.2) (gI 7 x5.2) (aKG (gC 0 x5.2) 0 (gI 1 x5.2)) (((aKG (gC 0 x5.2) 0 (gI 1 x5.2)).rows).length:Int) 0).bind fun x7=>
 match x7.1 with
 |0=>
 X (gC 0 x7.2) (gI 1 x7.2) (gC 2 x7.2) (gC 3 x7.2) (gI 4 x7.2) (gI 5 x7.2) (Go.IntKind.i64.wrap ((gI 6 x7.2)+1))
 |i8+1=>
 some (1,[.r [.int (gI 0 x7.2)]])
 else none
 else none
 else
 some (0,[.r [v0], .r [v3], .r [.int v4], .r [.int v5]])
theorem aQ7 (E:Env) (X:List PV→Option (Nat×List PV)) (v0:C) (v1:Int) (v2:C) (v3:C) (v4:Int) (v5:Int) (v6:Int):stepOf E aGu aGs aGt X [.r [v0], .r [.int v1], .r [v2], .r [v3], .r [.int v4], .r [.int v5], .r [.int v6]]=aDf E (fun (v0:C) (v1:Int) (v2:C) (v3:C) (v4:Int) (v5:Int) (v6:Int)=>X [.r [v0], .r [.int v1], .r [v2], .r [v3], .r [.int v4], .r [.int v5], .r [.int v6]]) v0 v1 v2 v3 v4 v5 v6:=by kernel_rfl
def aGv:Shape:={slots:=[(0, .d (.one (.sl 68))),(15, .d (.one (.sl 68))),(16, .d lI),(17, .d lI)],objs:=[]}
def aGw:List (mB×Shape):=[(.exit 0,{slots:=[],objs:=[]}),(.ret,{slots:=[(2, .d lI)],objs:=[]})]
def aGx:zB:=(.seq (.region [] [oq 18 (.dA .lss (.t 17) (.t 16))] false 0)
 (.seq (.cond (.t 18) .skip
 (.exit 0))
 (.seq (.block 1 (.seq (.region [] [oq 19 (.mov (.t 17)),
 oq 20 (.iad 68 lA8 (.t 15) (.t 17)),
 oq 21 (.ld lA8 68 (.t 20)),
 oq 4 (.oB 0 lA8 [.int 0, .int 0, .str [], .fA, .int 0, .int 0, .str [], .fA]),
 oq 3 (.mov (.t 19)),
 ⟨none, .st lA8 (.t 4) (.t 21),none,[]⟩] false 1)
 (.seq (.region [(4,68,some lA8)] [oq 22 (.mov (.c lI [.int 0]))] false 0)
 (.block 2 (.loop aGs aGt aGu)))))
 (.region [] [oq 68 (.tB .add (.t 17) (.c lI [.int 1])),
 oq 17 (.mov (.t 68))] false 0))))
noncomputable def aDg (E:Env) (v0:C) (v1:C) (v2:Int) (v3:Int):Option (Nat×List PV):=E.fix (stepOf E aGx aGv aGw) [.r [v0], .r [v1], .r [.int v2], .r [.int v3]]
noncomputable def aDh (E:Env) (X:C→C→Int→Int→Option (Nat×List PV)) (v0:C) (v1:C) (v2:Int) (v3:Int):Option (Nat×List PV):=
 if (decide (v3<v2))=true then
 if (0:Int)≤v3∧v3<(v1.rows.length:Int)then
 (vU E v0 v3 (.dp (aA v1.rows v3.toNat)) v1 v2 v3 0).bind fun x9=>
 match x9.1 with
 |0=>
 X (gC 0 x9.2) (gC 1 x9.2) (gI 2 x9.2) (Go.IntKind.i64.wrap ((gI 3 x9.2)+1))
 |i10+1=>
 some (1,[.r [.int (gI 0 x9.2)]])
 else none
 else
 some (0,[])
theorem aQ8 (E:Env) (X:List PV→Option (Nat×List PV)) (v0:C) (v1:C) (v2:Int) (v3:Int):stepOf E aGx aGv aGw X [.r [v0], .r [v1], .r [.int v2], .r [.int v3]]=aDh E (fun (v0:C) (v1:C) (v2:Int) (v3:Int)=>X [.r [v0], .r [v1], .r [.int v2], .r [.int v3]]) v0 v1 v2 v3:=by kernel_rfl
def aEs:aD:={ps:=[(.one (.sl 68))],rs:=[lI],res:=[(false,2,none)],body:=(.seq (.region [] [oq 2 (.mov (.c lI [.int 0]))] false 0)
 (.seq (.seq (.region [] [oq 9 (.mov (.t 0)),
 oq 10 (.gE (.t 9)),
 oq 11 (.dA .eql (.t 10) (.c lI [.int 0]))] false 0)
 (.cond (.t 11) (.seq (.region [] [oq 2 (.mov (.c lI [.int 3]))] false 0)
 .ret)
 .skip))
 (.seq (.seq (.region [] [oq 12 (.mov (.t 0)),
 oq 13 (.gE (.t 12)),
 oq 14 (.dA .gtr (.t 13) (.c lI [.int 40]))] false 0)
 (.cond (.t 14) (.seq (.region [] [oq 2 (.mov (.c lI [.int 2]))] false 0)
 .ret)
 .skip))
 (.seq (.seq (.region [] [oq 15 (.mov (.t 0)),
 oq 16 (.gE (.t 15)),
 oq 17 (.mov (.c lI [.int 0]))] false 0)
 (.block 0 (.loop aGv aGw aGx)))
 (.seq (.region [] [oq 2 (.mov (.c lI [.int 0]))] false 0)
 .ret)))))}
noncomputable def aLe (E:Env) (p0:C):Option (List Row):=
 if ((p0.rows.length:Int)==0)=true then
 some [[.int 3]]
 else
 if (decide ((p0.rows.length:Int)>40))=true then
 some [[.int 2]]
 else
 (aDg E p0 p0 (p0.rows.length:Int) 0).bind fun eJ=>
 match eJ.1 with
 |0=>
 some [[.int 0]]
 |i12+1=>
 some [[.int (gI 0 eJ.2)]]
theorem aQ9 (E:Env) (p0:C):xE E aEs [[p0]]=aLe E p0:=by kernel_rfl
def aDP:Shape:={slots:=[(52, .d (.one (.sl 9))),(53, .d lI),(54, .d lI)],objs:=[]}
def aDQ:List (mB×Shape):=[(.exit 1,{slots:=[],objs:=[]}),(.ret,{slots:=[(2, .d lI)],objs:=[]})]
def aDR:zB:=(.seq (.region [] [oq 55 (.dA .lss (.t 54) (.t 53))] false 0)
 (.seq (.cond (.t 55) .skip
 (.exit 1))
 (.seq (.block 2 (.seq (.region [] [oq 56 (.iad 9 lS (.t 52) (.t 54)),
 oq 57 (.ld lS 9 (.t 56)),
 oq 4 (.mov (.t 57))] false 0)
 (.seq (.region [] [oq 58 (.mov (.t 4)),
 oq 59 (.call 59 [lS] [lI] [(.t 58)]),
 oq 5 (.mov (.t 59))] false 0)
 (.seq (.region [] [oq 60 (.mov (.t 5)),
 oq 61 (.dA .neq (.t 60) (.c lI [.int 0]))] false 0)
 (.cond (.t 61) (.seq (.region [] [oq 62 (.mov (.t 5)),
 oq 2 (.mov (.t 62))] false 0)
 .ret)
 .skip)))))
 (.region [] [oq 63 (.tB .add (.t 54) (.c lI [.int 1])),
 oq 54 (.mov (.t 63))] false 0))))
noncomputable def z7 (E:Env) (v0:C) (v1:Int) (v2:Int):Option (Nat×List PV):=E.fix (stepOf E aDR aDP aDQ) [.r [v0], .r [.int v1], .r [.int v2]]
noncomputable def nU (E:Env) (X:C→Int→Int→Option (Nat×List PV)) (v0:C) (v1:Int) (v2:Int):Option (Nat×List PV):=
 if (decide (v2<v1))=true then
 if (0:Int)≤v2∧v2<(v0.rows.length:Int)then
 (E.pc cI [[.str ((at_ (aA v0.rows v2.toNat) 0).mD)]]).bind fun y7=>
 if (((at_ (aA y7 0) 0).vA) !=0)=true then
 some (1,[.r [.int ((at_ (aA y7 0) 0).vA)]])
 else
 X v0 v1 (Go.IntKind.i64.wrap (v2+1))
 else none
 else
 some (0,[])
theorem aOE (E:Env) (X:List PV→Option (Nat×List PV)) (v0:C) (v1:Int) (v2:Int):stepOf E aDR aDP aDQ X [.r [v0], .r [.int v1], .r [.int v2]]=nU E (fun (v0:C) (v1:Int) (v2:Int)=>X [.r [v0], .r [.int v1], .r [.int v2]]) v0 v1 v2:=by kernel_rfl
def aBx:aD:={ps:=[fG],rs:=[lI],res:=[(false,2,none)],body:=(.seq (.region [] [oq 1 (.vL fG 29 (.t 0)),
 oq 2 (.mov (.c lI [.int 0]))] false 0)
 (.seq (.seq (.region [] [oq 6 (.xA 0 1 29 3 (.t 1)),
 oq 7 (.ld lI 3 (.t 6))] false 0)
 (.block 0 (.seq (.region [] [oq 9 (.dA .eql (.t 7) (.c lI [.int 5])),
 oq 8 (.mov (.t 9))] false 0)
 (.cond (.t 8) (.seq (.region [] [oq 10 (.xA 8 4 29 25 (.t 1)),
 oq 11 (.xA 0 1 25 3 (.t 10)),
 oq 12 (.ld lI 3 (.t 11)),
 oq 13 (.dA .neq (.t 12) (.c lI [.int 0])),
 oq 14 (.mov (.t 13)),
 ⟨some 15, .xA 8 4 29 25 (.t 1),some (14,true),[]⟩,
 ⟨some 16, .xA 0 1 25 3 (.t 15),some (14,true),[]⟩,
 ⟨some 17, .ld lI 3 (.t 16),some (14,true),[]⟩,
 ⟨some 18, .call 72 [lI] [lB] [(.t 17)],some (14,true),[]⟩,
 ⟨some 19, .not (.t 18),some (14,true),[]⟩,
 oq 20 (.pick (.t 14) (.t 19) (.c lB [.bool false]))] false 0)
 (.cond (.t 20) (.seq (.region [] [oq 2 (.mov (.c lI [.int 8]))] false 0)
 .ret)
 .skip))
 (.seq (.region [] [oq 22 (.dA .eql (.t 7) (.c lI [.int 15])),
 oq 21 (.mov (.t 22))] false 0)
 (.cond (.t 21) (.seq (.region [] [oq 23 (.xA 8 4 29 25 (.t 1)),
 oq 24 (.xA 0 1 25 3 (.t 23)),
 oq 25 (.ld lI 3 (.t 24)),
 oq 26 (.call 72 [lI] [lB] [(.t 25)]),
 oq 27 (.not (.t 26))] false 0)
 (.cond (.t 27) (.seq (.region [] [oq 2 (.mov (.c lI [.int 8]))] false 0)
 .ret)
 .skip))
 (.seq (.region [] [oq 29 (.dA .eql (.t 7) (.c lI [.int 6])),
 oq 28 (.mov (.t 29))] false 0)
 (.cond (.t 28) (.seq (.region [] [oq 30 (.xA 3 1 29 22 (.t 1)),
 oq 31 (.ld (.one (.sl 9)) 22 (.t 30)),
 oq 32 (.call 73 [(.one (.sl 9))] [lI] [(.t 31)]),
 oq 2 (.mov (.t 32))] false 0)
 .ret)
 (.seq (.region [] [oq 34 (.dA .eql (.t 7) (.c lI [.int 14])),
 oq 33 (.mov (.t 34))] false 0)
 (.cond (.t 33) (.seq (.seq (.region [] [oq 35 (.xA 3 1 29 22 (.t 1)),
 oq 36 (.ld (.one (.sl 9)) 22 (.t 35)),
 oq 37 (.gE (.t 36)),
 oq 38 (.xA 13 1 29 27 (.t 1)),
 oq 39 (.ld (.one (.sl 29)) 27 (.t 38)),
 oq 40 (.gE (.t 39)),
 oq 41 (.dA .neq (.t 37) (.t 40))] false 0)
 (.cond (.t 41) (.seq (.region [] [oq 2 (.mov (.c lI [.int 3]))] false 0)
 .ret)
 .skip))
 (.seq (.region [] [oq 42 (.xA 3 1 29 22 (.t 1)),
 oq 43 (.ld (.one (.sl 9)) 22 (.t 42)),
 oq 44 (.call 73 [(.one (.sl 9))] [lI] [(.t 43)]),
 oq 2 (.mov (.t 44))] false 0)
 .ret))
 (.seq (.region [] [oq 46 (.dA .eql (.t 7) (.c lI [.int 9])),
 oq 45 (.mov (.t 46))] false 0)
 (.cond (.t 45) (.seq (.seq (.region [] [oq 47 (.xA 3 1 29 22 (.t 1)),
 oq 48 (.ld (.one (.sl 9)) 22 (.t 47)),
 oq 49 (.gE (.t 48)),
 oq 50 (.dA .neq (.t 49) (.c lI [.int 2]))] false 0)
 (.cond (.t 50) (.seq (.region [] [oq 2 (.mov (.c lI [.int 3]))] false 0)
 .ret)
 .skip))
 (.seq (.region [] [oq 51 (.xA 3 1 29 22 (.t 1)),
 oq 52 (.ld (.one (.sl 9)) 22 (.t 51)),
 oq 53 (.gE (.t 52)),
 oq 54 (.mov (.c lI [.int 0]))] false 0)
 (.block 1 (.loop aDP aDQ aDR))))
 (.seq (.region [] [oq 65 (.dA .eql (.t 7) (.c lI [.int 11])),
 oq 64 (.mov (.t 65))] false 0)
 (.cond (.t 64) (.seq (.region [] [oq 66 (.xA 12 1 29 26 (.t 1)),
 oq 67 (.ld (.one (.sl 68)) 26 (.t 66)),
 oq 68 (.call 74 [(.one (.sl 68))] [lI] [(.t 67)]),
 oq 2 (.mov (.t 68))] false 0)
 .ret)
 (.seq (.region [] [oq 70 (.dA .eql (.t 7) (.c lI [.int 12])),
 oq 69 (.mov (.t 70))] false 0)
 (.cond (.t 69) (.seq (.region [] [oq 71 (.xA 5 1 29 3 (.t 1)),
 oq 72 (.ld lI 3 (.t 71)),
 oq 73 (.dA .lss (.t 72) (.c lI [.int 0])),
 oq 74 (.mov (.t 73)),
 ⟨some 75, .xA 6 1 29 3 (.t 1),some (74,false),[]⟩,
 ⟨some 76, .ld lI 3 (.t 75),some (74,false),[]⟩,
 ⟨some 77, .xA 5 1 29 3 (.t 1),some (74,false),[]⟩,
 ⟨some 78, .ld lI 3 (.t 77),some (74,false),[]⟩,
 ⟨some 79, .dA .lss (.t 76) (.t 78),some (74,false),[]⟩,
 oq 80 (.pick (.t 74) (.c lB [.bool true]) (.t 79)),
 oq 81 (.mov (.t 80)),
 ⟨some 82, .xA 6 1 29 3 (.t 1),some (81,false),[]⟩,
 ⟨some 83, .ld lI 3 (.t 82),some (81,false),[]⟩,
 ⟨some 84, .dA .gtr (.t 83) (.c lI [.int 999999999]),some (81,false),[]⟩,
 oq 85 (.pick (.t 81) (.c lB [.bool true]) (.t 84))] false 0)
 (.cond (.t 85) (.seq (.region [] [oq 2 (.mov (.c lI [.int 11]))] false 0)
 .ret)
 .skip))
 .skip))))))))))))))))
 (.seq (.region [] [oq 2 (.mov (.c lI [.int 0]))] false 0)
 .ret)))}
noncomputable def aIn (E:Env) (p0:Row):Option (List Row):=
 if (((at_ p0 0).vA)==5)=true then
 let K1:Bool→Option (List Row):=fun q2=>
 if q2=true then
 some [[.int 8]]
 else
 some [[.int 0]]
 if (((at_ p0 8).vA) !=0)=true then
 (E.pc aBw [[.int ((at_ p0 8).vA)]]).bind fun y3=>
 K1 (!((at_ (aA y3 0) 0).lK))
 else
 K1 false
 else
 if (((at_ p0 0).vA)==15)=true then
 (E.pc aBw [[.int ((at_ p0 8).vA)]]).bind fun y4=>
 if (!((at_ (aA y4 0) 0).lK))=true then
 some [[.int 8]]
 else
 some [[.int 0]]
 else
 if (((at_ p0 0).vA)==6)=true then
 (E.pc aEt [[at_ p0 3]]).bind fun y5=>
 some [[.int ((at_ (aA y5 0) 0).vA)]]
 else
 if (((at_ p0 0).vA)==14)=true then
 if ((((at_ p0 3).rows).length:Int) !=(((at_ p0 13).rows).length:Int))=true then
 some [[.int 3]]
 else
 (E.pc aEt [[at_ p0 3]]).bind fun y6=>
 some [[.int ((at_ (aA y6 0) 0).vA)]]
 else
 if (((at_ p0 0).vA)==9)=true then
 if ((((at_ p0 3).rows).length:Int) !=2)=true then
 some [[.int 3]]
 else
 (z7 E (at_ p0 3) (((at_ p0 3).rows).length:Int) 0).bind fun x8=>
 match x8.1 with
 |0=>
 some [[.int 0]]
 |i9+1=>
 some [[.int (gI 0 x8.2)]]
 else
 if (((at_ p0 0).vA)==11)=true then
 (E.pc aIo [[at_ p0 12]]).bind fun y10=>
 some [[.int ((at_ (aA y10 0) 0).vA)]]
 else
 if (((at_ p0 0).vA)==12)=true then
 let K11:Bool→Option (List Row):=fun q12=>
 let K13:Bool→Option (List Row):=fun q14=>
 if q14=true then
 some [[.int 11]]
 else
 some [[.int 0]]
 if q12=true then
 K13 true
 else
 K13 (decide (((at_ p0 6).vA)>999999999))
 if (decide (((at_ p0 5).vA)<0))=true then
 K11 true
 else
 K11 (decide (((at_ p0 6).vA)<((at_ p0 5).vA)))
 else
 some [[.int 0]]
theorem aOF (E:Env) (p0:Row):xE E aBx [p0]=aIn E p0:=by kernel_rfl
def aFH:aD:={ps:=[fG],rs:=[lI],res:=[(false,2,none)],body:=(.seq (.region [] [oq 1 (.vL fG 29 (.t 0)),
 oq 2 (.mov (.c lI [.int 0]))] false 0)
 (.seq (.seq (.join [(.normal,{slots:=[(1, .d (.one (.ref 29))),(12, .d lB)],objs:=[]})] (.region [] [oq 5 (.xA 0 1 29 3 (.t 1)),
 oq 6 (.ld lI 3 (.t 5)),
 oq 7 (.dA .lss (.t 6) (.c lI [.int 0])),
 oq 8 (.mov (.t 7)),
 ⟨some 9, .xA 0 1 29 3 (.t 1),some (8,false),[]⟩,
 ⟨some 10, .ld lI 3 (.t 9),some (8,false),[]⟩,
 ⟨some 11, .dA .geq (.t 10) (.c lI [.int 19]),some (8,false),[]⟩,
 oq 12 (.pick (.t 8) (.c lB [.bool true]) (.t 11))] false 0))
 (.cond (.t 12) (.seq (.region [] [oq 2 (.mov (.c lI [.int 1]))] false 0)
 .ret)
 .skip))
 (.seq (.region [] [oq 13 (.xA 0 1 29 3 (.t 1)),
 oq 14 (.ld lI 3 (.t 13)),
 oq 15 (.call 19 [lI] [lA1] [(.t 14)]),
 oq 3 (.oB 0 lA1 [.bool false, .bool false, .bool false, .bool false, .bool false, .bool false, .bool false, .bool false, .int 0]),
 ⟨none, .st lA1 (.t 3) (.t 15),none,[]⟩] false 1)
 (.seq (.seq (.join [(.normal,{slots:=[(1, .d (.one (.ref 29))),(3, .ptr 0 0),(102, .d lB)],objs:=[.var lA1]})] (.region [] [oq 16 (.xA 1 1 29 9 (.t 1)),
 oq 17 (.ld lS 9 (.t 16)),
 oq 18 (.aEK .neq (.t 17) (.c lS [.str ([]:List UInt8)])),
 oq 19 (.mov (.t 18)),
 ⟨some 20, .xA 0 1 49 4 (.t 3),some (19,true),[]⟩,
 ⟨some 21, .ld lB 4 (.t 20),some (19,true),[]⟩,
 ⟨some 22, .not (.t 21),some (19,true),[]⟩,
 oq 23 (.pick (.t 19) (.t 22) (.c lB [.bool false])),
 oq 24 (.mov (.t 23)),
 ⟨some 25, .xA 2 1 29 9 (.t 1),some (24,false),[]⟩,
 ⟨some 26, .ld lS 9 (.t 25),some (24,false),[]⟩,
 ⟨some 27, .aEK .neq (.t 26) (.c lS [.str ([]:List UInt8)]),some (24,false),[]⟩,
 ⟨some 28, .mov (.t 27),some (24,false),[]⟩,
 ⟨some 29, .xA 1 1 49 4 (.t 3),some (28,true),[]⟩,
 ⟨some 30, .ld lB 4 (.t 29),some (28,true),[]⟩,
 ⟨some 31, .not (.t 30),some (28,true),[]⟩,
 ⟨some 32, .pick (.t 28) (.t 31) (.c lB [.bool false]),some (24,false),[]⟩,
 oq 33 (.pick (.t 24) (.c lB [.bool true]) (.t 32)),
 oq 34 (.mov (.t 33)),
 ⟨some 35, .xA 3 1 29 22 (.t 1),some (34,false),[]⟩,
 ⟨some 36, .ld (.one (.sl 9)) 22 (.t 35),some (34,false),[]⟩,
 ⟨some 37, .gE (.t 36),some (34,false),[]⟩,
 ⟨some 38, .dA .gtr (.t 37) (.c lI [.int 0]),some (34,false),[]⟩,
 ⟨some 39, .mov (.t 38),some (34,false),[]⟩,
 ⟨some 40, .xA 2 1 49 4 (.t 3),some (39,true),[]⟩,
 ⟨some 41, .ld lB 4 (.t 40),some (39,true),[]⟩,
 ⟨some 42, .not (.t 41),some (39,true),[]⟩,
 ⟨some 43, .pick (.t 39) (.t 42) (.c lB [.bool false]),some (34,false),[]⟩,
 oq 44 (.pick (.t 34) (.c lB [.bool true]) (.t 43)),
 oq 45 (.mov (.t 44)),
 ⟨some 46, .xA 4 1 29 3 (.t 1),some (45,false),[]⟩,
 ⟨some 47, .ld lI 3 (.t 46),some (45,false),[]⟩,
 ⟨some 48, .dA .neq (.t 47) (.c lI [.int 0]),some (45,false),[]⟩,
 ⟨some 49, .mov (.t 48),some (45,false),[]⟩,
 ⟨some 50, .xA 3 1 49 4 (.t 3),some (49,true),[]⟩,
 ⟨some 51, .ld lB 4 (.t 50),some (49,true),[]⟩,
 ⟨some 52, .not (.t 51),some (49,true),[]⟩,
 ⟨some 53, .pick (.t 49) (.t 52) (.c lB [.bool false]),some (45,false),[]⟩,
 oq 54 (.pick (.t 45) (.c lB [.bool true]) (.t 53)),
 oq 55 (.mov (.t 54)),
 ⟨some 56, .xA 5 1 29 3 (.t 1),some (55,false),[]⟩,
 ⟨some 57, .ld lI 3 (.t 56),some (55,false),[]⟩,
 ⟨some 58, .dA .neq (.t 57) (.c lI [.int 0]),some (55,false),[]⟩,
 ⟨some 59, .mov (.t 58),some (55,false),[]⟩,
 ⟨some 60, .xA 6 1 29 3 (.t 1),some (59,false),[]⟩,
 ⟨some 61, .ld lI 3 (.t 60),some (59,false),[]⟩,
 ⟨some 62, .dA .neq (.t 61) (.c lI [.int 0]),some (59,false),[]⟩,
 ⟨some 63, .pick (.t 59) (.c lB [.bool true]) (.t 62),some (55,false),[]⟩,
 ⟨some 64, .mov (.t 63),some (55,false),[]⟩,
 ⟨some 65, .xA 4 1 49 4 (.t 3),some (64,true),[]⟩,
 ⟨some 66, .ld lB 4 (.t 65),some (64,true),[]⟩,
 ⟨some 67, .not (.t 66),some (64,true),[]⟩,
 ⟨some 68, .pick (.t 64) (.t 67) (.c lB [.bool false]),some (55,false),[]⟩,
 oq 69 (.pick (.t 55) (.c lB [.bool true]) (.t 68)),
 oq 70 (.mov (.t 69)),
 ⟨some 71, .xA 7 1 29 5 (.t 1),some (70,false),[]⟩,
 ⟨some 72, .ld lU 5 (.t 71),some (70,false),[]⟩,
 ⟨some 73, .dA .neq (.t 72) (.c lU [.int 0]),some (70,false),[]⟩,
 ⟨some 74, .mov (.t 73),some (70,false),[]⟩,
 ⟨some 75, .xA 5 1 49 4 (.t 3),some (74,true),[]⟩,
 ⟨some 76, .ld lB 4 (.t 75),some (74,true),[]⟩,
 ⟨some 77, .not (.t 76),some (74,true),[]⟩,
 ⟨some 78, .pick (.t 74) (.t 77) (.c lB [.bool false]),some (70,false),[]⟩,
 oq 79 (.pick (.t 70) (.c lB [.bool true]) (.t 78)),
 oq 80 (.mov (.t 79)),
 ⟨some 81, .xA 12 1 29 26 (.t 1),some (80,false),[]⟩,
 ⟨some 82, .ld (.one (.sl 68)) 26 (.t 81),some (80,false),[]⟩,
 ⟨some 83, .gE (.t 82),some (80,false),[]⟩,
 ⟨some 84, .dA .gtr (.t 83) (.c lI [.int 0]),some (80,false),[]⟩,
 ⟨some 85, .mov (.t 84),some (80,false),[]⟩,
 ⟨some 86, .xA 7 1 49 4 (.t 3),some (85,true),[]⟩,
 ⟨some 87, .ld lB 4 (.t 86),some (85,true),[]⟩,
 ⟨some 88, .not (.t 87),some (85,true),[]⟩,
 ⟨some 89, .pick (.t 85) (.t 88) (.c lB [.bool false]),some (80,false),[]⟩,
 oq 90 (.pick (.t 80) (.c lB [.bool true]) (.t 89)),
 oq 91 (.mov (.t 90)),
 ⟨some 92, .xA 6 1 49 4 (.t 3),some (91,false),[]⟩,
 ⟨some 93, .ld lB 4 (.t 92),some (91,false),[]⟩,
 ⟨some 94, .not (.t 93),some (91,false),[]⟩,
 ⟨some 95, .mov (.t 94),some (91,false),[]⟩,
 ⟨some 96, .xA 8 4 29 25 (.t 1),some (95,true),[]⟩,
 ⟨some 97, .ld lH 25 (.t 96),some (95,true),[]⟩,
 ⟨some 98, .bld lH [.int 0, .int 0, .str [], .fA] [],some (95,true),[]⟩,
 ⟨some 99, .call 52 [lH,lH] [lB] [(.t 97),(.t 98)],some (95,true),[]⟩,
 ⟨some 100, .not (.t 99),some (95,true),[]⟩,
 ⟨some 101, .pick (.t 95) (.t 100) (.c lB [.bool false]),some (91,false),[]⟩,
 oq 102 (.pick (.t 91) (.c lB [.bool true]) (.t 101))] false 0))
 (.cond (.t 102) (.seq (.region [] [oq 2 (.mov (.c lI [.int 3]))] false 0)
 .ret)
 .skip))
 (.seq (.seq (.join [(.normal,{slots:=[(1, .d (.one (.ref 29))),(3, .ptr 0 0),(124, .d lB)],objs:=[.var lA1]})] (.region [] [oq 103 (.xA 8 1 49 3 (.t 3)),
 oq 104 (.ld lI 3 (.t 103)),
 oq 105 (.dA .geq (.t 104) (.c lI [.int 0])),
 oq 106 (.mov (.t 105)),
 ⟨some 107, .xA 13 1 29 27 (.t 1),some (106,true),[]⟩,
 ⟨some 108, .ld (.one (.sl 29)) 27 (.t 107),some (106,true),[]⟩,
 ⟨some 109, .gE (.t 108),some (106,true),[]⟩,
 ⟨some 110, .xA 8 1 49 3 (.t 3),some (106,true),[]⟩,
 ⟨some 111, .ld lI 3 (.t 110),some (106,true),[]⟩,
 ⟨some 112, .dA .neq (.t 109) (.t 111),some (106,true),[]⟩,
 oq 113 (.pick (.t 106) (.t 112) (.c lB [.bool false])),
 oq 114 (.mov (.t 113)),
 ⟨some 115, .xA 8 1 49 3 (.t 3),some (114,false),[]⟩,
 ⟨some 116, .ld lI 3 (.t 115),some (114,false),[]⟩,
 ⟨some 117, .dA .lss (.t 116) (.c lI [.int 0]),some (114,false),[]⟩,
 ⟨some 118, .mov (.t 117),some (114,false),[]⟩,
 ⟨some 119, .xA 13 1 29 27 (.t 1),some (118,true),[]⟩,
 ⟨some 120, .ld (.one (.sl 29)) 27 (.t 119),some (118,true),[]⟩,
 ⟨some 121, .gE (.t 120),some (118,true),[]⟩,
 ⟨some 122, .dA .eql (.t 121) (.c lI [.int 0]),some (118,true),[]⟩,
 ⟨some 123, .pick (.t 118) (.t 122) (.c lB [.bool false]),some (114,false),[]⟩,
 oq 124 (.pick (.t 114) (.c lB [.bool true]) (.t 123))] false 0))
 (.cond (.t 124) (.seq (.region [] [oq 2 (.mov (.c lI [.int 3]))] false 0)
 .ret)
 .skip))
 (.seq (.seq (.join [(.normal,{slots:=[(1, .d (.one (.ref 29))),(3, .ptr 0 0),(153, .d lB)],objs:=[.var lA1]})] (.region [] [oq 125 (.xA 0 1 49 4 (.t 3)),
 oq 126 (.ld lB 4 (.t 125)),
 oq 127 (.mov (.t 126)),
 ⟨some 128, .xA 1 1 29 9 (.t 1),some (127,true),[]⟩,
 ⟨some 129, .ld lS 9 (.t 128),some (127,true),[]⟩,
 ⟨some 130, .call 39 [lS] [lB] [(.t 129)],some (127,true),[]⟩,
 ⟨some 131, .not (.t 130),some (127,true),[]⟩,
 oq 132 (.pick (.t 127) (.t 131) (.c lB [.bool false])),
 oq 133 (.mov (.t 132)),
 ⟨some 134, .xA 0 1 29 3 (.t 1),some (133,true),[]⟩,
 ⟨some 135, .ld lI 3 (.t 134),some (133,true),[]⟩,
 ⟨some 136, .dA .eql (.t 135) (.c lI [.int 13]),some (133,true),[]⟩,
 ⟨some 137, .mov (.t 136),some (133,true),[]⟩,
 ⟨some 138, .xA 1 1 29 9 (.t 1),some (137,true),[]⟩,
 ⟨some 139, .ld lS 9 (.t 138),some (137,true),[]⟩,
 ⟨some 140, .aEK .eql (.t 139) (.c lS [.str ([]:List UInt8)]),some (137,true),[]⟩,
 ⟨some 141, .pick (.t 137) (.t 140) (.c lB [.bool false]),some (133,true),[]⟩,
 ⟨some 142, .not (.t 141),some (133,true),[]⟩,
 oq 143 (.pick (.t 133) (.t 142) (.c lB [.bool false])),
 oq 144 (.mov (.t 143)),
 ⟨some 145, .xA 1 1 49 4 (.t 3),some (144,false),[]⟩,
 ⟨some 146, .ld lB 4 (.t 145),some (144,false),[]⟩,
 ⟨some 147, .mov (.t 146),some (144,false),[]⟩,
 ⟨some 148, .xA 2 1 29 9 (.t 1),some (147,true),[]⟩,
 ⟨some 149, .ld lS 9 (.t 148),some (147,true),[]⟩,
 ⟨some 150, .call 39 [lS] [lB] [(.t 149)],some (147,true),[]⟩,
 ⟨some 151, .not (.t 150),some (147,true),[]⟩,
 ⟨some 152, .pick (.t 147) (.t 151) (.c lB [.bool false]),some (144,false),[]⟩,
 oq 153 (.pick (.t 144) (.c lB [.bool true]) (.t 152))] false 0))
 (.cond (.t 153) (.seq (.region [] [oq 2 (.mov (.c lI [.int 15]))] false 0)
 .ret)
 .skip))
 (.seq (.seq (.region [] [oq 154 (.xA 6 1 49 4 (.t 3)),
 oq 155 (.ld lB 4 (.t 154))] false 0)
 (.cond (.t 155) (.seq (.region [] [oq 156 (.xA 8 4 29 25 (.t 1)),
 oq 157 (.ld lH 25 (.t 156)),
 oq 158 (.call 40 [lH] [lI] [(.t 157)]),
 oq 4 (.mov (.t 158))] false 0)
 (.seq (.region [] [oq 159 (.mov (.t 4)),
 oq 160 (.dA .neq (.t 159) (.c lI [.int 0]))] false 0)
 (.cond (.t 160) (.seq (.region [] [oq 161 (.mov (.t 4)),
 oq 2 (.mov (.t 161))] false 0)
 .ret)
 .skip)))
 .skip))
 (.seq (.region [] [oq 162 (.ld fG 29 (.t 1)),
 oq 163 (.call 53 [fG] [lI] [(.t 162)]),
 oq 2 (.mov (.t 163))] false 0)
 .ret))))))))}
noncomputable def aG6 (E:Env) (p0:Row):Option (List Row):=
 (let K1:Bool→Option (Nat×List PV):=fun q2=>
 some (0,[.r [.dp p0], .r [.bool q2]])
 if (decide (((at_ p0 0).vA)<0))=true then
 K1 true
 else
 K1 (decide (((at_ p0 0).vA)≥19))).bind fun x3=>
 if (gB 1 x3.2)=true then
 some [[.int 1]]
 else
 if (gC 0 x3.2).jB=true then
 (E.pc aIp [[.int ((at_ ((gC 0 x3.2).cA) 0).vA)]]).bind fun y4=>
 (if (gC 0 x3.2).jB=true then
 let K5:Bool→Option (Nat×List PV):=fun q6=>
 let K7:Bool→Option (Nat×List PV):=fun q8=>
 let K9:Bool→Option (Nat×List PV):=fun q10=>
 let K11:Bool→Option (Nat×List PV):=fun q12=>
 let K13:Bool→Option (Nat×List PV):=fun q14=>
 let K15:Bool→Option (Nat×List PV):=fun q16=>
 let K17:Bool→Option (Nat×List PV):=fun q18=>
 let K19:Bool→Option (Nat×List PV):=fun q20=>
 some (0,[.r [gC 0 x3.2], .r [.bool q20], .r (aA y4 0)])
 if q18=true then
 K19 true
 else
 let K21:Bool→Option (Nat×List PV):=fun q22=>
 K19 q22
 if (!((at_ (aA y4 0) 6).lK))=true then
 if (gC 0 x3.2).jB=true then
 (E.pc aBv [[at_ ((gC 0 x3.2).cA) 8,at_ ((gC 0 x3.2).cA) 9,at_ ((gC 0 x3.2).cA) 10,at_ ((gC 0 x3.2).cA) 11],[.int 0, .int 0, .str [], .fA]]).bind fun y23=>
 K21 (!((at_ (aA y23 0) 0).lK))
 else none
 else
 K21 false
 if q16=true then
 K17 true
 else
 if (gC 0 x3.2).jB=true then
 let K24:Bool→Option (Nat×List PV):=fun q25=>
 K17 q25
 if (decide ((((at_ ((gC 0 x3.2).cA) 12).rows).length:Int)>0))=true then
 K24 (!((at_ (aA y4 0) 7).lK))
 else
 K24 false
 else none
 if q14=true then
 K15 true
 else
 if (gC 0 x3.2).jB=true then
 let K26:Bool→Option (Nat×List PV):=fun q27=>
 K15 q27
 if (((at_ ((gC 0 x3.2).cA) 7).vA) !=0)=true then
 K26 (!((at_ (aA y4 0) 5).lK))
 else
 K26 false
 else none
 if q12=true then
 K13 true
 else
 if (gC 0 x3.2).jB=true then
 let K28:Bool→Option (Nat×List PV):=fun q29=>
 let K30:Bool→Option (Nat×List PV):=fun q31=>
 K13 q31
 if q29=true then
 K30 (!((at_ (aA y4 0) 4).lK))
 else
 K30 false
 if (((at_ ((gC 0 x3.2).cA) 5).vA) !=0)=true then
 K28 true
 else
 if (gC 0 x3.2).jB=true then
 K28 (((at_ ((gC 0 x3.2).cA) 6).vA) !=0)
 else none
 else none
 if q10=true then
 K11 true
 else
 if (gC 0 x3.2).jB=true then
 let K32:Bool→Option (Nat×List PV):=fun q33=>
 K11 q33
 if (((at_ ((gC 0 x3.2).cA) 4).vA) !=0)=true then
 K32 (!((at_ (aA y4 0) 3).lK))
 else
 K32 false
 else none
 if q8=true then
 K9 true
 else
 if (gC 0 x3.2).jB=true then
 let K34:Bool→Option (Nat×List PV):=fun q35=>
 K9 q35
 if (decide ((((at_ ((gC 0 x3.2).cA) 3).rows).length:Int)>0))=true then
 K34 (!((at_ (aA y4 0) 2).lK))
 else
 K34 false
 else none
 if q6=true then
 K7 true
 else
 if (gC 0 x3.2).jB=true then
 let K36:Bool→Option (Nat×List PV):=fun q37=>
 K7 q37
 if (!(((at_ ((gC 0 x3.2).cA) 2).mD)==([]:List UInt8)))=true then
 K36 (!((at_ (aA y4 0) 1).lK))
 else
 K36 false
 else none
 if (!(((at_ ((gC 0 x3.2).cA) 1).mD)==([]:List UInt8)))=true then
 K5 (!((at_ (aA y4 0) 0).lK))
 else
 K5 false
 else none).bind fun x38=>
 if (gB 1 x38.2)=true then
 some [[.int 3]]
 else
 (let K39:Bool→Option (Nat×List PV):=fun q40=>
 let K41:Bool→Option (Nat×List PV):=fun q42=>
 some (0,[.r [gC 0 x38.2], .r [.bool q42], .r (gR 2 x38.2)])
 if q40=true then
 K41 true
 else
 let K43:Bool→Option (Nat×List PV):=fun q44=>
 K41 q44
 if (decide (((at_ (gR 2 x38.2) 8).vA)<0))=true then
 if (gC 0 x38.2).jB=true then
 K43 ((((at_ ((gC 0 x38.2).cA) 13).rows).length:Int)==0)
 else none
 else
 K43 false
 if (decide (((at_ (gR 2 x38.2) 8).vA)≥0))=true then
 if (gC 0 x38.2).jB=true then
 K39 ((((at_ ((gC 0 x38.2).cA) 13).rows).length:Int) !=((at_ (gR 2 x38.2) 8).vA))
 else none
 else
 K39 false).bind fun x45=>
 if (gB 1 x45.2)=true then
 some [[.int 3]]
 else
 (let K46:Bool→Option (Nat×List PV):=fun q47=>
 let K48:Bool→Option (Nat×List PV):=fun q49=>
 let K50:Bool→Option (Nat×List PV):=fun q51=>
 some (0,[.r [gC 0 x45.2], .r [.bool q51], .r (gR 2 x45.2)])
 if q49=true then
 K50 true
 else
 let K52:Bool→Option (Nat×List PV):=fun q53=>
 K50 q53
 if ((at_ (gR 2 x45.2) 1).lK)=true then
 if (gC 0 x45.2).jB=true then
 (E.pc rH [[.str ((at_ ((gC 0 x45.2).cA) 2).mD)]]).bind fun y54=>
 K52 (!((at_ (aA y54 0) 0).lK))
 else none
 else
 K52 false
 if q47=true then
 if (gC 0 x45.2).jB=true then
 let K55:Bool→Option (Nat×List PV):=fun q56=>
 K48 (!q56)
 if (((at_ ((gC 0 x45.2).cA) 0).vA)==13)=true then
 if (gC 0 x45.2).jB=true then
 K55 (((at_ ((gC 0 x45.2).cA) 1).mD)==([]:List UInt8))
 else none
 else
 K55 false
 else none
 else
 K48 false
 if (gB 2 x45.2)=true then
 if (gC 0 x45.2).jB=true then
 (E.pc rH [[.str ((at_ ((gC 0 x45.2).cA) 1).mD)]]).bind fun y57=>
 K46 (!((at_ (aA y57 0) 0).lK))
 else none
 else
 K46 false).bind fun x58=>
 if (gB 1 x58.2)=true then
 some [[.int 15]]
 else
 if ((at_ (gR 2 x58.2) 6).lK)=true then
 if (gC 0 x58.2).jB=true then
 (E.pc mH [[at_ ((gC 0 x58.2).cA) 8,at_ ((gC 0 x58.2).cA) 9,at_ ((gC 0 x58.2).cA) 10,at_ ((gC 0 x58.2).cA) 11]]).bind fun y59=>
 if (((at_ (aA y59 0) 0).vA) !=0)=true then
 some [[.int ((at_ (aA y59 0) 0).vA)]]
 else
 if (gC 0 x58.2).jB=true then
 (E.pc aBy [(gC 0 x58.2).cA]).bind fun y60=>
 some [[.int ((at_ (aA y60 0) 0).vA)]]
 else none
 else none
 else
 if (gC 0 x58.2).jB=true then
 (E.pc aBy [(gC 0 x58.2).cA]).bind fun y61=>
 some [[.int ((at_ (aA y61 0) 0).vA)]]
 else none
 else none
theorem aS4 (E:Env) (p0:Row):xE E aFH [p0]=aG6 E p0:=by kernel_rfl
def aIq:Shape:={slots:=[(13, .d (.one (.sl 29))),(14, .d lI),(15, .d lI)],objs:=[]}
def aIr:List (mB×Shape):=[(.exit 0,{slots:=[],objs:=[]}),(.ret,{slots:=[(2, .d lI)],objs:=[]})]
def aIs:zB:=(.seq (.region [] [oq 16 (.dA .lss (.t 15) (.t 14))] false 0)
 (.seq (.cond (.t 16) .skip
 (.exit 0))
 (.seq (.block 1 (.seq (.region [] [oq 17 (.iad 29 fG (.t 13) (.t 15)),
 oq 18 (.ld fG 29 (.t 17)),
 oq 5 (.oB 0 fG [.int 0, .str [], .str [], .fA, .int 0, .int 0, .int 0, .int 0, .int 0, .int 0, .str [], .fA, .fA, .fA]),
 ⟨none, .st fG (.t 5) (.t 18),none,[]⟩] false 1)
 (.seq (.region [] [oq 19 (.ld fG 29 (.t 5)),
 oq 20 (.call 16 [fG] [lI] [(.t 19)]),
 oq 6 (.mov (.t 20))] false 0)
 (.seq (.region [] [oq 21 (.mov (.t 6)),
 oq 22 (.dA .neq (.t 21) (.c lI [.int 0]))] false 0)
 (.cond (.t 22) (.seq (.region [] [oq 23 (.mov (.t 6)),
 oq 2 (.mov (.t 23))] false 0)
 .ret)
 .skip)))))
 (.region [] [oq 24 (.tB .add (.t 15) (.c lI [.int 1])),
 oq 15 (.mov (.t 24))] false 0))))
noncomputable def aEu (E:Env) (v0:C) (v1:Int) (v2:Int):Option (Nat×List PV):=E.fix (stepOf E aIs aIq aIr) [.r [v0], .r [.int v1], .r [.int v2]]
noncomputable def aEv (E:Env) (X:C→Int→Int→Option (Nat×List PV)) (v0:C) (v1:Int) (v2:Int):Option (Nat×List PV):=
 if (decide (v2<v1))=true then
 if (0:Int)≤v2∧v2<(v0.rows.length:Int)then
 (E.pc aAH [aA v0.rows v2.toNat]).bind fun y2=>
 if (((at_ (aA y2 0) 0).vA) !=0)=true then
 some (1,[.r [.int ((at_ (aA y2 0) 0).vA)]])
 else
 X v0 v1 (Go.IntKind.i64.wrap (v2+1))
 else none
 else
 some (0,[])
theorem aS5 (E:Env) (X:List PV→Option (Nat×List PV)) (v0:C) (v1:Int) (v2:Int):stepOf E aIs aIq aIr X [.r [v0], .r [.int v1], .r [.int v2]]=aEv E (fun (v0:C) (v1:Int) (v2:Int)=>X [.r [v0], .r [.int v1], .r [.int v2]]) v0 v1 v2:=by kernel_rfl
def aFI:aD:={ps:=[fG],rs:=[lI],res:=[(false,2,none)],body:=(.seq (.region [] [oq 1 (.vL fG 29 (.t 0)),
 oq 2 (.mov (.c lI [.int 0]))] false 0)
 (.seq (.seq (.region [] [oq 7 (.ld fG 29 (.t 1)),
 oq 8 (.call 33 [fG] [lI] [(.t 7)]),
 oq 3 (.mov (.t 8))] false 0)
 (.seq (.region [] [oq 9 (.mov (.t 3)),
 oq 10 (.dA .neq (.t 9) (.c lI [.int 0]))] false 0)
 (.cond (.t 10) (.seq (.region [] [oq 11 (.mov (.t 3)),
 oq 2 (.mov (.t 11))] false 0)
 .ret)
 .skip)))
 (.seq (.seq (.region [] [oq 12 (.xA 13 1 29 27 (.t 1)),
 oq 13 (.ld (.one (.sl 29)) 27 (.t 12)),
 oq 14 (.gE (.t 13)),
 oq 15 (.mov (.c lI [.int 0]))] false 0)
 (.block 0 (.loop aIq aIr aIs)))
 (.seq (.region [] [oq 2 (.mov (.c lI [.int 0]))] false 0)
 .ret))))}
noncomputable def aNu (E:Env) (p0:Row):Option (List Row):=
 (E.pc dX [p0]).bind fun y1=>
 if (((at_ (aA y1 0) 0).vA) !=0)=true then
 some [[.int ((at_ (aA y1 0) 0).vA)]]
 else
 (aEu E (at_ p0 13) (((at_ p0 13).rows).length:Int) 0).bind fun x3=>
 match x3.1 with
 |0=>
 some [[.int 0]]
 |i4+1=>
 some [[.int (gI 0 x3.2)]]
theorem aS6 (E:Env) (p0:Row):xE E aFI [p0]=aNu E p0:=by kernel_rfl
def aEw:aD:={ps:=[fG],rs:=[lI],res:=[(false,2,none)],body:=(.seq (.region [] [oq 1 (.vL fG 29 (.t 0)),
 oq 2 (.mov (.c lI [.int 0]))] false 0)
 (.seq (.seq (.region [] [oq 3 (.ld fG 29 (.t 1)),
 oq 4 (.call 8 [fG] [lI] [(.t 3)]),
 oq 5 (.dA .gtr (.t 4) (.c lI [.int 120])),
 oq 6 (.mov (.t 5)),
 ⟨some 7, .ld fG 29 (.t 1),some (6,false),[]⟩,
 ⟨some 8, .call 15 [fG] [lI] [(.t 7)],some (6,false),[]⟩,
 ⟨some 9, .dA .gtr (.t 8) (.c lI [.int 40]),some (6,false),[]⟩,
 oq 10 (.pick (.t 6) (.c lB [.bool true]) (.t 9))] false 0)
 (.cond (.t 10) (.seq (.region [] [oq 2 (.mov (.c lI [.int 2]))] false 0)
 .ret)
 .skip))
 (.seq (.region [] [oq 11 (.ld fG 29 (.t 1)),
 oq 12 (.call 16 [fG] [lI] [(.t 11)]),
 oq 2 (.mov (.t 12))] false 0)
 .ret)))}
noncomputable def aLf (E:Env) (p0:Row):Option (List Row):=
 (E.pc aAA [p0]).bind fun y1=>
 let K2:Bool→Option (List Row):=fun q3=>
 if q3=true then
 some [[.int 2]]
 else
 (E.pc aAH [p0]).bind fun y4=>
 some [[.int ((at_ (aA y4 0) 0).vA)]]
 if (decide (((at_ (aA y1 0) 0).vA)>120))=true then
 K2 true
 else
 (E.pc aAB [p0]).bind fun y5=>
 K2 (decide (((at_ (aA y5 0) 0).vA)>40))
theorem aRa (E:Env) (p0:Row):xE E aEw [p0]=aLf E p0:=by kernel_rfl
def aFJ:aD:={ps:=[lI],rs:=[lS],res:=[(false,2,none)],body:=(.seq (.region [] [oq 2 (.mov (.c lS [.str ([]:List UInt8)]))] false 0)
 (.seq (.region [] [oq 3 (.bld (.agg [.str, .str, .str, .str, .str, .str, .str, .str, .str, .str, .str, .str, .str, .str, .str, .str, .str, .str, .str]) [.str [], .str [], .str [], .str [], .str [], .str [], .str [], .str [], .str [], .str [], .str [], .str [], .str [], .str [], .str [], .str [], .str [], .str [], .str []] [(0,1,(.c lS [.str ([115,97,109,101]:List UInt8)])),(1,1,(.c lS [.str ([116,104,101,110]:List UInt8)])),(2,1,(.c lS [.str ([97,116]:List UInt8)])),(3,1,(.c lS [.str ([114,101,110,97,109,101]:List UInt8)])),(4,1,(.c lS [.str ([100,114,111,112]:List UInt8)])),(5,1,(.c lS [.str ([97,100,100]:List UInt8)])),(6,1,(.c lS [.str ([110,101,115,116]:List UInt8)])),(7,1,(.c lS [.str ([102,108,97,116]:List UInt8)])),(8,1,(.c lS [.str ([109,111,118,101]:List UInt8)])),(9,1,(.c lS [.str ([115,112,108,105,116]:List UInt8)])),(10,1,(.c lS [.str ([103,108,117,101]:List UInt8)])),(11,1,(.c lS [.str ([108,111,111,107]:List UInt8)])),(12,1,(.c lS [.str ([110,117,109,98,101,114]:List UInt8)])),(13,1,(.c lS [.str ([101,97,99,104]:List UInt8)])),(14,1,(.c lS [.str ([99,97,115,101]:List UInt8)])),(15,1,(.c lS [.str ([115,101,108,101,99,116]:List UInt8)])),(16,1,(.c lS [.str ([116,97,103]:List UInt8)])),(17,1,(.c lS [.str ([117,110,116,97,103]:List UInt8)])),(18,1,(.c lS [.str ([102,105,108,108]:List UInt8)]))]),
 oq 4 (.mov (.t 0)),
 oq 5 (.aSq 19 lS (.t 3) (.t 4)),
 oq 2 (.mov (.t 5))] false 0)
 .ret))}
noncomputable def aNv (E:Env) (p0:Int):Option (List Row):=
 if (0:Int)≤p0∧p0<(19:Int)then
 some [[.str ((at_ [.str ([115,97,109,101]:List UInt8), .str ([116,104,101,110]:List UInt8), .str ([97,116]:List UInt8), .str ([114,101,110,97,109,101]:List UInt8), .str ([100,114,111,112]:List UInt8), .str ([97,100,100]:List UInt8), .str ([110,101,115,116]:List UInt8), .str ([102,108,97,116]:List UInt8), .str ([109,111,118,101]:List UInt8), .str ([115,112,108,105,116]:List UInt8), .str ([103,108,117,101]:List UInt8), .str ([108,111,111,107]:List UInt8), .str ([110,117,109,98,101,114]:List UInt8), .str ([101,97,99,104]:List UInt8), .str ([99,97,115,101]:List UInt8), .str ([115,101,108,101,99,116]:List UInt8), .str ([116,97,103]:List UInt8), .str ([117,110,116,97,103]:List UInt8), .str ([102,105,108,108]:List UInt8)] (p0.toNat*1)).mD)]]
 else none
theorem aS7 (E:Env) (p0:Int):xE E aFJ [[.int p0]]=aNv E p0:=by kernel_rfl
def vT:Shape:={slots:=[(0, .ptr 0 0),(6, .d (.one (.sl 9))),(7, .d lI),(8, .d lI)],objs:=[.cells false [.sw 1], .uA 5 lU],m:=2}
def wT:List (mB×Shape):=[(.exit 0,{slots:=[],objs:=[.cells false [.sw 1], .uA 5 lU],m:=2})]
def xT:zB:=(.seq (.region [] [oq 9 (.dA .lss (.t 8) (.t 7))] false 0)
 (.seq (.cond (.t 9) .skip
 (.exit 0))
 (.seq (.block 1 (.seq (.region [] [oq 10 (.iad 9 lS (.t 6) (.t 8)),
 oq 11 (.ld lS 9 (.t 10)),
 oq 5 (.mov (.t 11))] false 0)
 (.seq (.seq (.region [] [oq 12 (.mov (.t 0)),
 oq 13 (.eC (.t 12)),
 oq 14 (.xA 0 1 40 38 (.t 13)),
 oq 15 (.n3 (.t 14)),
 oq 16 (.gE (.t 15)),
 oq 17 (.dA .gtr (.t 16) (.c lI [.int 0]))] false 0)
 (.join [(.normal,{slots:=[(0, .ptr 0 0),(5, .d lS),(6, .d (.one (.sl 9))),(7, .d lI),(8, .d lI)],objs:=[.cells false [.sw 1], .uA 5 lU],m:=2})] (.cond (.t 17) (.region [] [oq 18 (.mov (.t 0)),
 oq 19 (.mov (.t 0)),
 oq 20 (.eC (.t 19)),
 oq 21 (.xA 0 1 40 38 (.t 20)),
 oq 22 (.n3 (.t 21)),
 oq 23 (.bsl 5 lU 1 [.int 0] [(0,(.c lU [.int 32]))]),
 oq 24 (.eU 0 5 lU 1 (.t 22) (.t 23)),
 oq 25 (.eC (.t 18)),
 oq 26 (.xA 0 1 40 38 (.t 25)),
 ⟨none, .stC (.t 26) (.t 24),none,[]⟩] false 1)
 .skip)))
 (.region [] [oq 27 (.mov (.t 0)),
 oq 28 (.mov (.t 0)),
 oq 29 (.eC (.t 28)),
 oq 30 (.xA 0 1 40 38 (.t 29)),
 oq 31 (.n3 (.t 30)),
 oq 32 (.mov (.t 5)),
 oq 33 (.aPj 0 5 (.t 31) (.t 32)),
 oq 34 (.eC (.t 27)),
 oq 35 (.xA 0 1 40 38 (.t 34)),
 ⟨none, .stC (.t 35) (.t 33),none,[]⟩] false 1))))
 (.region [] [oq 36 (.tB .add (.t 8) (.c lI [.int 1])),
 oq 8 (.mov (.t 36))] false 0))))
noncomputable def cE (E:Env) (v0:C) (v1:Int) (v2:Int) (v3:C):Option (Nat×List PV):=E.fix (stepOf E xT vT wT) [.r [v0], .r [.int v1], .r [.int v2], .r [v3]]
noncomputable def uM (E:Env) (X:C→Int→Int→C→Option (Nat×List PV)) (v0:C) (v1:Int) (v2:Int) (v3:C):Option (Nat×List PV):=
 if (decide (v2<v1))=true then
 if (0:Int)≤v2∧v2<(v0.rows.length:Int)then
 (if (decide ((v3.rows.length:Int)>0))=true then
 if (v3.rows.length+([[.int 32]]:List Row).length)*1≤140737488355328 then
 some (0,[.r [.str ((at_ (aA v0.rows v2.toNat) 0).mD)], .r [v0], .r [.int v1], .r [.int v2], .r [pE v3 ([[.int 32]]:List Row)]])
 else none
 else
 some (0,[.r [.str ((at_ (aA v0.rows v2.toNat) 0).mD)], .r [v0], .r [.int v1], .r [.int v2], .r [v3]])).bind fun x1=>
 if ((gC 4 x1.2).rows).length+(gS 0 x1.2).length≤1099511627776 then
 X (gC 1 x1.2) (gI 2 x1.2) (Go.IntKind.i64.wrap ((gI 3 x1.2)+1)) (pE (gC 4 x1.2) ((gS 0 x1.2).map yD))
 else none
 else none
 else
 some (0,[.r [v3]])
theorem aIt (E:Env) (X:List PV→Option (Nat×List PV)) (v0:C) (v1:Int) (v2:Int) (v3:C):stepOf E xT vT wT X [.r [v0], .r [.int v1], .r [.int v2], .r [v3]]=uM E (fun (v0:C) (v1:Int) (v2:Int) (v3:C)=>X [.r [v0], .r [.int v1], .r [.int v2], .r [v3]]) v0 v1 v2 v3:=by kernel_rfl
def lO:rZ:={fn:=17,entry:=jA,res:=[],exit:=kA,body:=(.seq (.region [] [oq 6 (.mov (.t 1)),
 oq 7 (.gE (.t 6)),
 oq 8 (.mov (.c lI [.int 0]))] false 0)
 (.block 0 (.loop vT wT xT)))}
noncomputable def oZ (E:Env) (p0:C) (p1:C):Option (List PV):=
 (cE E p0 (p0.rows.length:Int) 0 p1).bind fun x2=>
 some [.r [gC 0 x2.2]]
theorem aIu (E:Env) (p0:C) (p1:C):j9 E lO [.r [p0], .r [p1]]=oZ E p0 p1:=by kernel_rfl
def aGy:Shape:={slots:=[(0, .d lS),(3, .sw 0),(8, .d lI),(9, .d lI)],objs:=[.uA 5 lU]}
def aGz:List (mB×Shape):=[(.exit 0,{slots:=[(3, .sw 0)],objs:=[.uA 5 lU]})]
def aGA:zB:=(.seq (.region [] [oq 10 (.dA .lss (.t 9) (.t 8))] false 0)
 (.seq (.cond (.t 10) .skip
 (.exit 0))
 (.seq (.join [(.normal,{slots:=[(0, .d lS),(3, .sw 0),(8, .d lI),(9, .d lI)],objs:=[.uA 5 lU]})] (.block 1 (.seq (.region [] [oq 11 (.mov (.t 9)),
 oq 4 (.mov (.t 11))] false 0)
 (.seq (.region [] [oq 12 (.mov (.t 0)),
 oq 13 (.mov (.t 4)),
 oq 14 (.aB2 (.t 12) (.t 13)),
 oq 5 (.mov (.t 14))] false 0)
 (.seq (.join [(.normal,{slots:=[(0, .d lS),(3, .sw 0),(5, .d lU),(8, .d lI),(9, .d lI),(28, .d lB)],objs:=[.uA 5 lU]})] (.region [] [oq 15 (.mov (.t 5)),
 oq 16 (.dA .lss (.t 15) (.c lU [.int 33])),
 oq 17 (.mov (.t 16)),
 ⟨some 18, .mov (.t 5),some (17,false),[]⟩,
 ⟨some 19, .dA .gtr (.t 18) (.c lU [.int 126]),some (17,false),[]⟩,
 oq 20 (.pick (.t 17) (.c lB [.bool true]) (.t 19)),
 oq 21 (.mov (.t 20)),
 ⟨some 22, .mov (.t 5),some (21,false),[]⟩,
 ⟨some 23, .dA .eql (.t 22) (.c lU [.int 34]),some (21,false),[]⟩,
 oq 24 (.pick (.t 21) (.c lB [.bool true]) (.t 23)),
 oq 25 (.mov (.t 24)),
 ⟨some 26, .mov (.t 5),some (25,false),[]⟩,
 ⟨some 27, .dA .eql (.t 26) (.c lU [.int 92]),some (25,false),[]⟩,
 oq 28 (.pick (.t 25) (.c lB [.bool true]) (.t 27))] false 0))
 (.cond (.t 28) (.region [] [oq 29 (.mov (.t 3)),
 oq 30 (.mov (.t 5)),
 ⟨some 31, .shf .shr (.t 30) (.c lW [.int 4]),none,[1]⟩,
 ⟨some 32, .aB2 (.c lS [.str ([48,49,50,51,52,53,54,55,56,57,97,98,99,100,101,102]:List UInt8)]) (.t 31),none,[1,2]⟩,
 oq 33 (.mov (.t 5)),
 ⟨some 34, .tB .and (.t 33) (.c lU [.int 15]),none,[4]⟩,
 ⟨some 35, .aB2 (.c lS [.str ([48,49,50,51,52,53,54,55,56,57,97,98,99,100,101,102]:List UInt8)]) (.t 34),none,[4,5]⟩,
 ⟨some 36, .bsl 5 lU 3 [.int 0] [(0,(.c lU [.int 92])),(1,(.t 32)),(2,(.t 35))],none,[1,2,3,4,5,6]⟩,
 ⟨some 37, .eU 0 5 lU 1 (.t 29) (.t 36),none,[0,1,2,3,4,5,6,7]⟩,
 ⟨some 3, .mov (.t 37),none,[0,1,2,3,4,5,6,7,8]⟩] true 1)
 (.region [] [oq 38 (.mov (.t 3)),
 oq 39 (.mov (.t 5)),
 oq 40 (.bsl 5 lU 1 [.int 0] [(0,(.t 39))]),
 oq 41 (.eU 0 5 lU 1 (.t 38) (.t 40)),
 oq 3 (.mov (.t 41))] false 1)))))))
 (.region [] [oq 42 (.tB .add (.t 9) (.c lI [.int 1])),
 oq 9 (.mov (.t 42))] false 0))))
noncomputable def kQ (E:Env) (v0:List UInt8) (v1:Int) (v2:Int) (v3:C):Option (Nat×List PV):=E.fix (stepOf E aGA aGy aGz) [.r [.str v0], .r [.int v1], .r [.int v2], .r [v3]]
noncomputable def aDi (E:Env) (X:List UInt8→Int→Int→C→Option (Nat×List PV)) (v0:List UInt8) (v1:Int) (v2:Int) (v3:C):Option (Nat×List PV):=
 if (decide (v2<v1))=true then
 (if (0:Int)≤v2∧v2<(v0.length:Int)then
 (let K1:Bool→Option (Nat×List PV):=fun q2=>
 let K3:Bool→Option (Nat×List PV):=fun q4=>
 let K5:Bool→Option (Nat×List PV):=fun q6=>
 some (0,[.r [.str v0], .r [.int ((v0.getD v2.toNat 0).toNat:Int)], .r [.int v1], .r [.int v2], .r [.bool q6], .r [v3]])
 if q4=true then
 K5 true
 else
 K5 (((v0.getD v2.toNat 0).toNat:Int)==92)
 if q2=true then
 K3 true
 else
 K3 (((v0.getD v2.toNat 0).toNat:Int)==34)
 if (decide (((v0.getD v2.toNat 0).toNat:Int)<33))=true then
 K1 true
 else
 K1 (decide (((v0.getD v2.toNat 0).toNat:Int)>126))).bind fun x7=>
 if (gB 4 x7.2)=true then
 if (0:Int)≤((gI 1 x7.2).fdiv (2^(min 4 (Go.IntKind.bits .u8))))∧((gI 1 x7.2).fdiv (2^(min 4 (Go.IntKind.bits .u8))))<(([48,49,50,51,52,53,54,55,56,57,97,98,99,100,101,102]:List UInt8).length:Int)then
 if (0:Int)≤(bitsOf .and .u8 (gI 1 x7.2) 15)∧(bitsOf .and .u8 (gI 1 x7.2) 15)<(([48,49,50,51,52,53,54,55,56,57,97,98,99,100,101,102]:List UInt8).length:Int)then
 if (((gC 5 x7.2).rows).length+([[.int 92],[.int ((([48,49,50,51,52,53,54,55,56,57,97,98,99,100,101,102]:List UInt8).getD (((gI 1 x7.2).fdiv (2^(min 4 (Go.IntKind.bits .u8)))).toNat) 0).toNat:Int)],[.int ((([48,49,50,51,52,53,54,55,56,57,97,98,99,100,101,102]:List UInt8).getD ((bitsOf .and .u8 (gI 1 x7.2) 15).toNat) 0).toNat:Int)]]:List Row).length)*1≤140737488355328 then
 some (0,[.r [.str (gS 0 x7.2)], .r [.int (gI 2 x7.2)], .r [.int (gI 3 x7.2)], .r [pE (gC 5 x7.2) ([[.int 92],[.int ((([48,49,50,51,52,53,54,55,56,57,97,98,99,100,101,102]:List UInt8).getD (((gI 1 x7.2).fdiv (2^(min 4 (Go.IntKind.bits .u8)))).toNat) 0).toNat:Int)],[.int ((([48,49,50,51,52,53,54,55,56,57,97,98,99,100,101,102]:List UInt8).getD ((bitsOf .and .u8 (gI 1 x7.2) 15).toNat) 0).toNat:Int)]]:List Row)]])
 else none
 else none
 else none
 else
 if (((gC 5 x7.2).rows).length+([[.int (gI 1 x7.2)]]:List Row).length)*1≤140737488355328 then
 some (0,[.r [.str (gS 0 x7.2)], .r [.int (gI 2 x7.2)], .r [.int (gI 3 x7.2)], .r [pE (gC 5 x7.2) ([[.int (gI 1 x7.2)]]:List Row)]])
 else none
 else none).bind fun x8=>
 X (gS 0 x8.2) (gI 1 x8.2) (Go.IntKind.i64.wrap ((gI 2 x8.2)+1)) (gC 3 x8.2)
 else
 some (0,[.r [v3]])
theorem aRb (E:Env) (X:List PV→Option (Nat×List PV)) (v0:List UInt8) (v1:Int) (v2:Int) (v3:C):stepOf E aGA aGy aGz X [.r [.str v0], .r [.int v1], .r [.int v2], .r [v3]]=aDi E (fun (v0:List UInt8) (v1:Int) (v2:Int) (v3:C)=>X [.r [.str v0], .r [.int v1], .r [.int v2], .r [v3]]) v0 v1 v2 v3:=by kernel_rfl
def aEx:aD:={ps:=[lS],rs:=[lS],res:=[(false,2,none)],body:=(.seq (.region [] [oq 2 (.mov (.c lS [.str ([]:List UInt8)]))] false 0)
 (.seq (.region [] [oq 6 (.bslS 0 5 lU 1 [.int 0] [(0,(.c lU [.int 34]))]),
 oq 3 (.mov (.t 6))] false 1)
 (.seq (.seq (.region [] [oq 7 (.mov (.t 0)),
 oq 8 (.aB3 (.t 7)),
 oq 9 (.mov (.c lI [.int 0]))] false 0)
 (.block 0 (.loop aGy aGz aGA)))
 (.seq (.region [] [oq 43 (.mov (.t 3)),
 oq 44 (.bsl 5 lU 1 [.int 0] [(0,(.c lU [.int 34]))]),
 oq 45 (.eU 0 5 lU 1 (.t 43) (.t 44)),
 oq 46 (.b2s 5 (.t 45)),
 oq 2 (.mov (.t 46))] false 1)
 .ret))))}
noncomputable def aLg (E:Env) (p0:List UInt8):Option (List Row):=
 (kQ E p0 (p0.length:Int) 0 (.sl ([[.int 34]]:List Row))).bind fun x9=>
 if (((gC 0 x9.2).rows).length+([[.int 34]]:List Row).length)*1≤140737488355328 then
 some [[.str (bytesOf ((pE (gC 0 x9.2) ([[.int 34]]:List Row)).rows))]]
 else none
theorem aRc (E:Env) (p0:List UInt8):xE E aEx [[.str p0]]=aLg E p0:=by kernel_rfl
end Go.Ev
