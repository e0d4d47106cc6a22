/-
  A part of the proof: what the functions of the program compute.
-/
import Derived.Test.YtfonaepdedbhhaaGreatDoorZNum
set_option linter.all false
set_option maxRecDepth 100000
namespace Go.Ev
def aH6:Shape:={slots:=[(3, .d lI),(7, .d (.one (.sl 29))),(8, .d lI),(9, .d lI)],objs:=[]}
def aH7:List (mB×Shape):=[(.exit 0,{slots:=[(3, .d lI)],objs:=[]})]
def aH8:zB:=(.seq (.region [] [oq 10 (.dA .lss (.t 9) (.t 8))] false 0)
 (.seq (.cond (.t 10) .skip
 (.exit 0))
 (.seq (.block 1 (.seq (.region [] [oq 11 (.iad 29 fG (.t 7) (.t 9)),
 oq 12 (.ld fG 29 (.t 11)),
 oq 5 (.oB 0 fG [.int 0, .str [], .str [], .fA, .int 0, .int 0, .int 0, .int 0, .int 0, .int 0, .str [], .fA, .fA, .fA]),
 ⟨none, .st fG (.t 5) (.t 12),none,[]⟩] false 1)
 (.region [] [oq 13 (.mov (.t 3)),
 oq 14 (.ld fG 29 (.t 5)),
 oq 15 (.call 8 [fG] [lI] [(.t 14)]),
 oq 16 (.tB .add (.t 13) (.t 15)),
 oq 3 (.mov (.t 16))] false 0)))
 (.region [] [oq 17 (.tB .add (.t 9) (.c lI [.int 1])),
 oq 9 (.mov (.t 17))] false 0))))
noncomputable def aEb (E:Env) (v0:Int) (v1:C) (v2:Int) (v3:Int):Option (Nat×List PV):=E.fix (stepOf E aH8 aH6 aH7) [.r [.int v0], .r [v1], .r [.int v2], .r [.int v3]]
noncomputable def aEc (E:Env) (X:Int→C→Int→Int→Option (Nat×List PV)) (v0:Int) (v1:C) (v2:Int) (v3:Int):Option (Nat×List PV):=
 if (decide (v3<v2))=true then
 if (0:Int)≤v3∧v3<(v1.rows.length:Int)then
 (E.pc aAA [aA v1.rows v3.toNat]).bind fun y1=>
 X (Go.IntKind.i64.wrap (v0+((at_ (aA y1 0) 0).vA))) v1 v2 (Go.IntKind.i64.wrap (v3+1))
 else none
 else
 some (0,[.r [.int v0]])
theorem aSZ (E:Env) (X:List PV→Option (Nat×List PV)) (v0:Int) (v1:C) (v2:Int) (v3:Int):stepOf E aH8 aH6 aH7 X [.r [.int v0], .r [v1], .r [.int v2], .r [.int v3]]=aEc E (fun (v0:Int) (v1:C) (v2:Int) (v3:Int)=>X [.r [.int v0], .r [v1], .r [.int v2], .r [.int v3]]) v0 v1 v2 v3:=by kernel_rfl
def aFD:aD:={ps:=[fG],rs:=[lI],res:=[(false,2,none)],body:=(.seq (.region [] [oq 1 (.vL fG 29 (.t 0)),
 oq 2 (.mov (.c lI [.int 0]))] false 0)
 (.seq (.region [] [oq 3 (.mov (.c lI [.int 1]))] false 0)
 (.seq (.seq (.region [] [oq 6 (.xA 13 1 29 27 (.t 1)),
 oq 7 (.ld (.one (.sl 29)) 27 (.t 6)),
 oq 8 (.gE (.t 7)),
 oq 9 (.mov (.c lI [.int 0]))] false 0)
 (.block 0 (.loop aH6 aH7 aH8)))
 (.seq (.region [] [oq 18 (.mov (.t 3)),
 oq 2 (.mov (.t 18))] false 0)
 .ret))))}
noncomputable def aNi (E:Env) (p0:Row):Option (List Row):=
 (aEb E 1 (at_ p0 13) (((at_ p0 13).rows).length:Int) 0).bind fun x2=>
 some [[.int (gI 0 x2.2)]]
theorem aS0 (E:Env) (p0:Row):xE E aFD [p0]=aNi E p0:=by kernel_rfl
def aH9:Shape:={slots:=[(3, .d lI),(7, .d (.one (.sl 29))),(8, .d lI),(9, .d lI)],objs:=[]}
def aIa:List (mB×Shape):=[(.exit 0,{slots:=[(3, .d lI)],objs:=[]})]
def aIb:zB:=(.seq (.region [] [oq 10 (.dA .lss (.t 9) (.t 8))] false 0)
 (.seq (.cond (.t 10) .skip
 (.exit 0))
 (.seq (.block 1 (.seq (.region [] [oq 11 (.iad 29 fG (.t 7) (.t 9)),
 oq 12 (.ld fG 29 (.t 11)),
 oq 5 (.oB 0 fG [.int 0, .str [], .str [], .fA, .int 0, .int 0, .int 0, .int 0, .int 0, .int 0, .str [], .fA, .fA, .fA]),
 ⟨none, .st fG (.t 5) (.t 12),none,[]⟩] false 1)
 (.region [] [oq 13 (.mov (.t 3)),
 oq 14 (.ld fG 29 (.t 5)),
 oq 15 (.call 15 [fG] [lI] [(.t 14)]),
 oq 16 (.imin true [(.t 13),(.t 15)]),
 oq 3 (.mov (.t 16))] false 0)))
 (.region [] [oq 17 (.tB .add (.t 9) (.c lI [.int 1])),
 oq 9 (.mov (.t 17))] false 0))))
noncomputable def aEd (E:Env) (v0:Int) (v1:C) (v2:Int) (v3:Int):Option (Nat×List PV):=E.fix (stepOf E aIb aH9 aIa) [.r [.int v0], .r [v1], .r [.int v2], .r [.int v3]]
noncomputable def aEe (E:Env) (X:Int→C→Int→Int→Option (Nat×List PV)) (v0:Int) (v1:C) (v2:Int) (v3:Int):Option (Nat×List PV):=
 if (decide (v3<v2))=true then
 if (0:Int)≤v3∧v3<(v1.rows.length:Int)then
 (E.pc aAB [aA v1.rows v3.toNat]).bind fun y1=>
 X (if ((at_ (aA y1 0) 0).vA)>v0 then (at_ (aA y1 0) 0).vA else v0) v1 v2 (Go.IntKind.i64.wrap (v3+1))
 else none
 else
 some (0,[.r [.int v0]])
theorem aS1 (E:Env) (X:List PV→Option (Nat×List PV)) (v0:Int) (v1:C) (v2:Int) (v3:Int):stepOf E aIb aH9 aIa X [.r [.int v0], .r [v1], .r [.int v2], .r [.int v3]]=aEe E (fun (v0:Int) (v1:C) (v2:Int) (v3:Int)=>X [.r [.int v0], .r [v1], .r [.int v2], .r [.int v3]]) v0 v1 v2 v3:=by kernel_rfl
def aFE:aD:={ps:=[fG],rs:=[lI],res:=[(false,2,none)],body:=(.seq (.region [] [oq 1 (.vL fG 29 (.t 0)),
 oq 2 (.mov (.c lI [.int 0]))] false 0)
 (.seq (.region [] [oq 3 (.mov (.c lI [.int 0]))] false 0)
 (.seq (.seq (.region [] [oq 6 (.xA 13 1 29 27 (.t 1)),
 oq 7 (.ld (.one (.sl 29)) 27 (.t 6)),
 oq 8 (.gE (.t 7)),
 oq 9 (.mov (.c lI [.int 0]))] false 0)
 (.block 0 (.loop aH9 aIa aIb)))
 (.seq (.region [] [oq 18 (.mov (.t 3)),
 oq 19 (.tB .add (.t 18) (.c lI [.int 1])),
 oq 2 (.mov (.t 19))] false 0)
 .ret))))}
noncomputable def aNj (E:Env) (p0:Row):Option (List Row):=
 (aEd E 0 (at_ p0 13) (((at_ p0 13).rows).length:Int) 0).bind fun x2=>
 some [[.int (Go.IntKind.i64.wrap ((gI 0 x2.2)+1))]]
theorem aS2 (E:Env) (p0:Row):xE E aFE [p0]=aNj E p0:=by kernel_rfl
def aMb:aD:={ps:=[lI],rs:=[lA1],res:=[(true,2,none)],body:=(.seq (.region [] [oq 2 (.oB 0 lA1 [.bool false, .bool false, .bool false, .bool false, .bool false, .bool false, .bool false, .bool false, .int 0])] false 1)
 (.seq (.seq (.region [] [oq 3 (.mov (.t 0))] false 0)
 (.join [(.normal,{slots:=[(2, .ptr 0 0)],objs:=[.var lA1]}),(.ret,{slots:=[(2, .ptr 0 0)],objs:=[.var lA1]})] (.block 0 (.seq (.region [] [oq 5 (.dA .eql (.t 3) (.c lI [.int 1])),
 oq 4 (.mov (.t 5))] false 0)
 (.cond (.t 4) (.seq (.region [] [oq 6 (.bld lA1 [.bool false, .bool false, .bool false, .bool false, .bool false, .bool false, .bool false, .bool false, .int 0] [(8,1,(.c lI [.int (-1)]))]),
 ⟨none, .st lA1 (.t 2) (.t 6),none,[]⟩] false 0)
 .ret)
 (.seq (.region [] [oq 8 (.dA .eql (.t 3) (.c lI [.int 2])),
 oq 7 (.mov (.t 8))] false 0)
 (.cond (.t 7) (.seq (.region [] [oq 9 (.bld lA1 [.bool false, .bool false, .bool false, .bool false, .bool false, .bool false, .bool false, .bool false, .int 0] [(0,1,(.c lB [.bool true])),(8,1,(.c lI [.int 1]))]),
 ⟨none, .st lA1 (.t 2) (.t 9),none,[]⟩] false 0)
 .ret)
 (.seq (.region [] [oq 11 (.dA .eql (.t 3) (.c lI [.int 3])),
 oq 10 (.mov (.t 11))] false 0)
 (.cond (.t 10) (.seq (.region [] [oq 12 (.bld lA1 [.bool false, .bool false, .bool false, .bool false, .bool false, .bool false, .bool false, .bool false, .int 0] [(0,1,(.c lB [.bool true])),(1,1,(.c lB [.bool true]))]),
 ⟨none, .st lA1 (.t 2) (.t 12),none,[]⟩] false 0)
 .ret)
 (.seq (.seq (.region [] [oq 14 (.dA .eql (.t 3) (.c lI [.int 4])),
 oq 13 (.mov (.t 14))] false 0)
 (.join [(.normal,{slots:=[(2, .ptr 0 0),(3, .d lI),(13, .d lB)],objs:=[.var lA1]})] (.cond (.t 13) .skip
 (.seq (.region [] [oq 15 (.dA .eql (.t 3) (.c lI [.int 5])),
 oq 13 (.mov (.t 15))] false 0)
 (.cond (.t 13) .skip
 (.region [] [oq 16 (.dA .eql (.t 3) (.c lI [.int 15])),
 oq 13 (.mov (.t 16))] false 0))))))
 (.cond (.t 13) (.seq (.region [] [oq 17 (.bld lA1 [.bool false, .bool false, .bool false, .bool false, .bool false, .bool false, .bool false, .bool false, .int 0] [(0,1,(.c lB [.bool true])),(6,1,(.c lB [.bool true]))]),
 ⟨none, .st lA1 (.t 2) (.t 17),none,[]⟩] false 0)
 .ret)
 (.seq (.region [] [oq 19 (.dA .eql (.t 3) (.c lI [.int 6])),
 oq 18 (.mov (.t 19))] false 0)
 (.cond (.t 18) (.seq (.region [] [oq 20 (.bld lA1 [.bool false, .bool false, .bool false, .bool false, .bool false, .bool false, .bool false, .bool false, .int 0] [(2,1,(.c lB [.bool true])),(1,1,(.c lB [.bool true]))]),
 ⟨none, .st lA1 (.t 2) (.t 20),none,[]⟩] false 0)
 .ret)
 (.seq (.seq (.region [] [oq 22 (.dA .eql (.t 3) (.c lI [.int 7])),
 oq 21 (.mov (.t 22))] false 0)
 (.join [(.normal,{slots:=[(2, .ptr 0 0),(3, .d lI),(21, .d lB)],objs:=[.var lA1]})] (.cond (.t 21) .skip
 (.seq (.region [] [oq 23 (.dA .eql (.t 3) (.c lI [.int 16])),
 oq 21 (.mov (.t 23))] false 0)
 (.cond (.t 21) .skip
 (.region [] [oq 24 (.dA .eql (.t 3) (.c lI [.int 17])),
 oq 21 (.mov (.t 24))] false 0))))))
 (.cond (.t 21) (.seq (.region [] [oq 25 (.bld lA1 [.bool false, .bool false, .bool false, .bool false, .bool false, .bool false, .bool false, .bool false, .int 0] [(0,1,(.c lB [.bool true]))]),
 ⟨none, .st lA1 (.t 2) (.t 25),none,[]⟩] false 0)
 .ret)
 (.seq (.region [] [oq 27 (.dA .eql (.t 3) (.c lI [.int 8])),
 oq 26 (.mov (.t 27))] false 0)
 (.cond (.t 26) (.seq (.region [] [oq 28 (.bld lA1 [.bool false, .bool false, .bool false, .bool false, .bool false, .bool false, .bool false, .bool false, .int 0] [(0,1,(.c lB [.bool true])),(3,1,(.c lB [.bool true]))]),
 ⟨none, .st lA1 (.t 2) (.t 28),none,[]⟩] false 0)
 .ret)
 (.seq (.region [] [oq 30 (.dA .eql (.t 3) (.c lI [.int 9])),
 oq 29 (.mov (.t 30))] false 0)
 (.cond (.t 29) (.seq (.region [] [oq 31 (.bld lA1 [.bool false, .bool false, .bool false, .bool false, .bool false, .bool false, .bool false, .bool false, .int 0] [(0,1,(.c lB [.bool true])),(1,1,(.c lB [.bool true])),(2,1,(.c lB [.bool true])),(5,1,(.c lB [.bool true]))]),
 ⟨none, .st lA1 (.t 2) (.t 31),none,[]⟩] false 0)
 .ret)
 (.seq (.region [] [oq 33 (.dA .eql (.t 3) (.c lI [.int 10])),
 oq 32 (.mov (.t 33))] false 0)
 (.cond (.t 32) (.seq (.region [] [oq 34 (.bld lA1 [.bool false, .bool false, .bool false, .bool false, .bool false, .bool false, .bool false, .bool false, .int 0] [(0,1,(.c lB [.bool true])),(1,1,(.c lB [.bool true])),(5,1,(.c lB [.bool true]))]),
 ⟨none, .st lA1 (.t 2) (.t 34),none,[]⟩] false 0)
 .ret)
 (.seq (.region [] [oq 36 (.dA .eql (.t 3) (.c lI [.int 11])),
 oq 35 (.mov (.t 36))] false 0)
 (.cond (.t 35) (.seq (.region [] [oq 37 (.bld lA1 [.bool false, .bool false, .bool false, .bool false, .bool false, .bool false, .bool false, .bool false, .int 0] [(7,1,(.c lB [.bool true]))]),
 ⟨none, .st lA1 (.t 2) (.t 37),none,[]⟩] false 0)
 .ret)
 (.seq (.region [] [oq 39 (.dA .eql (.t 3) (.c lI [.int 12])),
 oq 38 (.mov (.t 39))] false 0)
 (.cond (.t 38) (.seq (.region [] [oq 40 (.bld lA1 [.bool false, .bool false, .bool false, .bool false, .bool false, .bool false, .bool false, .bool false, .int 0] [(4,1,(.c lB [.bool true]))]),
 ⟨none, .st lA1 (.t 2) (.t 40),none,[]⟩] false 0)
 .ret)
 (.seq (.region [] [oq 42 (.dA .eql (.t 3) (.c lI [.int 13])),
 oq 41 (.mov (.t 42))] false 0)
 (.cond (.t 41) (.seq (.region [] [oq 43 (.bld lA1 [.bool false, .bool false, .bool false, .bool false, .bool false, .bool false, .bool false, .bool false, .int 0] [(0,1,(.c lB [.bool true])),(8,1,(.c lI [.int 1]))]),
 ⟨none, .st lA1 (.t 2) (.t 43),none,[]⟩] false 0)
 .ret)
 (.seq (.region [] [oq 45 (.dA .eql (.t 3) (.c lI [.int 14])),
 oq 44 (.mov (.t 45))] false 0)
 (.cond (.t 44) (.seq (.region [] [oq 46 (.bld lA1 [.bool false, .bool false, .bool false, .bool false, .bool false, .bool false, .bool false, .bool false, .int 0] [(2,1,(.c lB [.bool true])),(8,1,(.c lI [.int (-1)]))]),
 ⟨none, .st lA1 (.t 2) (.t 46),none,[]⟩] false 0)
 .ret)
 (.seq (.region [] [oq 48 (.dA .eql (.t 3) (.c lI [.int 18])),
 oq 47 (.mov (.t 48))] false 0)
 (.cond (.t 47) (.seq (.region [] [oq 49 (.bld lA1 [.bool false, .bool false, .bool false, .bool false, .bool false, .bool false, .bool false, .bool false, .int 0] [(6,1,(.c lB [.bool true]))]),
 ⟨none, .st lA1 (.t 2) (.t 49),none,[]⟩] false 0)
 .ret)
 .skip)))))))))))))))))))))))))))))))
 (.seq (.region [] [oq 50 (.bld lA1 [.bool false, .bool false, .bool false, .bool false, .bool false, .bool false, .bool false, .bool false, .int 0] []),
 ⟨none, .st lA1 (.t 2) (.t 50),none,[]⟩] false 0)
 .ret)))}
def aFZ:Shape:={slots:=[(23, .d (.one (.sl 5))),(24, .d lI),(25, .d lI)],objs:=[]}
def aF0:List (mB×Shape):=[(.exit 0,{slots:=[],objs:=[]}),(.ret,{slots:=[(2, .d lB)],objs:=[]})]
def aF1:zB:=(.seq (.region [] [oq 26 (.dA .lss (.t 25) (.t 24))] false 0)
 (.seq (.cond (.t 26) .skip
 (.exit 0))
 (.seq (.join [(.normal,{slots:=[(23, .d (.one (.sl 5))),(24, .d lI),(25, .d lI)],objs:=[]}),(.ret,{slots:=[(2, .d lB)],objs:=[]})] (.block 1 (.seq (.region [] [oq 27 (.iad 5 lU (.t 23) (.t 25)),
 oq 28 (.ld lU 5 (.t 27)),
 oq 4 (.mov (.t 28))] false 0)
 (.seq (.region [] [oq 29 (.mov (.t 4)),
 oq 30 (.dA .geq (.t 29) (.c lU [.int 97])),
 oq 31 (.mov (.t 30)),
 ⟨some 32, .mov (.t 4),some (31,true),[]⟩,
 ⟨some 33, .dA .leq (.t 32) (.c lU [.int 122]),some (31,true),[]⟩,
 oq 34 (.pick (.t 31) (.t 33) (.c lB [.bool false])),
 oq 35 (.mov (.t 34)),
 ⟨some 36, .mov (.t 4),some (35,false),[]⟩,
 ⟨some 37, .dA .geq (.t 36) (.c lU [.int 48]),some (35,false),[]⟩,
 ⟨some 38, .mov (.t 37),some (35,false),[]⟩,
 ⟨some 39, .mov (.t 4),some (38,true),[]⟩,
 ⟨some 40, .dA .leq (.t 39) (.c lU [.int 57]),some (38,true),[]⟩,
 ⟨some 41, .pick (.t 38) (.t 40) (.c lB [.bool false]),some (35,false),[]⟩,
 oq 42 (.pick (.t 35) (.c lB [.bool true]) (.t 41)),
 oq 43 (.mov (.t 42)),
 ⟨some 44, .mov (.t 4),some (43,false),[]⟩,
 ⟨some 45, .dA .eql (.t 44) (.c lU [.int 45]),some (43,false),[]⟩,
 oq 46 (.pick (.t 43) (.c lB [.bool true]) (.t 45)),
 oq 47 (.not (.t 46))] false 0)
 (.cond (.t 47) (.seq (.region [] [oq 2 (.mov (.c lB [.bool false]))] false 0)
 .ret)
 .skip)))))
 (.region [] [oq 48 (.tB .add (.t 25) (.c lI [.int 1])),
 oq 25 (.mov (.t 48))] false 0))))
noncomputable def aCV (E:Env) (v0:C) (v1:Int) (v2:Int):Option (Nat×List PV):=E.fix (stepOf E aF1 aFZ aF0) [.r [v0], .r [.int v1], .r [.int v2]]
noncomputable def aCW (E:Env) (X:C→Int→Int→Option (Nat×List PV)) (v0:C) (v1:Int) (v2:Int):Option (Nat×List PV):=
 if (decide (v2<v1))=true then
 (if (0:Int)≤v2∧v2<(v0.rows.length:Int)then
 let K8:Bool→Option (Nat×List PV):=fun q9=>
 let K10:Bool→Option (Nat×List PV):=fun q11=>
 let K12:Bool→Option (Nat×List PV):=fun q13=>
 if (!q13)=true then
 some (1,[.r [.bool false]])
 else
 some (0,[.r [v0], .r [.int v1], .r [.int v2]])
 if q11=true then
 K12 true
 else
 K12 (((at_ (aA v0.rows v2.toNat) 0).vA)==45)
 if q9=true then
 K10 true
 else
 let K14:Bool→Option (Nat×List PV):=fun q15=>
 K10 q15
 if (decide (((at_ (aA v0.rows v2.toNat) 0).vA)≥48))=true then
 K14 (decide (((at_ (aA v0.rows v2.toNat) 0).vA)≤57))
 else
 K14 false
 if (decide (((at_ (aA v0.rows v2.toNat) 0).vA)≥97))=true then
 K8 (decide (((at_ (aA v0.rows v2.toNat) 0).vA)≤122))
 else
 K8 false
 else none).bind fun x16=>
 match x16.1 with
 |0=>
 X (gC 0 x16.2) (gI 1 x16.2) (Go.IntKind.i64.wrap ((gI 2 x16.2)+1))
 |i17+1=>
 some (1,[.r [.bool (gB 0 x16.2)]])
 else
 some (0,[])
theorem aQQ (E:Env) (X:List PV→Option (Nat×List PV)) (v0:C) (v1:Int) (v2:Int):stepOf E aF1 aFZ aF0 X [.r [v0], .r [.int v1], .r [.int v2]]=aCW E (fun (v0:C) (v1:Int) (v2:Int)=>X [.r [v0], .r [.int v1], .r [.int v2]]) v0 v1 v2:=by kernel_rfl
def aEf:aD:={ps:=[lS],rs:=[lB],res:=[(false,2,none)],body:=(.seq (.region [] [oq 2 (.mov (.c lB [.bool false]))] false 0)
 (.seq (.seq (.join [(.normal,{slots:=[(0, .d lS),(21, .d lB)],objs:=[]})] (.region [] [oq 5 (.mov (.t 0)),
 oq 6 (.aEK .eql (.t 5) (.c lS [.str ([]:List UInt8)])),
 oq 7 (.mov (.t 6)),
 ⟨some 8, .mov (.t 0),some (7,false),[]⟩,
 ⟨some 9, .aB3 (.t 8),some (7,false),[]⟩,
 ⟨some 10, .dA .gtr (.t 9) (.c lI [.int 16]),some (7,false),[]⟩,
 oq 11 (.pick (.t 7) (.c lB [.bool true]) (.t 10)),
 oq 12 (.mov (.t 11)),
 ⟨some 13, .mov (.t 0),some (12,false),[]⟩,
 ⟨some 14, .aB2 (.t 13) (.c lI [.int 0]),some (12,false),[]⟩,
 ⟨some 15, .dA .lss (.t 14) (.c lU [.int 97]),some (12,false),[]⟩,
 oq 16 (.pick (.t 12) (.c lB [.bool true]) (.t 15)),
 oq 17 (.mov (.t 16)),
 ⟨some 18, .mov (.t 0),some (17,false),[]⟩,
 ⟨some 19, .aB2 (.t 18) (.c lI [.int 0]),some (17,false),[]⟩,
 ⟨some 20, .dA .gtr (.t 19) (.c lU [.int 122]),some (17,false),[]⟩,
 oq 21 (.pick (.t 17) (.c lB [.bool true]) (.t 20))] false 0))
 (.cond (.t 21) (.seq (.region [] [oq 2 (.mov (.c lB [.bool false]))] false 0)
 .ret)
 .skip))
 (.seq (.seq (.region [] [oq 22 (.mov (.t 0)),
 oq 23 (.s2b 5 (.t 22)),
 oq 24 (.gE (.t 23)),
 oq 25 (.mov (.c lI [.int 0]))] false 0)
 (.block 0 (.loop aFZ aF0 aF1)))
 (.seq (.region [] [oq 2 (.mov (.c lB [.bool true]))] false 0)
 .ret))))}
noncomputable def aKY (E:Env) (p0:List UInt8):Option (List Row):=
 (let K1:Bool→Option (Nat×List PV):=fun q2=>
 let K3:Bool→Option (Nat×List PV):=fun q4=>
 let K5:Bool→Option (Nat×List PV):=fun q6=>
 some (0,[.r [.str p0], .r [.bool q6]])
 if q4=true then
 K5 true
 else
 if (0:Int)≤0∧0<(p0.length:Int)then
 K5 (decide (((p0.getD 0 0).toNat:Int)>122))
 else none
 if q2=true then
 K3 true
 else
 if (0:Int)≤0∧0<(p0.length:Int)then
 K3 (decide (((p0.getD 0 0).toNat:Int)<97))
 else none
 if (p0==([]:List UInt8))=true then
 K1 true
 else
 K1 (decide ((p0.length:Int)>16))).bind fun x7=>
 if (gB 1 x7.2)=true then
 some [[.bool false]]
 else
 (aCV E (.sl ((gS 0 x7.2).map yD)) (((gS 0 x7.2).map yD).length:Int) 0).bind fun qK=>
 match qK.1 with
 |0=>
 some [[.bool true]]
 |i19+1=>
 some [[.bool (gB 0 qK.2)]]
theorem aQR (E:Env) (p0:List UInt8):xE E aEf [[.str p0]]=aKY E p0:=by kernel_rfl
def aF2:Shape:={slots:=[(3, .d lI),(7, .d (.one (.sl 89))),(8, .d lI),(9, .d lI)],objs:=[]}
def aF3:List (mB×Shape):=[(.exit 0,{slots:=[(3, .d lI)],objs:=[]})]
def aF4:zB:=(.seq (.region [] [oq 10 (.dA .lss (.t 9) (.t 8))] false 0)
 (.seq (.cond (.t 10) .skip
 (.exit 0))
 (.seq (.block 1 (.seq (.region [] [oq 11 (.iad 89 lA2 (.t 7) (.t 9)),
 oq 12 (.ld lA2 89 (.t 11)),
 oq 5 (.oB 0 lA2 [.str [], .int 0, .int 0, .str [], .fA]),
 ⟨none, .st lA2 (.t 5) (.t 12),none,[]⟩] false 1)
 (.region [] [oq 13 (.mov (.t 3)),
 oq 14 (.xA 1 4 89 25 (.t 5)),
 oq 15 (.ld lH 25 (.t 14)),
 oq 16 (.call 55 [lH] [lI] [(.t 15)]),
 oq 17 (.tB .add (.t 13) (.t 16)),
 oq 3 (.mov (.t 17))] false 0)))
 (.region [] [oq 18 (.tB .add (.t 9) (.c lI [.int 1])),
 oq 9 (.mov (.t 18))] false 0))))
noncomputable def aCX (E:Env) (v0:Int) (v1:C) (v2:Int) (v3:Int):Option (Nat×List PV):=E.fix (stepOf E aF4 aF2 aF3) [.r [.int v0], .r [v1], .r [.int v2], .r [.int v3]]
noncomputable def aCY (E:Env) (X:Int→C→Int→Int→Option (Nat×List PV)) (v0:Int) (v1:C) (v2:Int) (v3:Int):Option (Nat×List PV):=
 if (decide (v3<v2))=true then
 if (0:Int)≤v3∧v3<(v1.rows.length:Int)then
 (E.pc zX [[at_ (aA v1.rows v3.toNat) 1,at_ (aA v1.rows v3.toNat) 2,at_ (aA v1.rows v3.toNat) 3,at_ (aA v1.rows v3.toNat) 4]]).bind fun y1=>
 X (Go.IntKind.i64.wrap (v0+((at_ (aA y1 0) 0).vA))) v1 v2 (Go.IntKind.i64.wrap (v3+1))
 else none
 else
 some (0,[.r [.int v0]])
theorem aQS (E:Env) (X:List PV→Option (Nat×List PV)) (v0:Int) (v1:C) (v2:Int) (v3:Int):stepOf E aF4 aF2 aF3 X [.r [.int v0], .r [v1], .r [.int v2], .r [.int v3]]=aCY E (fun (v0:Int) (v1:C) (v2:Int) (v3:Int)=>X [.r [.int v0], .r [v1], .r [.int v2], .r [.int v3]]) v0 v1 v2 v3:=by kernel_rfl
def aEg:aD:={ps:=[lH],rs:=[lI],res:=[(false,2,none)],body:=(.seq (.region [] [oq 1 (.vL lH 25 (.t 0)),
 oq 2 (.mov (.c lI [.int 0]))] false 0)
 (.seq (.region [] [oq 3 (.mov (.c lI [.int 1]))] false 0)
 (.seq (.seq (.region [] [oq 6 (.xA 3 1 25 23 (.t 1)),
 oq 7 (.ld (.one (.sl 89)) 23 (.t 6)),
 oq 8 (.gE (.t 7)),
 oq 9 (.mov (.c lI [.int 0]))] false 0)
 (.block 0 (.loop aF2 aF3 aF4)))
 (.seq (.region [] [oq 19 (.mov (.t 3)),
 oq 2 (.mov (.t 19))] false 0)
 .ret))))}
noncomputable def aKZ (E:Env) (p0:Row):Option (List Row):=
 (aCX E 1 (at_ p0 3) (((at_ p0 3).rows).length:Int) 0).bind fun x2=>
 some [[.int (gI 0 x2.2)]]
theorem aQT (E:Env) (p0:Row):xE E aEg [p0]=aKZ E p0:=by kernel_rfl
def aF5:Shape:={slots:=[(3, .d lI),(7, .d (.one (.sl 89))),(8, .d lI),(9, .d lI)],objs:=[]}
def aF6:List (mB×Shape):=[(.exit 0,{slots:=[(3, .d lI)],objs:=[]})]
def aF7:zB:=(.seq (.region [] [oq 10 (.dA .lss (.t 9) (.t 8))] false 0)
 (.seq (.cond (.t 10) .skip
 (.exit 0))
 (.seq (.block 1 (.seq (.region [] [oq 11 (.iad 89 lA2 (.t 7) (.t 9)),
 oq 12 (.ld lA2 89 (.t 11)),
 oq 5 (.oB 0 lA2 [.str [], .int 0, .int 0, .str [], .fA]),
 ⟨none, .st lA2 (.t 5) (.t 12),none,[]⟩] false 1)
 (.region [] [oq 13 (.mov (.t 3)),
 oq 14 (.xA 1 4 89 25 (.t 5)),
 oq 15 (.ld lH 25 (.t 14)),
 oq 16 (.call 56 [lH] [lI] [(.t 15)]),
 oq 17 (.imin true [(.t 13),(.t 16)]),
 oq 3 (.mov (.t 17))] false 0)))
 (.region [] [oq 18 (.tB .add (.t 9) (.c lI [.int 1])),
 oq 9 (.mov (.t 18))] false 0))))
noncomputable def aCZ (E:Env) (v0:Int) (v1:C) (v2:Int) (v3:Int):Option (Nat×List PV):=E.fix (stepOf E aF7 aF5 aF6) [.r [.int v0], .r [v1], .r [.int v2], .r [.int v3]]
noncomputable def aC0 (E:Env) (X:Int→C→Int→Int→Option (Nat×List PV)) (v0:Int) (v1:C) (v2:Int) (v3:Int):Option (Nat×List PV):=
 if (decide (v3<v2))=true then
 if (0:Int)≤v3∧v3<(v1.rows.length:Int)then
 (E.pc aY [[at_ (aA v1.rows v3.toNat) 1,at_ (aA v1.rows v3.toNat) 2,at_ (aA v1.rows v3.toNat) 3,at_ (aA v1.rows v3.toNat) 4]]).bind fun y1=>
 X (if ((at_ (aA y1 0) 0).vA)>v0 then (at_ (aA y1 0) 0).vA else v0) v1 v2 (Go.IntKind.i64.wrap (v3+1))
 else none
 else
 some (0,[.r [.int v0]])
theorem aQU (E:Env) (X:List PV→Option (Nat×List PV)) (v0:Int) (v1:C) (v2:Int) (v3:Int):stepOf E aF7 aF5 aF6 X [.r [.int v0], .r [v1], .r [.int v2], .r [.int v3]]=aC0 E (fun (v0:Int) (v1:C) (v2:Int) (v3:Int)=>X [.r [.int v0], .r [v1], .r [.int v2], .r [.int v3]]) v0 v1 v2 v3:=by kernel_rfl
def aEh:aD:={ps:=[lH],rs:=[lI],res:=[(false,2,none)],body:=(.seq (.region [] [oq 1 (.vL lH 25 (.t 0)),
 oq 2 (.mov (.c lI [.int 0]))] false 0)
 (.seq (.region [] [oq 3 (.mov (.c lI [.int 0]))] false 0)
 (.seq (.seq (.region [] [oq 6 (.xA 3 1 25 23 (.t 1)),
 oq 7 (.ld (.one (.sl 89)) 23 (.t 6)),
 oq 8 (.gE (.t 7)),
 oq 9 (.mov (.c lI [.int 0]))] false 0)
 (.block 0 (.loop aF5 aF6 aF7)))
 (.seq (.region [] [oq 19 (.mov (.t 3)),
 oq 20 (.tB .add (.t 19) (.c lI [.int 1])),
 oq 2 (.mov (.t 20))] false 0)
 .ret))))}
noncomputable def aK0 (E:Env) (p0:Row):Option (List Row):=
 (aCZ E 0 (at_ p0 3) (((at_ p0 3).rows).length:Int) 0).bind fun x2=>
 some [[.int (Go.IntKind.i64.wrap ((gI 0 x2.2)+1))]]
theorem aQV (E:Env) (p0:Row):xE E aEh [p0]=aK0 E p0:=by kernel_rfl
def aBc:aD:={ps:=[lI],rs:=[lB],res:=[(false,2,none)],body:=(.seq (.region [] [oq 2 (.mov (.c lB [.bool false]))] false 0)
 (.seq (.region [] [oq 3 (.mov (.t 0)),
 oq 4 (.dA .geq (.t 3) (.c lI [.int 0])),
 oq 5 (.mov (.t 4)),
 ⟨some 6, .mov (.t 0),some (5,true),[]⟩,
 ⟨some 7, .dA .leq (.t 6) (.c lI [.int 5]),some (5,true),[]⟩,
 oq 8 (.pick (.t 5) (.t 7) (.c lB [.bool false])),
 oq 9 (.mov (.t 8)),
 ⟨some 10, .mov (.t 0),some (9,false),[]⟩,
 ⟨some 11, .dA .eql (.t 10) (.c lI [.int 11]),some (9,false),[]⟩,
 oq 12 (.pick (.t 9) (.c lB [.bool true]) (.t 11)),
 oq 2 (.mov (.t 12))] false 0)
 .ret))}
noncomputable def aIc (E:Env) (p0:Int):Option (List Row):=
 let K1:Bool→Option (List Row):=fun q2=>
 let K3:Bool→Option (List Row):=fun q4=>
 some [[.bool q4]]
 if q2=true then
 K3 true
 else
 K3 (p0==11)
 if (decide (p0≥0))=true then
 K1 (decide (p0≤5))
 else
 K1 false
theorem aOA (E:Env) (p0:Int):xE E aBc [[.int p0]]=aIc E p0:=by kernel_rfl
def aBd:aD:={ps:=[lH],rs:=[lB],res:=[(false,2,none)],body:=(.seq (.region [] [oq 1 (.vL lH 25 (.t 0)),
 oq 2 (.mov (.c lB [.bool false]))] false 0)
 (.seq (.join [(.normal,{slots:=[(1, .d (.one (.ref 25))),(3, .d lB)],objs:=[]})] (.region [] [oq 4 (.xA 0 1 25 3 (.t 1)),
 oq 5 (.ld lI 3 (.t 4)),
 oq 6 (.dA .geq (.t 5) (.c lI [.int 1])),
 oq 7 (.mov (.t 6)),
 ⟨some 8, .xA 0 1 25 3 (.t 1),some (7,true),[]⟩,
 ⟨some 9, .ld lI 3 (.t 8),some (7,true),[]⟩,
 ⟨some 10, .dA .leq (.t 9) (.c lI [.int 4]),some (7,true),[]⟩,
 oq 11 (.pick (.t 7) (.t 10) (.c lB [.bool false])),
 oq 12 (.mov (.t 11)),
 ⟨some 13, .xA 0 1 25 3 (.t 1),some (12,false),[]⟩,
 ⟨some 14, .ld lI 3 (.t 13),some (12,false),[]⟩,
 ⟨some 15, .dA .eql (.t 14) (.c lI [.int 11]),some (12,false),[]⟩,
 oq 16 (.pick (.t 12) (.c lB [.bool true]) (.t 15)),
 oq 3 (.mov (.t 16))] false 0))
 (.seq (.region [] [oq 17 (.mov (.t 3)),
 oq 18 (.not (.t 17)),
 oq 19 (.mov (.t 18)),
 ⟨some 20, .xA 1 1 25 3 (.t 1),some (19,true),[]⟩,
 ⟨some 21, .ld lI 3 (.t 20),some (19,true),[]⟩,
 ⟨some 22, .dA .neq (.t 21) (.c lI [.int 0]),some (19,true),[]⟩,
 oq 23 (.pick (.t 19) (.t 22) (.c lB [.bool false])),
 oq 24 (.mov (.t 23)),
 ⟨some 25, .xA 0 1 25 3 (.t 1),some (24,false),[]⟩,
 ⟨some 26, .ld lI 3 (.t 25),some (24,false),[]⟩,
 ⟨some 27, .dA .neq (.t 26) (.c lI [.int 5]),some (24,false),[]⟩,
 ⟨some 28, .mov (.t 27),some (24,false),[]⟩,
 ⟨some 29, .xA 2 1 25 9 (.t 1),some (28,true),[]⟩,
 ⟨some 30, .ld lS 9 (.t 29),some (28,true),[]⟩,
 ⟨some 31, .aEK .neq (.t 30) (.c lS [.str ([]:List UInt8)]),some (28,true),[]⟩,
 ⟨some 32, .pick (.t 28) (.t 31) (.c lB [.bool false]),some (24,false),[]⟩,
 oq 33 (.pick (.t 24) (.c lB [.bool true]) (.t 32)),
 oq 34 (.mov (.t 33)),
 ⟨some 35, .xA 0 1 25 3 (.t 1),some (34,false),[]⟩,
 ⟨some 36, .ld lI 3 (.t 35),some (34,false),[]⟩,
 ⟨some 37, .call 101 [lI] [lB] [(.t 36)],some (34,false),[]⟩,
 ⟨some 38, .mov (.t 37),some (34,false),[]⟩,
 ⟨some 39, .xA 3 1 25 23 (.t 1),some (38,true),[]⟩,
 ⟨some 40, .ld (.one (.sl 89)) 23 (.t 39),some (38,true),[]⟩,
 ⟨some 41, .gE (.t 40),some (38,true),[]⟩,
 ⟨some 42, .dA .gtr (.t 41) (.c lI [.int 0]),some (38,true),[]⟩,
 ⟨some 43, .pick (.t 38) (.t 42) (.c lB [.bool false]),some (34,false),[]⟩,
 oq 44 (.pick (.t 34) (.c lB [.bool true]) (.t 43)),
 oq 2 (.mov (.t 44))] false 0)
 .ret)))}
noncomputable def aId (E:Env) (p0:Row):Option (List Row):=
 (let K1:Bool→Option (Nat×List PV):=fun q2=>
 let K3:Bool→Option (Nat×List PV):=fun q4=>
 some (0,[.r [.dp p0], .r [.bool q4]])
 if q2=true then
 K3 true
 else
 K3 (((at_ p0 0).vA)==11)
 if (decide (((at_ p0 0).vA)≥1))=true then
 K1 (decide (((at_ p0 0).vA)≤4))
 else
 K1 false).bind fun x5=>
 let K6:Bool→Option (List Row):=fun q7=>
 let K8:Bool→Option (List Row):=fun q9=>
 let K10:Bool→Option (List Row):=fun q11=>
 some [[.bool q11]]
 if q9=true then
 K10 true
 else
 if (gC 0 x5.2).jB=true then
 (E.pc aBe [[.int ((at_ ((gC 0 x5.2).cA) 0).vA)]]).bind fun y12=>
 let K13:Bool→Option (List Row):=fun q14=>
 K10 q14
 if ((at_ (aA y12 0) 0).lK)=true then
 if (gC 0 x5.2).jB=true then
 K13 (decide ((((at_ ((gC 0 x5.2).cA) 3).rows).length:Int)>0))
 else none
 else
 K13 false
 else none
 if q7=true then
 K8 true
 else
 if (gC 0 x5.2).jB=true then
 let K15:Bool→Option (List Row):=fun q16=>
 K8 q16
 if (((at_ ((gC 0 x5.2).cA) 0).vA) !=5)=true then
 if (gC 0 x5.2).jB=true then
 K15 (!(((at_ ((gC 0 x5.2).cA) 2).mD)==([]:List UInt8)))
 else none
 else
 K15 false
 else none
 if (!(gB 1 x5.2))=true then
 if (gC 0 x5.2).jB=true then
 K6 (((at_ ((gC 0 x5.2).cA) 1).vA) !=0)
 else none
 else
 K6 false
theorem aOB (E:Env) (p0:Row):xE E aBd [p0]=aId E p0:=by kernel_rfl
def aBf:aD:={ps:=[lH],rs:=[lB],res:=[(false,2,none)],body:=(.seq (.region [] [oq 1 (.vL lH 25 (.t 0)),
 oq 2 (.mov (.c lB [.bool false]))] false 0)
 (.seq (.seq (.region [] [oq 3 (.xA 0 1 25 3 (.t 1)),
 oq 4 (.ld lI 3 (.t 3))] false 0)
 (.block 0 (.seq (.region [] [oq 6 (.dA .eql (.t 4) (.c lI [.int 1])),
 oq 5 (.mov (.t 6))] false 0)
 (.cond (.t 5) (.seq (.region [] [oq 7 (.xA 1 1 25 3 (.t 1)),
 oq 8 (.ld lI 3 (.t 7)),
 oq 9 (.dA .eql (.t 8) (.c lI [.int 0])),
 oq 10 (.mov (.t 9)),
 ⟨some 11, .xA 1 1 25 3 (.t 1),some (10,false),[]⟩,
 ⟨some 12, .ld lI 3 (.t 11),some (10,false),[]⟩,
 ⟨some 13, .dA .eql (.t 12) (.c lI [.int 1]),some (10,false),[]⟩,
 oq 14 (.pick (.t 10) (.c lB [.bool true]) (.t 13)),
 oq 2 (.mov (.t 14))] false 0)
 .ret)
 (.seq (.region [] [oq 16 (.dA .eql (.t 4) (.c lI [.int 2])),
 oq 15 (.mov (.t 16))] false 0)
 (.cond (.t 15) (.seq (.region [] [oq 17 (.xA 1 1 25 3 (.t 1)),
 oq 18 (.ld lI 3 (.t 17)),
 oq 19 (.dA .geq (.t 18) (.c lI [.int (-9007199254740992)])),
 oq 20 (.mov (.t 19)),
 ⟨some 21, .xA 1 1 25 3 (.t 1),some (20,true),[]⟩,
 ⟨some 22, .ld lI 3 (.t 21),some (20,true),[]⟩,
 ⟨some 23, .dA .leq (.t 22) (.c lI [.int 9007199254740992]),some (20,true),[]⟩,
 oq 24 (.pick (.t 20) (.t 23) (.c lB [.bool false])),
 oq 2 (.mov (.t 24))] false 0)
 .ret)
 (.seq (.region [] [oq 26 (.dA .eql (.t 4) (.c lI [.int 4])),
 oq 25 (.mov (.t 26))] false 0)
 (.cond (.t 25) (.seq (.region [] [oq 27 (.xA 1 1 25 3 (.t 1)),
 oq 28 (.ld lI 3 (.t 27)),
 oq 29 (.dA .geq (.t 28) (.c lI [.int 0])),
 oq 30 (.mov (.t 29)),
 ⟨some 31, .xA 1 1 25 3 (.t 1),some (30,true),[]⟩,
 ⟨some 32, .ld lI 3 (.t 31),some (30,true),[]⟩,
 ⟨some 33, .dA .leq (.t 32) (.c lI [.int 4194304]),some (30,true),[]⟩,
 oq 34 (.pick (.t 30) (.t 33) (.c lB [.bool false])),
 oq 2 (.mov (.t 34))] false 0)
 .ret)
 (.seq (.region [] [oq 36 (.dA .eql (.t 4) (.c lI [.int 11])),
 oq 35 (.mov (.t 36))] false 0)
 (.cond (.t 35) (.seq (.region [] [oq 37 (.xA 1 1 25 3 (.t 1)),
 oq 38 (.ld lI 3 (.t 37)),
 oq 39 (.dA .geq (.t 38) (.c lI [.int 0])),
 oq 40 (.mov (.t 39)),
 ⟨some 41, .xA 1 1 25 3 (.t 1),some (40,true),[]⟩,
 ⟨some 42, .ld lI 3 (.t 41),some (40,true),[]⟩,
 ⟨some 43, .dA .leq (.t 42) (.c lI [.int 9007199254740992]),some (40,true),[]⟩,
 oq 44 (.pick (.t 40) (.t 43) (.c lB [.bool false])),
 oq 2 (.mov (.t 44))] false 0)
 .ret)
 .skip))))))))))
 (.seq (.region [] [oq 2 (.mov (.c lB [.bool true]))] false 0)
 .ret)))}
noncomputable def aIe (E:Env) (p0:Row):Option (List Row):=
 if (((at_ p0 0).vA)==1)=true then
 let K1:Bool→Option (List Row):=fun q2=>
 some [[.bool q2]]
 if (((at_ p0 1).vA)==0)=true then
 K1 true
 else
 K1 (((at_ p0 1).vA)==1)
 else
 if (((at_ p0 0).vA)==2)=true then
 let K3:Bool→Option (List Row):=fun q4=>
 some [[.bool q4]]
 if (decide (((at_ p0 1).vA)≥(-9007199254740992)))=true then
 K3 (decide (((at_ p0 1).vA)≤9007199254740992))
 else
 K3 false
 else
 if (((at_ p0 0).vA)==4)=true then
 let K5:Bool→Option (List Row):=fun q6=>
 some [[.bool q6]]
 if (decide (((at_ p0 1).vA)≥0))=true then
 K5 (decide (((at_ p0 1).vA)≤4194304))
 else
 K5 false
 else
 if (((at_ p0 0).vA)==11)=true then
 let K7:Bool→Option (List Row):=fun q8=>
 some [[.bool q8]]
 if (decide (((at_ p0 1).vA)≥0))=true then
 K7 (decide (((at_ p0 1).vA)≤9007199254740992))
 else
 K7 false
 else
 some [[.bool true]]
theorem aOC (E:Env) (p0:Row):xE E aBf [p0]=aIe E p0:=by kernel_rfl
def vJ:Shape:={slots:=[(0, .d (.one (.sl 89))),(1, .d (.one (.fn 179))),(7, .d lI),(8, .d lI)],objs:=[]}
def wJ:List (mB×Shape):=[(.exit 0,{slots:=[],objs:=[]}),(.ret,{slots:=[(4, .d lI)],objs:=[]})]
def xJ:zB:=(.seq (.region [] [oq 9 (.dA .lss (.t 8) (.t 7))] false 0)
 (.seq (.cond (.t 9) .skip
 (.exit 0))
 (.seq (.block 1 (.seq (.region [] [oq 10 (.mov (.t 8)),
 oq 5 (.mov (.t 10))] false 0)
 (.seq (.region [] [oq 11 (.mov (.t 1)),
 oq 12 (.mov (.t 0)),
 oq 13 (.mov (.t 5)),
 oq 14 (.iad 89 lA2 (.t 12) (.t 13)),
 oq 15 (.ld lA2 89 (.t 14)),
 oq 16 (.callv 179 [lA2] [lB] (.t 11) [(.t 15)])] false 0)
 (.cond (.t 16) (.seq (.region [] [oq 17 (.mov (.t 5)),
 oq 4 (.mov (.t 17))] false 0)
 .ret)
 .skip))))
 (.region [] [oq 18 (.tB .add (.t 8) (.c lI [.int 1])),
 oq 8 (.mov (.t 18))] false 0))))
noncomputable def rF (E:Env) (v0:C) (v1:C) (v2:Int) (v3:Int):Option (Nat×List PV):=E.fix (stepOf E xJ vJ wJ) [.r [v0], .r [v1], .r [.int v2], .r [.int v3]]
noncomputable def sF (E:Env) (X:C→C→Int→Int→Option (Nat×List PV)) (v0:C) (v1:C) (v2:Int) (v3:Int):Option (Nat×List PV):=
 if (decide (v3<v2))=true then
 if (0:Int)≤v3∧v3<(v0.rows.length:Int)then
 (aKj E v1 [aA v0.rows v3.toNat]).bind fun y1=>
 if ((at_ (aA y1 0) 0).lK)=true then
 some (1,[.r [.int v3]])
 else
 X v0 v1 v2 (Go.IntKind.i64.wrap (v3+1))
 else none
 else
 some (0,[])
theorem aDp (E:Env) (X:List PV→Option (Nat×List PV)) (v0:C) (v1:C) (v2:Int) (v3:Int):stepOf E xJ vJ wJ X [.r [v0], .r [v1], .r [.int v2], .r [.int v3]]=sF E (fun (v0:C) (v1:C) (v2:Int) (v3:Int)=>X [.r [v0], .r [v1], .r [.int v2], .r [.int v3]]) v0 v1 v2 v3:=by kernel_rfl
def jG:aD:={ps:=[(.one (.sl 89)),(.one (.fn 179))],rs:=[lI],res:=[(false,4,none)],body:=(.seq (.region [] [oq 4 (.mov (.c lI [.int 0]))] false 0)
 (.seq (.seq (.region [] [oq 6 (.mov (.t 0)),
 oq 7 (.gE (.t 6)),
 oq 8 (.mov (.c lI [.int 0]))] false 0)
 (.block 0 (.loop vJ wJ xJ)))
 (.seq (.region [] [oq 4 (.mov (.c lI [.int (-1)]))] false 0)
 .ret)))}
noncomputable def qN (E:Env) (p0:C) (p1:C):Option (List Row):=
 (rF E p0 p1 (p0.rows.length:Int) 0).bind fun x2=>
 match x2.1 with
 |0=>
 some [[.int (-1)]]
 |i3+1=>
 some [[.int (gI 0 x2.2)]]
theorem aDq (E:Env) (p0:C) (p1:C):xE E jG [[p0],[p1]]=qN E p0 p1:=by kernel_rfl
def aF:aD:={ps:=[(.one (.sl 89)),(.one (.fn 179))],rs:=[lB],res:=[(false,4,none)],body:=(.seq (.region [] [oq 4 (.mov (.c lB [.bool false]))] false 0)
 (.seq (.region [] [oq 5 (.mov (.t 0)),
 oq 6 (.mov (.t 1)),
 oq 7 (.call 127 [(.one (.sl 89)),(.one (.fn 179))] [lI] [(.t 5),(.t 6)]),
 oq 8 (.dA .geq (.t 7) (.c lI [.int 0])),
 oq 4 (.mov (.t 8))] false 0)
 .ret))}
noncomputable def yJ (E:Env) (p0:C) (p1:C):Option (List Row):=
 (E.pc nL [[p0],[p1]]).bind fun y1=>
 some [[.bool (decide (((at_ (aA y1 0) 0).vA)≥0))]]
theorem aBg (E:Env) (p0:C) (p1:C):xE E aF [[p0],[p1]]=yJ E p0 p1:=by kernel_rfl
def u6:aD:={ps:=[lA2,(.one (.ref 89))],rs:=[lB],res:=[(false,3,none)],body:=(.seq (.region [] [oq 2 (.vL lA2 89 (.t 0)),
 oq 3 (.mov (.c lB [.bool false]))] false 0)
 (.seq (.region [] [oq 4 (.xA 0 1 89 9 (.t 2)),
 oq 5 (.ld lS 9 (.t 4)),
 oq 6 (.xA 0 1 89 9 (.t 1)),
 oq 7 (.ld lS 9 (.t 6)),
 oq 8 (.aEK .eql (.t 5) (.t 7)),
 oq 3 (.mov (.t 8))] false 0)
 .ret))}
noncomputable def aF8 (E:Env) (p0:Row) (p1:C):Option (List Row):=
 if p1.jB=true then
 some [[.bool (((at_ p0 0).mD)==((at_ p1.cA 0).mD))]]
 else none
theorem aNk (E:Env) (p0:Row) (p1:C):xE E u6 [p0,[p1]]=aF8 E p0 p1:=by kernel_rfl
def aET:Shape:={slots:=[(0, .d (.one (.sl 89))),(5, .d (.one (.sl 89))),(6, .d lI),(7, .d lI)],objs:=[]}
def aEU:List (mB×Shape):=[(.exit 0,{slots:=[],objs:=[]}),(.ret,{slots:=[(2, .d lI)],objs:=[]})]
def aEV:zB:=(.seq (.region [] [oq 8 (.dA .lss (.t 7) (.t 6))] false 0)
 (.seq (.cond (.t 8) .skip
 (.exit 0))
 (.seq (.block 1 (.seq (.region [] [oq 9 (.mov (.t 7)),
 oq 10 (.iad 89 lA2 (.t 5) (.t 7)),
 oq 11 (.ld lA2 89 (.t 10)),
 oq 4 (.oB 0 lA2 [.str [], .int 0, .int 0, .str [], .fA]),
 oq 3 (.mov (.t 9)),
 ⟨none, .st lA2 (.t 4) (.t 11),none,[]⟩] false 1)
 (.seq (.seq (.region [] [oq 12 (.xA 0 1 89 9 (.t 4)),
 oq 13 (.ld lS 9 (.t 12)),
 oq 14 (.call 39 [lS] [lB] [(.t 13)]),
 oq 15 (.not (.t 14))] false 0)
 (.cond (.t 15) (.seq (.region [] [oq 2 (.mov (.c lI [.int 15]))] false 0)
 .ret)
 .skip))
 (.seq (.region [(4,89,some lA2)] [oq 16 (.mov (.t 0)),
 oq 17 (.mov (.t 3)),
 oq 18 (.slc 89 lA2 (.t 16) none (some (.t 17))),
 oq 19 (.mkf 120 179 [.ref 89] [(.t 4)]),
 oq 20 (.call 119 [(.one (.sl 89)),(.one (.fn 179))] [lB] [(.t 18),(.t 19)])] false 0)
 (.cond (.t 20) (.seq (.region [] [oq 2 (.mov (.c lI [.int 5]))] false 0)
 .ret)
 .skip)))))
 (.region [] [oq 21 (.tB .add (.t 7) (.c lI [.int 1])),
 oq 7 (.mov (.t 21))] false 0))))
noncomputable def aBh (E:Env) (v0:C) (v1:C) (v2:Int) (v3:Int):Option (Nat×List PV):=E.fix (stepOf E aEV aET aEU) [.r [v0], .r [v1], .r [.int v2], .r [.int v3]]
noncomputable def aBi (E:Env) (X:C→C→Int→Int→Option (Nat×List PV)) (v0:C) (v1:C) (v2:Int) (v3:Int):Option (Nat×List PV):=
 if (decide (v3<v2))=true then
 if (0:Int)≤v3∧v3<(v1.rows.length:Int)then
 (E.pc rH [[.str ((at_ (aA v1.rows v3.toNat) 0).mD)]]).bind fun y1=>
 if (!((at_ (aA y1 0) 0).lK))=true then
 some (1,[.r [.int 15]])
 else
 if (0:Int)≤0∧0≤v3∧v3≤(v0.rows.length:Int)then
 (E.pc dI [[aKG v0 0 v3],[.fn oL [.dp (aA v1.rows v3.toNat)]]]).bind fun y2=>
 if ((at_ (aA y2 0) 0).lK)=true then
 some (1,[.r [.int 5]])
 else
 X v0 v1 v2 (Go.IntKind.i64.wrap (v3+1))
 else none
 else none
 else
 some (0,[])
theorem aP1 (E:Env) (X:List PV→Option (Nat×List PV)) (v0:C) (v1:C) (v2:Int) (v3:Int):stepOf E aEV aET aEU X [.r [v0], .r [v1], .r [.int v2], .r [.int v3]]=aBi E (fun (v0:C) (v1:C) (v2:Int) (v3:Int)=>X [.r [v0], .r [v1], .r [.int v2], .r [.int v3]]) v0 v1 v2 v3:=by kernel_rfl
def aC1:aD:={ps:=[(.one (.sl 89))],rs:=[lI],res:=[(false,2,none)],body:=(.seq (.region [] [oq 2 (.mov (.c lI [.int 0]))] false 0)
 (.seq (.seq (.region [] [oq 5 (.mov (.t 0)),
 oq 6 (.gE (.t 5)),
 oq 7 (.mov (.c lI [.int 0]))] false 0)
 (.block 0 (.loop aET aEU aEV)))
 (.seq (.region [] [oq 2 (.mov (.c lI [.int 0]))] false 0)
 .ret)))}
noncomputable def aJr (E:Env) (p0:C):Option (List Row):=
 (aBh E p0 p0 (p0.rows.length:Int) 0).bind fun x3=>
 match x3.1 with
 |0=>
 some [[.int 0]]
 |i4+1=>
 some [[.int (gI 0 x3.2)]]
theorem aP2 (E:Env) (p0:C):xE E aC1 [[p0]]=aJr E p0:=by kernel_rfl
def aF9:Shape:={slots:=[(1, .d (.one (.ref 25))),(6, .d (.one (.sl 89))),(7, .d lI),(8, .d lI)],objs:=[]}
def aGa:List (mB×Shape):=[(.exit 0,{slots:=[],objs:=[]}),(.ret,{slots:=[(2, .d lI)],objs:=[]})]
def aGb:zB:=(.seq (.region [] [oq 9 (.dA .lss (.t 8) (.t 7))] false 0)
 (.seq (.cond (.t 9) .skip
 (.exit 0))
 (.seq (.join [(.normal,{slots:=[(1, .d (.one (.ref 25))),(6, .d (.one (.sl 89))),(7, .d lI),(8, .d lI)],objs:=[]}),(.ret,{slots:=[(2, .d lI)],objs:=[]})] (.block 1 (.seq (.region [] [oq 10 (.mov (.t 8)),
 oq 11 (.iad 89 lA2 (.t 6) (.t 8)),
 oq 12 (.ld lA2 89 (.t 11)),
 oq 4 (.oB 0 lA2 [.str [], .int 0, .int 0, .str [], .fA]),
 oq 3 (.mov (.t 10)),
 ⟨none, .st lA2 (.t 4) (.t 12),none,[]⟩] false 1)
 (.block 2 (.seq (.join [(.normal,{slots:=[(1, .d (.one (.ref 25))),(3, .d lI),(4, .ptr 0 0),(6, .d (.one (.sl 89))),(7, .d lI),(8, .d lI),(13, .d lB)],objs:=[.var lA2]})] (.region [] [oq 14 (.xA 0 1 25 3 (.t 1)),
 oq 15 (.ld lI 3 (.t 14)),
 oq 16 (.dA .eql (.t 15) (.c lI [.int 8])),
 oq 17 (.mov (.t 16)),
 ⟨some 18, .xA 0 1 89 9 (.t 4),some (17,true),[]⟩,
 ⟨some 19, .ld lS 9 (.t 18),some (17,true),[]⟩,
 ⟨some 20, .aEK .neq (.t 19) (.c lS [.str ([]:List UInt8)]),some (17,true),[]⟩,
 oq 21 (.pick (.t 17) (.t 20) (.c lB [.bool false])),
 oq 13 (.mov (.t 21))] false 0))
 (.cond (.t 13) (.seq (.region [] [oq 2 (.mov (.c lI [.int 3]))] false 0)
 .ret)
 (.seq (.region [] [oq 23 (.xA 0 1 25 3 (.t 1)),
 oq 24 (.ld lI 3 (.t 23)),
 oq 25 (.dA .eql (.t 24) (.c lI [.int 8])),
 oq 22 (.mov (.t 25))] false 0)
 (.cond (.t 22) .skip
 (.seq (.region [] [oq 27 (.xA 0 1 89 9 (.t 4)),
 oq 28 (.ld lS 9 (.t 27)),
 oq 29 (.aB3 (.t 28)),
 oq 30 (.dA .gtr (.t 29) (.c lI [.int 4000])),
 oq 26 (.mov (.t 30))] false 0)
 (.cond (.t 26) (.seq (.region [] [oq 2 (.mov (.c lI [.int 2]))] false 0)
 .ret)
 (.seq (.region [] [oq 32 (.mov (.t 3)),
 ⟨some 33, .dA .gtr (.t 32) (.c lI [.int 0]),none,[0]⟩,
 ⟨some 34, .mov (.t 33),none,[0,1]⟩,
 ⟨some 35, .xA 0 1 89 9 (.t 4),some (34,true),[0,1,2]⟩,
 ⟨some 36, .ld lS 9 (.t 35),some (34,true),[0,1,2,3]⟩,
 ⟨some 37, .xA 3 1 25 23 (.t 1),some (34,true),[0,1,2]⟩,
 ⟨some 38, .ld (.one (.sl 89)) 23 (.t 37),some (34,true),[0,1,2,5]⟩,
 ⟨some 39, .mov (.t 3),some (34,true),[0,1,2]⟩,
 ⟨some 40, .tB .sub (.t 39) (.c lI [.int 1]),some (34,true),[0,1,2,7]⟩,
 ⟨some 41, .iad 89 lA2 (.t 38) (.t 40),some (34,true),[0,1,2,5,6,7,8]⟩,
 ⟨some 42, .xA 0 1 89 9 (.t 41),some (34,true),[0,1,2,5,6,7,8,9]⟩,
 ⟨some 43, .ld lS 9 (.t 42),some (34,true),[0,1,2,5,6,7,8,9,10]⟩,
 ⟨some 44, .aEK .leq (.t 36) (.t 43),some (34,true),[0,1,2,3,4,5,6,7,8,9,10,11]⟩,
 ⟨some 45, .pick (.t 34) (.t 44) (.c lB [.bool false]),none,[0,1,2,3,4,5,6,7,8,9,10,11,12]⟩,
 ⟨some 31, .mov (.t 45),none,[0,1,2,3,4,5,6,7,8,9,10,11,12,13]⟩] true 0)
 (.cond (.t 31) (.seq (.region [] [oq 2 (.mov (.c lI [.int 9]))] false 0)
 .ret)
 .skip))))))))))))
 (.region [] [oq 46 (.tB .add (.t 8) (.c lI [.int 1])),
 oq 8 (.mov (.t 46))] false 0))))
noncomputable def aC2 (E:Env) (v0:C) (v1:C) (v2:Int) (v3:Int):Option (Nat×List PV):=E.fix (stepOf E aGb aF9 aGa) [.r [v0], .r [v1], .r [.int v2], .r [.int v3]]
noncomputable def aC3 (E:Env) (X:C→C→Int→Int→Option (Nat×List PV)) (v0:C) (v1:C) (v2:Int) (v3:Int):Option (Nat×List PV):=
 if (decide (v3<v2))=true then
 (if (0:Int)≤v3∧v3<(v1.rows.length:Int)then
 (if v0.jB=true then
 let K1:Bool→Option (Nat×List PV):=fun q2=>
 some (0,[.r [v0], .r [.int v3], .r [v1], .r [.int v2], .r [.int v3], .r [.bool q2], .r (aA v1.rows v3.toNat)])
 if (((at_ v0.cA 0).vA)==8)=true then
 K1 (!(((at_ (aA v1.rows v3.toNat) 0).mD)==([]:List UInt8)))
 else
 K1 false
 else none).bind fun x3=>
 if (gB 5 x3.2)=true then
 some (1,[.r [.int 3]])
 else
 if (gC 0 x3.2).jB=true then
 if (((at_ ((gC 0 x3.2).cA) 0).vA)==8)=true then
 some (0,[.r [gC 0 x3.2], .r [gC 2 x3.2], .r [.int (gI 3 x3.2)], .r [.int (gI 4 x3.2)]])
 else
 if (decide (((gS 6 x3.2).length:Int)>4000))=true then
 some (1,[.r [.int 2]])
 else
 let K4:Bool→Option (Nat×List PV):=fun q5=>
 if q5=true then
 some (1,[.r [.int 9]])
 else
 some (0,[.r [gC 0 x3.2], .r [gC 2 x3.2], .r [.int (gI 3 x3.2)], .r [.int (gI 4 x3.2)]])
 if (decide ((gI 1 x3.2)>0))=true then
 if (gC 0 x3.2).jB=true then
 if (0:Int)≤(Go.IntKind.i64.wrap ((gI 1 x3.2) - 1))∧(Go.IntKind.i64.wrap ((gI 1 x3.2) - 1))<(((at_ ((gC 0 x3.2).cA) 3).rows).length:Int)then
 K4 (Go.Op.bytesLess (gS 6 x3.2) ((at_ (aA ((at_ ((gC 0 x3.2).cA) 3).rows) ((Go.IntKind.i64.wrap ((gI 1 x3.2) - 1)).toNat)) 0).mD)||(gS 6 x3.2)==((at_ (aA ((at_ ((gC 0 x3.2).cA) 3).rows) ((Go.IntKind.i64.wrap ((gI 1 x3.2) - 1)).toNat)) 0).mD))
 else none
 else none
 else
 K4 false
 else none
 else none).bind fun x6=>
 match x6.1 with
 |0=>
 X (gC 0 x6.2) (gC 1 x6.2) (gI 2 x6.2) (Go.IntKind.i64.wrap ((gI 3 x6.2)+1))
 |i7+1=>
 some (1,[.r [.int (gI 0 x6.2)]])
 else
 some (0,[])
theorem aQW (E:Env) (X:List PV→Option (Nat×List PV)) (v0:C) (v1:C) (v2:Int) (v3:Int):stepOf E aGb aF9 aGa X [.r [v0], .r [v1], .r [.int v2], .r [.int v3]]=aC3 E (fun (v0:C) (v1:C) (v2:Int) (v3:Int)=>X [.r [v0], .r [v1], .r [.int v2], .r [.int v3]]) v0 v1 v2 v3:=by kernel_rfl
def aEi:aD:={ps:=[lH],rs:=[lI],res:=[(false,2,none)],body:=(.seq (.region [] [oq 1 (.vL lH 25 (.t 0)),
 oq 2 (.mov (.c lI [.int 0]))] false 0)
 (.seq (.seq (.region [] [oq 5 (.xA 3 1 25 23 (.t 1)),
 oq 6 (.ld (.one (.sl 89)) 23 (.t 5)),
 oq 7 (.gE (.t 6)),
 oq 8 (.mov (.c lI [.int 0]))] false 0)
 (.block 0 (.loop aF9 aGa aGb)))
 (.seq (.region [] [oq 2 (.mov (.c lI [.int 0]))] false 0)
 .ret)))}
noncomputable def aK1 (E:Env) (p0:Row):Option (List Row):=
 (aC2 E (.dp p0) (at_ p0 3) (((at_ p0 3).rows).length:Int) 0).bind fun x8=>
 match x8.1 with
 |0=>
 some [[.int 0]]
 |i9+1=>
 some [[.int (gI 0 x8.2)]]
theorem aQX (E:Env) (p0:Row):xE E aEi [p0]=aK1 E p0:=by kernel_rfl
def aBj:aD:={ps:=[lH],rs:=[lI],res:=[(false,2,none)],body:=(.seq (.region [] [oq 1 (.vL lH 25 (.t 0)),
 oq 2 (.mov (.c lI [.int 0]))] false 0)
 (.seq (.seq (.region [] [oq 3 (.xA 0 1 25 3 (.t 1)),
 oq 4 (.ld lI 3 (.t 3))] false 0)
 (.block 0 (.seq (.region [] [oq 6 (.dA .eql (.t 4) (.c lI [.int 5])),
 oq 5 (.mov (.t 6))] false 0)
 (.cond (.t 5) (.seq (.region [] [oq 7 (.xA 2 1 25 9 (.t 1)),
 oq 8 (.ld lS 9 (.t 7)),
 oq 9 (.aB3 (.t 8)),
 oq 10 (.dA .gtr (.t 9) (.c lI [.int 4000]))] false 0)
 (.cond (.t 10) (.seq (.region [] [oq 2 (.mov (.c lI [.int 2]))] false 0)
 .ret)
 .skip))
 (.seq (.region [] [oq 12 (.dA .eql (.t 4) (.c lI [.int 6])),
 oq 11 (.mov (.t 12))] false 0)
 (.cond (.t 11) (.seq (.seq (.region [] [oq 13 (.xA 3 1 25 23 (.t 1)),
 oq 14 (.ld (.one (.sl 89)) 23 (.t 13)),
 oq 15 (.gE (.t 14)),
 oq 16 (.dA .gtr (.t 15) (.c lI [.int 24]))] false 0)
 (.cond (.t 16) (.seq (.region [] [oq 2 (.mov (.c lI [.int 2]))] false 0)
 .ret)
 .skip))
 (.seq (.region [] [oq 17 (.xA 3 1 25 23 (.t 1)),
 oq 18 (.ld (.one (.sl 89)) 23 (.t 17)),
 oq 19 (.call 102 [(.one (.sl 89))] [lI] [(.t 18)]),
 oq 2 (.mov (.t 19))] false 0)
 .ret))
 (.seq (.region [] [oq 21 (.dA .eql (.t 4) (.c lI [.int 7])),
 oq 20 (.mov (.t 21))] false 0)
 (.cond (.t 20) (.seq (.seq (.region [] [oq 22 (.xA 3 1 25 23 (.t 1)),
 oq 23 (.ld (.one (.sl 89)) 23 (.t 22)),
 oq 24 (.gE (.t 23)),
 oq 25 (.dA .neq (.t 24) (.c lI [.int 1]))] false 0)
 (.cond (.t 25) (.seq (.region [] [oq 2 (.mov (.c lI [.int 3]))] false 0)
 .ret)
 .skip))
 (.seq (.region [] [oq 26 (.xA 3 1 25 23 (.t 1)),
 oq 27 (.ld (.one (.sl 89)) 23 (.t 26)),
 oq 28 (.call 102 [(.one (.sl 89))] [lI] [(.t 27)]),
 oq 2 (.mov (.t 28))] false 0)
 .ret))
 (.seq (.seq (.region [] [oq 30 (.dA .eql (.t 4) (.c lI [.int 8])),
 oq 29 (.mov (.t 30))] false 0)
 (.cond (.t 29) .skip
 (.region [] [oq 31 (.dA .eql (.t 4) (.c lI [.int 9])),
 oq 29 (.mov (.t 31))] false 0)))
 (.cond (.t 29) (.seq (.seq (.region [] [oq 32 (.xA 3 1 25 23 (.t 1)),
 oq 33 (.ld (.one (.sl 89)) 23 (.t 32)),
 oq 34 (.gE (.t 33)),
 oq 35 (.dA .gtr (.t 34) (.c lI [.int 200]))] false 0)
 (.cond (.t 35) (.seq (.region [] [oq 2 (.mov (.c lI [.int 2]))] false 0)
 .ret)
 .skip))
 (.seq (.region [] [oq 36 (.ld lH 25 (.t 1)),
 oq 37 (.call 103 [lH] [lI] [(.t 36)]),
 oq 2 (.mov (.t 37))] false 0)
 .ret))
 .skip))))))))))
 (.seq (.region [] [oq 2 (.mov (.c lI [.int 0]))] false 0)
 .ret)))}
noncomputable def aIf (E:Env) (p0:Row):Option (List Row):=
 if (((at_ p0 0).vA)==5)=true then
 if (decide ((((at_ p0 2).mD).length:Int)>4000))=true then
 some [[.int 2]]
 else
 some [[.int 0]]
 else
 if (((at_ p0 0).vA)==6)=true then
 if (decide ((((at_ p0 3).rows).length:Int)>24))=true then
 some [[.int 2]]
 else
 (E.pc j0 [[at_ p0 3]]).bind fun y1=>
 some [[.int ((at_ (aA y1 0) 0).vA)]]
 else
 if (((at_ p0 0).vA)==7)=true then
 if ((((at_ p0 3).rows).length:Int) !=1)=true then
 some [[.int 3]]
 else
 (E.pc j0 [[at_ p0 3]]).bind fun y2=>
 some [[.int ((at_ (aA y2 0) 0).vA)]]
 else
 if (((at_ p0 0).vA)==8)=true then
 if (((at_ p0 0).vA)==8)=true then
 if (decide ((((at_ p0 3).rows).length:Int)>200))=true then
 some [[.int 2]]
 else
 (E.pc aBk [p0]).bind fun y3=>
 some [[.int ((at_ (aA y3 0) 0).vA)]]
 else
 some [[.int 0]]
 else
 if (((at_ p0 0).vA)==9)=true then
 if (decide ((((at_ p0 3).rows).length:Int)>200))=true then
 some [[.int 2]]
 else
 (E.pc aBk [p0]).bind fun y4=>
 some [[.int ((at_ (aA y4 0) 0).vA)]]
 else
 some [[.int 0]]
theorem aOD (E:Env) (p0:Row):xE E aBj [p0]=aIf E p0:=by kernel_rfl
end Go.Ev
