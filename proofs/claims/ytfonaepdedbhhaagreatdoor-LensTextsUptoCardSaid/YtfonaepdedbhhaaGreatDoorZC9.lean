/-
  A part of the proof: what the functions of the program compute.
-/
import Derived.Test.YtfonaepdedbhhaaGreatDoorZNum
set_option linter.all false
set_option maxRecDepth 100000
namespace Go.Ev
def aU:Shape:={slots:=[(1, .d (.one (.ref 25))),(4, .d lS),(6, .sw 0),(48, .d (.one (.sl 89))),(49, .d lI),(50, .d lI)],objs:=[.uA 9 lS]}
def bU:List (mB×Shape):=[(.exit 1,{slots:=[(4, .d lS),(6, .sw 0)],objs:=[.uA 9 lS]})]
def cU:zB:=(.seq (.region [] [oq 51 (.dA .lss (.t 50) (.t 49))] false 0)
 (.seq (.cond (.t 51) .skip
 (.exit 1))
 (.seq (.block 2 (.seq (.region [] [oq 52 (.iad 89 lA2 (.t 48) (.t 50)),
 oq 53 (.ld lA2 89 (.t 52)),
 oq 8 (.oB 0 lA2 [.str [], .int 0, .int 0, .str [], .fA]),
 ⟨none, .st lA2 (.t 8) (.t 53),none,[]⟩] false 1)
 (.seq (.seq (.region [] [oq 54 (.xA 0 1 25 3 (.t 1)),
 oq 55 (.ld lI 3 (.t 54))] false 0)
 (.join [(.normal,{slots:=[(1, .d (.one (.ref 25))),(4, .d lS),(6, .sw 0),(8, .ptr 1 0),(48, .d (.one (.sl 89))),(49, .d lI),(50, .d lI)],objs:=[.uA 9 lS, .var lA2]})] (.block 3 (.seq (.region [] [oq 62 (.dA .eql (.t 55) (.c lI [.int 9])),
 oq 61 (.mov (.t 62))] false 0)
 (.cond (.t 61) (.region [] [oq 63 (.mov (.t 6)),
 oq 64 (.xA 0 1 89 9 (.t 8)),
 oq 65 (.ld lS 9 (.t 64)),
 oq 66 (.call 30 [lS] [lS] [(.t 65)]),
 oq 67 (.bsl 9 lS 1 [.str []] [(0,(.t 66))]),
 oq 68 (.eU 0 9 lS 16 (.t 63) (.t 67)),
 oq 6 (.mov (.t 68))] false 1)
 (.seq (.region [] [oq 70 (.dA .eql (.t 55) (.c lI [.int 8])),
 oq 69 (.mov (.t 70))] false 0)
 (.cond (.t 69) .skip
 (.region [] [oq 56 (.mov (.t 6)),
 oq 57 (.xA 0 1 89 9 (.t 8)),
 oq 58 (.ld lS 9 (.t 57)),
 oq 59 (.bsl 9 lS 1 [.str []] [(0,(.t 58))]),
 oq 60 (.eU 0 9 lS 16 (.t 56) (.t 59)),
 oq 6 (.mov (.t 60))] false 1))))))))
 (.region [] [oq 71 (.mov (.t 6)),
 oq 72 (.xA 1 4 89 25 (.t 8)),
 oq 73 (.ld lH 25 (.t 72)),
 oq 74 (.call 32 [lH] [(.one (.sl 9))] [(.t 73)]),
 oq 75 (.eU 0 9 lS 16 (.t 71) (.t 74)),
 oq 6 (.mov (.t 75))] false 1))))
 (.region [] [oq 76 (.tB .add (.t 50) (.c lI [.int 1])),
 oq 50 (.mov (.t 76))] false 0))))
noncomputable def aN (E:Env) (v0:C) (v1:List UInt8) (v2:C) (v3:Int) (v4:Int) (v5:C):Option (Nat×List PV):=E.fix (stepOf E cU aU bU) [.r [v0], .r [.str v1], .r [v2], .r [.int v3], .r [.int v4], .r [v5]]
noncomputable def bN (E:Env) (X:C→List UInt8→C→Int→Int→C→Option (Nat×List PV)) (v0:C) (v1:List UInt8) (v2:C) (v3:Int) (v4:Int) (v5:C):Option (Nat×List PV):=
 if (decide (v4<v3))=true then
 if (0:Int)≤v4∧v4<(v2.rows.length:Int)then
 if v0.jB=true then
 (if (((at_ v0.cA 0).vA)==9)=true then
 (E.pc zP [[.str ((at_ (aA v2.rows v4.toNat) 0).mD)]]).bind fun y6=>
 if (v5.rows.length+([[.str ((at_ (aA y6 0) 0).mD)]]:List Row).length)*16≤140737488355328 then
 some (0,[.r [v0], .r [.str v1], .r [v2], .r [.int v3], .r [.int v4], .r [pE v5 ([[.str ((at_ (aA y6 0) 0).mD)]]:List Row)], .r (aA v2.rows v4.toNat)])
 else none
 else
 if (((at_ v0.cA 0).vA)==8)=true then
 some (0,[.r [v0], .r [.str v1], .r [v2], .r [.int v3], .r [.int v4], .r [v5], .r (aA v2.rows v4.toNat)])
 else
 if (v5.rows.length+([[.str ((at_ (aA v2.rows v4.toNat) 0).mD)]]:List Row).length)*16≤140737488355328 then
 some (0,[.r [v0], .r [.str v1], .r [v2], .r [.int v3], .r [.int v4], .r [pE v5 ([[.str ((at_ (aA v2.rows v4.toNat) 0).mD)]]:List Row)], .r (aA v2.rows v4.toNat)])
 else none).bind fun x7=>
 (E.pc qB [[at_ (gR 6 x7.2) 1,at_ (gR 6 x7.2) 2,at_ (gR 6 x7.2) 3,at_ (gR 6 x7.2) 4]]).bind fun y8=>
 if (((gC 5 x7.2).rows).length+((at_ (aA y8 0) 0).rows).length)*16≤140737488355328 then
 X (gC 0 x7.2) (gS 1 x7.2) (gC 2 x7.2) (gI 3 x7.2) (Go.IntKind.i64.wrap ((gI 4 x7.2)+1)) (pE (gC 5 x7.2) ((at_ (aA y8 0) 0).rows))
 else none
 else none
 else none
 else
 some (0,[.r [.str v1], .r [v5]])
theorem aIx (E:Env) (X:List PV→Option (Nat×List PV)) (v0:C) (v1:List UInt8) (v2:C) (v3:Int) (v4:Int) (v5:C):stepOf E cU aU bU X [.r [v0], .r [.str v1], .r [v2], .r [.int v3], .r [.int v4], .r [v5]]=bN E (fun (v0:C) (v1:List UInt8) (v2:C) (v3:Int) (v4:Int) (v5:C)=>X [.r [v0], .r [.str v1], .r [v2], .r [.int v3], .r [.int v4], .r [v5]]) v0 v1 v2 v3 v4 v5:=by kernel_rfl
def mO:aD:={ps:=[lH],rs:=[(.one (.sl 9))],res:=[(false,2,(some lS))],body:=(.seq (.region [] [oq 1 (.vL lH 25 (.t 0)),
 oq 2 (.mov (.c (.one (.sl 9)) [.fA]))] false 0)
 (.seq (.region [] [oq 9 (.call 45 [lS] [(.one (.sl 9))] [(.c lS [.str ([117,110,105,116,32,98,111,111,108,32,105,110,116,32,102,108,111,97,116,32,100,97,121,32,116,101,120,116,32,114,101,99,111,114,100,32,99,104,111,105,99,101,32,108,105,115,116,32,109,97,112,32,110,97,109,101,100,32,109,97,114,107]:List UInt8)])]),
 oq 3 (.mov (.t 9))] false 0)
 (.seq (.region [] [oq 10 (.mov (.t 3)),
 oq 11 (.xA 0 1 25 3 (.t 1)),
 oq 12 (.ld lI 3 (.t 11)),
 oq 13 (.iad 9 lS (.t 10) (.t 12)),
 oq 14 (.ld lS 9 (.t 13)),
 oq 4 (.mov (.t 14))] false 0)
 (.seq (.seq (.region [] [oq 15 (.xA 0 1 25 3 (.t 1)),
 oq 16 (.ld lI 3 (.t 15))] false 0)
 (.join [(.normal,{slots:=[(1, .d (.one (.ref 25))),(4, .d lS)],objs:=[]}),(.ret,{slots:=[(2, .d (.one (.sl 9)))],objs:=[]})] (.block 0 (.seq (.region [] [oq 18 (.dA .eql (.t 16) (.c lI [.int 0])),
 oq 17 (.mov (.t 18))] false 0)
 (.cond (.t 17) (.seq (.region [] [oq 19 (.mov (.t 4)),
 oq 20 (.bsl 9 lS 1 [.str []] [(0,(.t 19))]),
 oq 2 (.mov (.t 20))] false 0)
 .ret)
 (.seq (.region [] [oq 22 (.dA .eql (.t 16) (.c lI [.int 3])),
 oq 21 (.mov (.t 22))] false 0)
 (.cond (.t 21) (.seq (.region [] [oq 23 (.xA 1 1 25 3 (.t 1)),
 oq 24 (.ld lI 3 (.t 23)),
 oq 25 (.i2i .u64 (.t 24)),
 oq 26 (.call 50 [lW,lI] [lS] [(.t 25),(.c lI [.int 16])]),
 oq 5 (.mov (.t 26))] false 0)
 (.seq (.region [] [oq 27 (.mov (.t 4)),
 oq 28 (.mov (.t 5)),
 oq 29 (.aB3 (.t 28)),
 oq 30 (.tB .sub (.c lI [.int 16]) (.t 29)),
 oq 31 (.call 51 [lS,lI] [lS] [(.c lS [.str ([48]:List UInt8)]),(.t 30)]),
 oq 32 (.mov (.t 5)),
 oq 33 (.aU0 (.t 31) (.t 32)),
 oq 34 (.bsl 9 lS 2 [.str []] [(0,(.t 27)),(1,(.t 33))]),
 oq 2 (.mov (.t 34))] false 0)
 .ret))
 (.seq (.region [] [oq 36 (.dA .eql (.t 16) (.c lI [.int 5])),
 oq 35 (.mov (.t 36))] false 0)
 (.cond (.t 35) (.seq (.region [] [oq 37 (.mov (.t 4)),
 oq 38 (.xA 2 1 25 9 (.t 1)),
 oq 39 (.ld lS 9 (.t 38)),
 oq 40 (.call 30 [lS] [lS] [(.t 39)]),
 oq 41 (.bsl 9 lS 2 [.str []] [(0,(.t 37)),(1,(.t 40))]),
 oq 2 (.mov (.t 41))] false 0)
 .ret)
 (.seq (.seq (.region [] [oq 43 (.dA .eql (.t 16) (.c lI [.int 6])),
 oq 42 (.mov (.t 43))] false 0)
 (.join [(.normal,{slots:=[(1, .d (.one (.ref 25))),(4, .d lS),(42, .d lB)],objs:=[]})] (.cond (.t 42) .skip
 (.seq (.region [] [oq 44 (.dA .eql (.t 16) (.c lI [.int 7])),
 oq 42 (.mov (.t 44))] false 0)
 (.cond (.t 42) .skip
 (.seq (.region [] [oq 45 (.dA .eql (.t 16) (.c lI [.int 8])),
 oq 42 (.mov (.t 45))] false 0)
 (.cond (.t 42) .skip
 (.region [] [oq 46 (.dA .eql (.t 16) (.c lI [.int 9])),
 oq 42 (.mov (.t 46))] false 0))))))))
 (.cond (.t 42) (.seq (.region [] [oq 6 (.aQC 0 9 lS)] false 1)
 (.seq (.seq (.region [] [oq 47 (.xA 3 1 25 23 (.t 1)),
 oq 48 (.ld (.one (.sl 89)) 23 (.t 47)),
 oq 49 (.gE (.t 48)),
 oq 50 (.mov (.c lI [.int 0]))] false 0)
 (.block 1 (.loop aU bU cU)))
 (.seq (.region [] [oq 77 (.mov (.t 4)),
 oq 78 (.bslS 0 9 lS 1 [.str []] [(0,(.t 77))]),
 oq 79 (.mov (.t 6)),
 oq 80 (.call 31 [(.one (.sl 9))] [(.one (.sl 9))] [(.t 79)]),
 oq 81 (.eU 1 9 lS 16 (.t 78) (.t 80)),
 oq 2 (.mov (.t 81))] false 2)
 .ret)))
 .skip)))))))))))
 (.seq (.region [] [oq 82 (.mov (.t 4)),
 oq 83 (.xA 1 1 25 3 (.t 1)),
 oq 84 (.ld lI 3 (.t 83)),
 oq 85 (.call 20 [lI] [lS] [(.t 84)]),
 oq 86 (.bsl 9 lS 2 [.str []] [(0,(.t 82)),(1,(.t 85))]),
 oq 2 (.mov (.t 86))] false 0)
 .ret)))))}
noncomputable def pZ (E:Env) (p0:Row):Option (List Row):=
 (E.pc hY [[.str ([117,110,105,116,32,98,111,111,108,32,105,110,116,32,102,108,111,97,116,32,100,97,121,32,116,101,120,116,32,114,101,99,111,114,100,32,99,104,111,105,99,101,32,108,105,115,116,32,109,97,112,32,110,97,109,101,100,32,109,97,114,107]:List UInt8)]]).bind fun y1=>
 if (0:Int)≤((at_ p0 0).vA)∧((at_ p0 0).vA)<(((at_ (aA y1 0) 0).rows).length:Int)then
 (if (((at_ p0 0).vA)==0)=true then
 some (1,[.r [.sl ([[.str ((at_ (aA ((at_ (aA y1 0) 0).rows) (((at_ p0 0).vA).toNat)) 0).mD)]]:List Row)]])
 else
 if (((at_ p0 0).vA)==3)=true then
 (E.pc lX [[.int (Go.IntKind.u64.wrap ((at_ p0 1).vA))],[.int 16]]).bind fun y2=>
 (E.pc aCI [[.str ([48]:List UInt8)],[.int (Go.IntKind.i64.wrap (16 - (((at_ (aA y2 0) 0).mD).length:Int)))]]).bind fun y3=>
 if ((at_ (aA y3 0) 0).mD).length+((at_ (aA y2 0) 0).mD).length≤1099511627776 then
 some (1,[.r [.sl ([[.str ((at_ (aA ((at_ (aA y1 0) 0).rows) (((at_ p0 0).vA).toNat)) 0).mD)],[.str (((at_ (aA y3 0) 0).mD)++((at_ (aA y2 0) 0).mD))]]:List Row)]])
 else none
 else
 if (((at_ p0 0).vA)==5)=true then
 (E.pc zP [[.str ((at_ p0 2).mD)]]).bind fun y4=>
 some (1,[.r [.sl ([[.str ((at_ (aA ((at_ (aA y1 0) 0).rows) (((at_ p0 0).vA).toNat)) 0).mD)],[.str ((at_ (aA y4 0) 0).mD)]]:List Row)]])
 else
 (if (((at_ p0 0).vA)==6)=true then
 some (0,[.r [.dp p0], .r [.str ((at_ (aA ((at_ (aA y1 0) 0).rows) (((at_ p0 0).vA).toNat)) 0).mD)], .r [.bool (((at_ p0 0).vA)==6)]])
 else
 if (((at_ p0 0).vA)==7)=true then
 some (0,[.r [.dp p0], .r [.str ((at_ (aA ((at_ (aA y1 0) 0).rows) (((at_ p0 0).vA).toNat)) 0).mD)], .r [.bool (((at_ p0 0).vA)==7)]])
 else
 if (((at_ p0 0).vA)==8)=true then
 some (0,[.r [.dp p0], .r [.str ((at_ (aA ((at_ (aA y1 0) 0).rows) (((at_ p0 0).vA).toNat)) 0).mD)], .r [.bool (((at_ p0 0).vA)==8)]])
 else
 some (0,[.r [.dp p0], .r [.str ((at_ (aA ((at_ (aA y1 0) 0).rows) (((at_ p0 0).vA).toNat)) 0).mD)], .r [.bool (((at_ p0 0).vA)==9)]])).bind fun x5=>
 if (gB 2 x5.2)=true then
 if (gC 0 x5.2).jB=true then
 (aN E (gC 0 x5.2) (gS 1 x5.2) (at_ ((gC 0 x5.2).cA) 3) (((at_ ((gC 0 x5.2).cA) 3).rows).length:Int) 0 .fA).bind fun x9=>
 (E.pc iL [[gC 1 x9.2]]).bind fun y10=>
 if (([[.str (gS 0 x9.2)]]:List Row).length+((at_ (aA y10 0) 0).rows).length)*16≤140737488355328 then
 some (1,[.r [pE (.sl ([[.str (gS 0 x9.2)]]:List Row)) ((at_ (aA y10 0) 0).rows)]])
 else none
 else none
 else
 some (0,[.r [gC 0 x5.2], .r [.str (gS 1 x5.2)]])).bind fun eJ=>
 match eJ.1 with
 |0=>
 if (gC 0 eJ.2).jB=true then
 (E.pc qD [[.int ((at_ ((gC 0 eJ.2).cA) 1).vA)]]).bind fun pW=>
 some [[.sl ([[.str (gS 1 eJ.2)],[.str ((at_ (aA pW 0) 0).mD)]]:List Row)]]
 else none
 |i12+1=>
 some [[gC 0 eJ.2]]
 else none
theorem aIy (E:Env) (p0:Row):xE E mO [p0]=pZ E p0:=by kernel_rfl
def aBO:Shape:={slots:=[(1, .d (.one (.ref 29))),(4, .d lS),(5, .sw 0),(7, .sw 1),(72, .d (.one (.sl 9))),(73, .d lI),(74, .d lI)],objs:=bS1}
def aBP:List (mB×Shape):=[(.exit 0,{slots:=[(1, .d (.one (.ref 29))),(4, .d lS),(5, .sw 0),(7, .sw 1)],objs:=bS1})]
def aBQ:zB:=(.seq (.region [] [oq 75 (.dA .lss (.t 74) (.t 73))] false 0)
 (.seq (.cond (.t 75) .skip
 (.exit 0))
 (.seq (.block 1 (.seq (.region [] [oq 76 (.iad 9 lS (.t 72) (.t 74)),
 oq 77 (.ld lS 9 (.t 76)),
 oq 9 (.mov (.t 77))] false 0)
 (.seq (.seq (.region [] [oq 78 (.xA 0 1 29 3 (.t 1)),
 oq 79 (.ld lI 3 (.t 78)),
 oq 80 (.dA .eql (.t 79) (.c lI [.int 9]))] false 0)
 (.cond (.t 80) (.region [] [oq 81 (.mov (.t 9)),
 oq 82 (.call 30 [lS] [lS] [(.t 81)]),
 oq 9 (.mov (.t 82))] false 0)
 .skip))
 (.region [] [oq 83 (.mov (.t 7)),
 oq 84 (.mov (.t 9)),
 oq 85 (.bsl 9 lS 1 [.str []] [(0,(.t 84))]),
 oq 86 (.eU 0 9 lS 16 (.t 83) (.t 85)),
 oq 7 (.mov (.t 86))] false 1))))
 (.region [] [oq 87 (.tB .add (.t 74) (.c lI [.int 1])),
 oq 74 (.mov (.t 87))] false 0))))
noncomputable def aQ (E:Env) (v0:C) (v1:List UInt8) (v2:C) (v3:Int) (v4:Int) (v5:C) (v6:C):Option (Nat×List PV):=E.fix (stepOf E aBQ aBO aBP) [.r [v0], .r [.str v1], .r [v2], .r [.int v3], .r [.int v4], .r [v5], .r [v6]]
noncomputable def cW (E:Env) (X:C→List UInt8→C→Int→Int→C→C→Option (Nat×List PV)) (v0:C) (v1:List UInt8) (v2:C) (v3:Int) (v4:Int) (v5:C) (v6:C):Option (Nat×List PV):=
 if (decide (v4<v3))=true then
 if (0:Int)≤v4∧v4<(v2.rows.length:Int)then
 if v0.jB=true then
 if (((at_ v0.cA 0).vA)==9)=true then
 (E.pc zP [[.str ((at_ (aA v2.rows v4.toNat) 0).mD)]]).bind fun y17=>
 if (v6.rows.length+([[.str ((at_ (aA y17 0) 0).mD)]]:List Row).length)*16≤140737488355328 then
 X v0 v1 v2 v3 (Go.IntKind.i64.wrap (v4+1)) v5 (pE v6 ([[.str ((at_ (aA y17 0) 0).mD)]]:List Row))
 else none
 else
 if (v6.rows.length+([[.str ((at_ (aA v2.rows v4.toNat) 0).mD)]]:List Row).length)*16≤140737488355328 then
 X v0 v1 v2 v3 (Go.IntKind.i64.wrap (v4+1)) v5 (pE v6 ([[.str ((at_ (aA v2.rows v4.toNat) 0).mD)]]:List Row))
 else none
 else none
 else none
 else
 some (0,[.r [v0], .r [.str v1], .r [v5], .r [v6]])
theorem aMy (E:Env) (X:List PV→Option (Nat×List PV)) (v0:C) (v1:List UInt8) (v2:C) (v3:Int) (v4:Int) (v5:C) (v6:C):stepOf E aBQ aBO aBP X [.r [v0], .r [.str v1], .r [v2], .r [.int v3], .r [.int v4], .r [v5], .r [v6]]=cW E (fun (v0:C) (v1:List UInt8) (v2:C) (v3:Int) (v4:Int) (v5:C) (v6:C)=>X [.r [v0], .r [.str v1], .r [v2], .r [.int v3], .r [.int v4], .r [v5], .r [v6]]) v0 v1 v2 v3 v4 v5 v6:=by kernel_rfl
def aBR:Shape:={slots:=[(1, .d (.one (.ref 29))),(4, .d lS),(5, .sw 0),(10, .sw 1),(102, .d (.one (.sl 68))),(103, .d lI),(104, .d lI)],objs:=bS1}
def aBS:List (mB×Shape):=[(.exit 2,{slots:=[(1, .d (.one (.ref 29))),(4, .d lS),(5, .sw 0),(10, .sw 1)],objs:=bS1})]
def aBT:zB:=(.seq (.region [] [oq 105 (.dA .lss (.t 104) (.t 103))] false 0)
 (.seq (.cond (.t 105) .skip
 (.exit 2))
 (.seq (.block 3 (.seq (.region [] [oq 106 (.iad 68 lA8 (.t 102) (.t 104)),
 oq 107 (.ld lA8 68 (.t 106)),
 oq 12 (.oB 0 lA8 [.int 0, .int 0, .str [], .fA, .int 0, .int 0, .str [], .fA]),
 ⟨none, .st lA8 (.t 12) (.t 107),none,[]⟩] false 1)
 (.region [] [oq 108 (.mov (.t 10)),
 oq 109 (.qF 2 68 25 lH (.t 12) (.c lI [.int 0])),
 ⟨some 110, .ld lH 25 (.t 109),none,[1]⟩,
 ⟨some 111, .call 32 [lH] [(.one (.sl 9))] [(.t 110)],none,[1,2]⟩,
 ⟨some 112, .eU 0 9 lS 16 (.t 108) (.t 111),none,[0,1,2,3]⟩,
 oq 113 (.qF 2 68 25 lH (.t 12) (.c lI [.int 1])),
 ⟨some 114, .ld lH 25 (.t 113),none,[5]⟩,
 ⟨some 115, .call 32 [lH] [(.one (.sl 9))] [(.t 114)],none,[0,1,2,3,4,5,6]⟩,
 ⟨some 116, .eU 1 9 lS 16 (.t 112) (.t 115),none,[0,1,2,3,4,5,6,7]⟩,
 ⟨some 10, .mov (.t 116),none,[0,1,2,3,4,5,6,7,8]⟩] true 2)))
 (.region [] [oq 117 (.tB .add (.t 104) (.c lI [.int 1])),
 oq 104 (.mov (.t 117))] false 0))))
noncomputable def dW (E:Env) (v0:C) (v1:List UInt8) (v2:C) (v3:Int) (v4:Int) (v5:C) (v6:C):Option (Nat×List PV):=E.fix (stepOf E aBT aBR aBS) [.r [v0], .r [.str v1], .r [v2], .r [.int v3], .r [.int v4], .r [v5], .r [v6]]
noncomputable def eW (E:Env) (X:C→List UInt8→C→Int→Int→C→C→Option (Nat×List PV)) (v0:C) (v1:List UInt8) (v2:C) (v3:Int) (v4:Int) (v5:C) (v6:C):Option (Nat×List PV):=
 if (decide (v4<v3))=true then
 if (0:Int)≤v4∧v4<(v2.rows.length:Int)then
 (E.pc qB [[at_ (aA v2.rows v4.toNat) 0,at_ (aA v2.rows v4.toNat) 1,at_ (aA v2.rows v4.toNat) 2,at_ (aA v2.rows v4.toNat) 3]]).bind fun y25=>
 if (v6.rows.length+((at_ (aA y25 0) 0).rows).length)*16≤140737488355328 then
 (E.pc qB [[at_ (aA v2.rows v4.toNat) 4,at_ (aA v2.rows v4.toNat) 5,at_ (aA v2.rows v4.toNat) 6,at_ (aA v2.rows v4.toNat) 7]]).bind fun y26=>
 if (((pE v6 ((at_ (aA y25 0) 0).rows)).rows).length+((at_ (aA y26 0) 0).rows).length)*16≤140737488355328 then
 X v0 v1 v2 v3 (Go.IntKind.i64.wrap (v4+1)) v5 (pE (pE v6 ((at_ (aA y25 0) 0).rows)) ((at_ (aA y26 0) 0).rows))
 else none
 else none
 else none
 else
 some (0,[.r [v0], .r [.str v1], .r [v5], .r [v6]])
theorem aMz (E:Env) (X:List PV→Option (Nat×List PV)) (v0:C) (v1:List UInt8) (v2:C) (v3:Int) (v4:Int) (v5:C) (v6:C):stepOf E aBT aBR aBS X [.r [v0], .r [.str v1], .r [v2], .r [.int v3], .r [.int v4], .r [v5], .r [v6]]=eW E (fun (v0:C) (v1:List UInt8) (v2:C) (v3:Int) (v4:Int) (v5:C) (v6:C)=>X [.r [v0], .r [.str v1], .r [v2], .r [.int v3], .r [.int v4], .r [v5], .r [v6]]) v0 v1 v2 v3 v4 v5 v6:=by kernel_rfl
def aBU:Shape:={slots:=[(5, .sw 0),(13, .sw 1),(129, .d (.one (.sl 29))),(130, .d lI),(131, .d lI)],objs:=bS1}
def aBV:List (mB×Shape):=[(.exit 4,{slots:=[(5, .sw 0),(13, .sw 1)],objs:=bS1})]
def aBW:zB:=(.seq (.region [] [oq 132 (.dA .lss (.t 131) (.t 130))] false 0)
 (.seq (.cond (.t 132) .skip
 (.exit 4))
 (.seq (.block 5 (.seq (.region [] [oq 133 (.iad 29 fG (.t 129) (.t 131)),
 oq 134 (.ld fG 29 (.t 133)),
 oq 15 (.oB 0 fG [.int 0, .str [], .str [], .fA, .int 0, .int 0, .int 0, .int 0, .int 0, .int 0, .str [], .fA, .fA, .fA]),
 ⟨none, .st fG (.t 15) (.t 134),none,[]⟩] false 1)
 (.region [] [oq 135 (.mov (.t 13)),
 oq 136 (.ld fG 29 (.t 15)),
 oq 137 (.call 13 [fG] [(.one (.sl 9))] [(.t 136)]),
 oq 138 (.eU 0 9 lS 16 (.t 135) (.t 137)),
 oq 13 (.mov (.t 138))] false 1)))
 (.region [] [oq 139 (.tB .add (.t 131) (.c lI [.int 1])),
 oq 131 (.mov (.t 139))] false 0))))
noncomputable def fW (E:Env) (v0:C) (v1:Int) (v2:Int) (v3:C) (v4:C):Option (Nat×List PV):=E.fix (stepOf E aBW aBU aBV) [.r [v0], .r [.int v1], .r [.int v2], .r [v3], .r [v4]]
noncomputable def gW (E:Env) (X:C→Int→Int→C→C→Option (Nat×List PV)) (v0:C) (v1:Int) (v2:Int) (v3:C) (v4:C):Option (Nat×List PV):=
 if (decide (v2<v1))=true then
 if (0:Int)≤v2∧v2<(v0.rows.length:Int)then
 (E.pc rY [aA v0.rows v2.toNat]).bind fun y35=>
 if (v4.rows.length+((at_ (aA y35 0) 0).rows).length)*16≤140737488355328 then
 X v0 v1 (Go.IntKind.i64.wrap (v2+1)) v3 (pE v4 ((at_ (aA y35 0) 0).rows))
 else none
 else none
 else
 some (0,[.r [v3], .r [v4]])
theorem aMA (E:Env) (X:List PV→Option (Nat×List PV)) (v0:C) (v1:Int) (v2:Int) (v3:C) (v4:C):stepOf E aBW aBU aBV X [.r [v0], .r [.int v1], .r [.int v2], .r [v3], .r [v4]]=gW E (fun (v0:C) (v1:Int) (v2:Int) (v3:C) (v4:C)=>X [.r [v0], .r [.int v1], .r [.int v2], .r [v3], .r [v4]]) v0 v1 v2 v3 v4:=by kernel_rfl
def sY:aD:={ps:=[fG],rs:=[(.one (.sl 9))],res:=[(false,2,(some lS))],body:=(.seq (.region [] [oq 1 (.vL fG 29 (.t 0)),
 oq 2 (.mov (.c (.one (.sl 9)) [.fA]))] false 0)
 (.seq (.region [] [oq 17 (.xA 0 1 29 3 (.t 1)),
 oq 18 (.ld lI 3 (.t 17)),
 oq 19 (.call 28 [lI] [lS,lS] [(.t 18)]),
 oq 16 (.mov (.t 19)),
 oq 20 (.ext 0 (.t 16)),
 oq 21 (.ext 1 (.t 16)),
 oq 3 (.mov (.t 20)),
 oq 4 (.mov (.t 21))] false 0)
 (.seq (.region [] [oq 22 (.mov (.t 3)),
 oq 23 (.bslS 0 9 lS 1 [.str []] [(0,(.t 22))]),
 oq 5 (.mov (.t 23))] false 1)
 (.seq (.seq (.region [] [oq 24 (.mov (.t 4)),
 oq 25 (.call 29 [lS,lU] [lB] [(.t 24),(.c lU [.int 110])])] false 0)
 (.join [(.normal,{slots:=[(1, .d (.one (.ref 29))),(4, .d lS),(5, .sw 0)],objs:=[.uA 9 lS]})] (.cond (.t 25) (.seq (.region [] [oq 26 (.xA 1 1 29 9 (.t 1)),
 oq 27 (.ld lS 9 (.t 26)),
 oq 6 (.mov (.t 27))] false 0)
 (.seq (.seq (.region [] [oq 28 (.mov (.t 6)),
 oq 29 (.aEK .eql (.t 28) (.c lS [.str ([]:List UInt8)]))] false 0)
 (.cond (.t 29) (.region [] [oq 6 (.mov (.c lS [.str ([45]:List UInt8)]))] false 0)
 .skip))
 (.region [] [oq 30 (.mov (.t 5)),
 oq 31 (.mov (.t 6)),
 oq 32 (.bsl 9 lS 1 [.str []] [(0,(.t 31))]),
 oq 33 (.eU 0 9 lS 16 (.t 30) (.t 32)),
 oq 5 (.mov (.t 33))] false 1)))
 .skip)))
 (.seq (.seq (.region [] [oq 34 (.mov (.t 4)),
 oq 35 (.call 29 [lS,lU] [lB] [(.t 34),(.c lU [.int 116])])] false 0)
 (.join [(.normal,{slots:=[(1, .d (.one (.ref 29))),(4, .d lS),(5, .sw 0)],objs:=[.uA 9 lS]})] (.cond (.t 35) (.region [] [oq 36 (.mov (.t 5)),
 oq 37 (.xA 2 1 29 9 (.t 1)),
 oq 38 (.ld lS 9 (.t 37)),
 oq 39 (.bsl 9 lS 1 [.str []] [(0,(.t 38))]),
 oq 40 (.eU 0 9 lS 16 (.t 36) (.t 39)),
 oq 5 (.mov (.t 40))] false 1)
 .skip)))
 (.seq (.seq (.region [] [oq 41 (.mov (.t 4)),
 oq 42 (.call 29 [lS,lU] [lB] [(.t 41),(.c lU [.int 105])])] false 0)
 (.join [(.normal,{slots:=[(1, .d (.one (.ref 29))),(4, .d lS),(5, .sw 0)],objs:=[.uA 9 lS]})] (.cond (.t 42) (.region [] [oq 43 (.mov (.t 5)),
 oq 44 (.xA 4 1 29 3 (.t 1)),
 oq 45 (.ld lI 3 (.t 44)),
 oq 46 (.call 20 [lI] [lS] [(.t 45)]),
 oq 47 (.bsl 9 lS 1 [.str []] [(0,(.t 46))]),
 oq 48 (.eU 0 9 lS 16 (.t 43) (.t 47)),
 oq 5 (.mov (.t 48))] false 1)
 .skip)))
 (.seq (.seq (.region [] [oq 49 (.mov (.t 4)),
 oq 50 (.call 29 [lS,lU] [lB] [(.t 49),(.c lU [.int 98])])] false 0)
 (.join [(.normal,{slots:=[(1, .d (.one (.ref 29))),(4, .d lS),(5, .sw 0)],objs:=[.uA 9 lS]})] (.cond (.t 50) (.region [] [oq 51 (.mov (.t 5)),
 oq 52 (.xA 5 1 29 3 (.t 1)),
 ⟨some 53, .ld lI 3 (.t 52),none,[1]⟩,
 ⟨some 54, .call 20 [lI] [lS] [(.t 53)],none,[1,2]⟩,
 oq 55 (.xA 6 1 29 3 (.t 1)),
 ⟨some 56, .ld lI 3 (.t 55),none,[4]⟩,
 ⟨some 57, .call 20 [lI] [lS] [(.t 56)],none,[1,2,3,4,5]⟩,
 ⟨some 58, .bsl 9 lS 2 [.str []] [(0,(.t 54)),(1,(.t 57))],none,[1,2,3,4,5,6]⟩,
 ⟨some 59, .eU 0 9 lS 16 (.t 51) (.t 58),none,[0,1,2,3,4,5,6,7]⟩,
 ⟨some 5, .mov (.t 59),none,[0,1,2,3,4,5,6,7,8]⟩] true 1)
 .skip)))
 (.seq (.seq (.region [] [oq 60 (.mov (.t 4)),
 oq 61 (.call 29 [lS,lU] [lB] [(.t 60),(.c lU [.int 112])])] false 0)
 (.join [(.normal,{slots:=[(1, .d (.one (.ref 29))),(4, .d lS),(5, .sw 0)],objs:=[.uA 9 lS]})] (.cond (.t 61) (.region [] [oq 62 (.mov (.t 5)),
 oq 63 (.xA 7 1 29 5 (.t 1)),
 oq 64 (.ld lU 5 (.t 63)),
 oq 65 (.i2i .i64 (.t 64)),
 oq 66 (.call 20 [lI] [lS] [(.t 65)]),
 oq 67 (.bsl 9 lS 1 [.str []] [(0,(.t 66))]),
 oq 68 (.eU 0 9 lS 16 (.t 62) (.t 67)),
 oq 5 (.mov (.t 68))] false 1)
 .skip)))
 (.seq (.seq (.region [] [oq 69 (.mov (.t 4)),
 oq 70 (.call 29 [lS,lU] [lB] [(.t 69),(.c lU [.int 115])])] false 0)
 (.join [(.normal,{slots:=[(1, .d (.one (.ref 29))),(4, .d lS),(5, .sw 0)],objs:=[.uA 9 lS]})] (.cond (.t 70) (.seq (.region [] [oq 7 (.aQC 0 9 lS)] false 1)
 (.seq (.seq (.region [] [oq 71 (.xA 3 1 29 22 (.t 1)),
 oq 72 (.ld (.one (.sl 9)) 22 (.t 71)),
 oq 73 (.gE (.t 72)),
 oq 74 (.mov (.c lI [.int 0]))] false 0)
 (.block 0 (.loop aBO aBP aBQ)))
 (.region [] [oq 88 (.mov (.t 5)),
 oq 89 (.mov (.t 7)),
 oq 90 (.call 31 [(.one (.sl 9))] [(.one (.sl 9))] [(.t 89)]),
 oq 91 (.eU 0 9 lS 16 (.t 88) (.t 90)),
 oq 5 (.mov (.t 91))] false 1)))
 .skip)))
 (.seq (.seq (.region [] [oq 92 (.mov (.t 4)),
 oq 93 (.call 29 [lS,lU] [lB] [(.t 92),(.c lU [.int 118])])] false 0)
 (.join [(.normal,{slots:=[(1, .d (.one (.ref 29))),(4, .d lS),(5, .sw 0)],objs:=[.uA 9 lS]})] (.cond (.t 93) (.region [] [oq 94 (.mov (.t 5)),
 oq 95 (.xA 8 4 29 25 (.t 1)),
 oq 96 (.ld lH 25 (.t 95)),
 oq 97 (.call 32 [lH] [(.one (.sl 9))] [(.t 96)]),
 oq 98 (.eU 0 9 lS 16 (.t 94) (.t 97)),
 oq 5 (.mov (.t 98))] false 1)
 .skip)))
 (.seq (.seq (.region [] [oq 99 (.mov (.t 4)),
 oq 100 (.call 29 [lS,lU] [lB] [(.t 99),(.c lU [.int 108])])] false 0)
 (.join [(.normal,{slots:=[(1, .d (.one (.ref 29))),(4, .d lS),(5, .sw 0)],objs:=[.uA 9 lS]})] (.cond (.t 100) (.seq (.region [] [oq 10 (.aQC 0 9 lS)] false 1)
 (.seq (.seq (.region [] [oq 101 (.xA 12 1 29 26 (.t 1)),
 oq 102 (.ld (.one (.sl 68)) 26 (.t 101)),
 oq 103 (.gE (.t 102)),
 oq 104 (.mov (.c lI [.int 0]))] false 0)
 (.block 2 (.loop aBR aBS aBT)))
 (.region [] [oq 118 (.mov (.t 5)),
 oq 119 (.mov (.t 10)),
 oq 120 (.call 31 [(.one (.sl 9))] [(.one (.sl 9))] [(.t 119)]),
 oq 121 (.eU 0 9 lS 16 (.t 118) (.t 120)),
 oq 5 (.mov (.t 121))] false 1)))
 .skip)))
 (.seq (.seq (.join [(.normal,{slots:=[(1, .d (.one (.ref 29))),(5, .sw 0),(127, .d lB)],objs:=[.uA 9 lS]})] (.region [] [oq 122 (.mov (.t 4)),
 oq 123 (.call 29 [lS,lU] [lB] [(.t 122),(.c lU [.int 49])]),
 oq 124 (.mov (.t 123)),
 ⟨some 125, .mov (.t 4),some (124,false),[]⟩,
 ⟨some 126, .call 29 [lS,lU] [lB] [(.t 125),(.c lU [.int 43])],some (124,false),[]⟩,
 oq 127 (.pick (.t 124) (.c lB [.bool true]) (.t 126))] false 0))
 (.cond (.t 127) (.seq (.region [] [oq 13 (.aQC 0 9 lS)] false 1)
 (.seq (.seq (.region [] [oq 128 (.xA 13 1 29 27 (.t 1)),
 oq 129 (.ld (.one (.sl 29)) 27 (.t 128)),
 oq 130 (.gE (.t 129)),
 oq 131 (.mov (.c lI [.int 0]))] false 0)
 (.block 4 (.loop aBU aBV aBW)))
 (.region [] [oq 140 (.mov (.t 5)),
 oq 141 (.mov (.t 13)),
 oq 142 (.call 31 [(.one (.sl 9))] [(.one (.sl 9))] [(.t 141)]),
 oq 143 (.eU 0 9 lS 16 (.t 140) (.t 142)),
 oq 5 (.mov (.t 143))] false 1)))
 .skip))
 (.seq (.region [] [oq 144 (.mov (.t 5)),
 oq 2 (.mov (.t 144))] false 0)
 .ret)))))))))))))}
noncomputable def aE8 (E:Env) (p0:Row):Option (List Row):=
 (E.pc pU [[.int ((at_ p0 0).vA)]]).bind fun y1=>
 (E.pc xB [[.str ((at_ (aA y1 1) 0).mD)],[.int 110]]).bind fun y2=>
 (if ((at_ (aA y2 0) 0).lK)=true then
 if (((at_ p0 1).mD)==([]:List UInt8))=true then
 if (([[.str ((at_ (aA y1 0) 0).mD)]]:List Row).length+([[.str ([45]:List UInt8)]]:List Row).length)*16≤140737488355328 then
 some (0,[.r [.dp p0], .r [.str ((at_ (aA y1 1) 0).mD)], .r [pE (.sl ([[.str ((at_ (aA y1 0) 0).mD)]]:List Row)) ([[.str ([45]:List UInt8)]]:List Row)]])
 else none
 else
 if (([[.str ((at_ (aA y1 0) 0).mD)]]:List Row).length+([[.str ((at_ p0 1).mD)]]:List Row).length)*16≤140737488355328 then
 some (0,[.r [.dp p0], .r [.str ((at_ (aA y1 1) 0).mD)], .r [pE (.sl ([[.str ((at_ (aA y1 0) 0).mD)]]:List Row)) ([[.str ((at_ p0 1).mD)]]:List Row)]])
 else none
 else
 some (0,[.r [.dp p0], .r [.str ((at_ (aA y1 1) 0).mD)], .r [.sl ([[.str ((at_ (aA y1 0) 0).mD)]]:List Row)]])).bind fun x3=>
 (E.pc xB [[.str (gS 1 x3.2)],[.int 116]]).bind fun y4=>
 (if ((at_ (aA y4 0) 0).lK)=true then
 if (gC 0 x3.2).jB=true then
 if (((gC 2 x3.2).rows).length+([[.str ((at_ ((gC 0 x3.2).cA) 2).mD)]]:List Row).length)*16≤140737488355328 then
 some (0,[.r [gC 0 x3.2], .r [.str (gS 1 x3.2)], .r [pE (gC 2 x3.2) ([[.str ((at_ ((gC 0 x3.2).cA) 2).mD)]]:List Row)]])
 else none
 else none
 else
 some (0,[.r [gC 0 x3.2], .r [.str (gS 1 x3.2)], .r [gC 2 x3.2]])).bind fun x5=>
 (E.pc xB [[.str (gS 1 x5.2)],[.int 105]]).bind fun y6=>
 (if ((at_ (aA y6 0) 0).lK)=true then
 if (gC 0 x5.2).jB=true then
 (E.pc qD [[.int ((at_ ((gC 0 x5.2).cA) 4).vA)]]).bind fun y7=>
 if (((gC 2 x5.2).rows).length+([[.str ((at_ (aA y7 0) 0).mD)]]:List Row).length)*16≤140737488355328 then
 some (0,[.r [gC 0 x5.2], .r [.str (gS 1 x5.2)], .r [pE (gC 2 x5.2) ([[.str ((at_ (aA y7 0) 0).mD)]]:List Row)]])
 else none
 else none
 else
 some (0,[.r [gC 0 x5.2], .r [.str (gS 1 x5.2)], .r [gC 2 x5.2]])).bind fun x8=>
 (E.pc xB [[.str (gS 1 x8.2)],[.int 98]]).bind fun y9=>
 (if ((at_ (aA y9 0) 0).lK)=true then
 if (gC 0 x8.2).jB=true then
 (E.pc qD [[.int ((at_ ((gC 0 x8.2).cA) 5).vA)]]).bind fun y10=>
 if (gC 0 x8.2).jB=true then
 (E.pc qD [[.int ((at_ ((gC 0 x8.2).cA) 6).vA)]]).bind fun y11=>
 if (((gC 2 x8.2).rows).length+([[.str ((at_ (aA y10 0) 0).mD)],[.str ((at_ (aA y11 0) 0).mD)]]:List Row).length)*16≤140737488355328 then
 some (0,[.r [gC 0 x8.2], .r [.str (gS 1 x8.2)], .r [pE (gC 2 x8.2) ([[.str ((at_ (aA y10 0) 0).mD)],[.str ((at_ (aA y11 0) 0).mD)]]:List Row)]])
 else none
 else none
 else none
 else
 some (0,[.r [gC 0 x8.2], .r [.str (gS 1 x8.2)], .r [gC 2 x8.2]])).bind fun x12=>
 (E.pc xB [[.str (gS 1 x12.2)],[.int 112]]).bind fun pW=>
 (if ((at_ (aA pW 0) 0).lK)=true then
 if (gC 0 x12.2).jB=true then
 (E.pc qD [[.int (Go.IntKind.i64.wrap ((at_ ((gC 0 x12.2).cA) 7).vA))]]).bind fun y14=>
 if (((gC 2 x12.2).rows).length+([[.str ((at_ (aA y14 0) 0).mD)]]:List Row).length)*16≤140737488355328 then
 some (0,[.r [gC 0 x12.2], .r [.str (gS 1 x12.2)], .r [pE (gC 2 x12.2) ([[.str ((at_ (aA y14 0) 0).mD)]]:List Row)]])
 else none
 else none
 else
 some (0,[.r [gC 0 x12.2], .r [.str (gS 1 x12.2)], .r [gC 2 x12.2]])).bind fun x15=>
 (E.pc xB [[.str (gS 1 x15.2)],[.int 115]]).bind fun y16=>
 (if ((at_ (aA y16 0) 0).lK)=true then
 if (gC 0 x15.2).jB=true then
 (aQ E (gC 0 x15.2) (gS 1 x15.2) (at_ ((gC 0 x15.2).cA) 3) (((at_ ((gC 0 x15.2).cA) 3).rows).length:Int) 0 (gC 2 x15.2) .fA).bind fun qK=>
 (E.pc iL [[gC 3 qK.2]]).bind fun y19=>
 if (((gC 2 qK.2).rows).length+((at_ (aA y19 0) 0).rows).length)*16≤140737488355328 then
 some (0,[.r [gC 0 qK.2], .r [.str (gS 1 qK.2)], .r [pE (gC 2 qK.2) ((at_ (aA y19 0) 0).rows)]])
 else none
 else none
 else
 some (0,[.r [gC 0 x15.2], .r [.str (gS 1 x15.2)], .r [gC 2 x15.2]])).bind fun x20=>
 (E.pc xB [[.str (gS 1 x20.2)],[.int 118]]).bind fun y21=>
 (if ((at_ (aA y21 0) 0).lK)=true then
 if (gC 0 x20.2).jB=true then
 (E.pc qB [[at_ ((gC 0 x20.2).cA) 8,at_ ((gC 0 x20.2).cA) 9,at_ ((gC 0 x20.2).cA) 10,at_ ((gC 0 x20.2).cA) 11]]).bind fun y22=>
 if (((gC 2 x20.2).rows).length+((at_ (aA y22 0) 0).rows).length)*16≤140737488355328 then
 some (0,[.r [gC 0 x20.2], .r [.str (gS 1 x20.2)], .r [pE (gC 2 x20.2) ((at_ (aA y22 0) 0).rows)]])
 else none
 else none
 else
 some (0,[.r [gC 0 x20.2], .r [.str (gS 1 x20.2)], .r [gC 2 x20.2]])).bind fun x23=>
 (E.pc xB [[.str (gS 1 x23.2)],[.int 108]]).bind fun y24=>
 (if ((at_ (aA y24 0) 0).lK)=true then
 if (gC 0 x23.2).jB=true then
 (dW E (gC 0 x23.2) (gS 1 x23.2) (at_ ((gC 0 x23.2).cA) 12) (((at_ ((gC 0 x23.2).cA) 12).rows).length:Int) 0 (gC 2 x23.2) .fA).bind fun x27=>
 (E.pc iL [[gC 3 x27.2]]).bind fun y28=>
 if (((gC 2 x27.2).rows).length+((at_ (aA y28 0) 0).rows).length)*16≤140737488355328 then
 some (0,[.r [gC 0 x27.2], .r [.str (gS 1 x27.2)], .r [pE (gC 2 x27.2) ((at_ (aA y28 0) 0).rows)]])
 else none
 else none
 else
 some (0,[.r [gC 0 x23.2], .r [.str (gS 1 x23.2)], .r [gC 2 x23.2]])).bind fun x29=>
 ((E.pc xB [[.str (gS 1 x29.2)],[.int 49]]).bind fun y30=>
 let K31:Bool→Option (Nat×List PV):=fun q32=>
 some (0,[.r [gC 0 x29.2], .r [.bool q32], .r [gC 2 x29.2]])
 if ((at_ (aA y30 0) 0).lK)=true then
 K31 true
 else
 (E.pc xB [[.str (gS 1 x29.2)],[.int 43]]).bind fun y33=>
 K31 ((at_ (aA y33 0) 0).lK)).bind fun x34=>
 if (gB 1 x34.2)=true then
 if (gC 0 x34.2).jB=true then
 (fW E (at_ ((gC 0 x34.2).cA) 13) (((at_ ((gC 0 x34.2).cA) 13).rows).length:Int) 0 (gC 2 x34.2) .fA).bind fun x36=>
 (E.pc iL [[gC 1 x36.2]]).bind fun y37=>
 if (((gC 0 x36.2).rows).length+((at_ (aA y37 0) 0).rows).length)*16≤140737488355328 then
 some [[pE (gC 0 x36.2) ((at_ (aA y37 0) 0).rows)]]
 else none
 else none
 else
 some [[gC 2 x34.2]]
theorem aMB (E:Env) (p0:Row):xE E sY [p0]=aE8 E p0:=by kernel_rfl
def z8:aD:={ps:=[fG],rs:=[lS,lI],res:=[(false,2,none),(false,3,none)],body:=(.seq (.region [] [oq 1 (.vL fG 29 (.t 0)),
 oq 2 (.mov (.c lS [.str ([]:List UInt8)])),
 oq 3 (.mov (.c lI [.int 0]))] false 0)
 (.seq (.seq (.region [] [oq 6 (.ld fG 29 (.t 1)),
 oq 7 (.call 11 [fG] [lI] [(.t 6)]),
 oq 4 (.mov (.t 7))] false 0)
 (.seq (.region [] [oq 8 (.mov (.t 4)),
 oq 9 (.dA .neq (.t 8) (.c lI [.int 0]))] false 0)
 (.cond (.t 9) (.seq (.region [] [oq 10 (.mov (.t 4)),
 oq 2 (.mov (.c lS [.str ([]:List UInt8)])),
 oq 3 (.mov (.t 10))] false 0)
 .ret)
 .skip)))
 (.seq (.region [] [oq 11 (.ld fG 29 (.t 1)),
 oq 12 (.call 13 [fG] [(.one (.sl 9))] [(.t 11)]),
 oq 13 (.call 12 [(.one (.sl 9)),lS] [lS] [(.t 12),(.c lS [.str ([32]:List UInt8)])]),
 oq 5 (.mov (.t 13))] false 0)
 (.seq (.seq (.region [] [oq 14 (.mov (.t 5)),
 oq 15 (.aB3 (.t 14)),
 oq 16 (.dA .gtr (.t 15) (.c lI [.int 4000]))] false 0)
 (.cond (.t 16) (.seq (.region [] [oq 2 (.mov (.c lS [.str ([]:List UInt8)])),
 oq 3 (.mov (.c lI [.int 2]))] false 0)
 .ret)
 .skip))
 (.seq (.region [] [oq 17 (.mov (.t 5)),
 oq 2 (.mov (.t 17)),
 oq 3 (.mov (.c lI [.int 0]))] false 0)
 .ret)))))}
noncomputable def aGG (E:Env) (p0:Row):Option (List Row):=
 (E.pc aCJ [p0]).bind fun y1=>
 if (((at_ (aA y1 0) 0).vA) !=0)=true then
 some [[.str ([]:List UInt8)],[.int ((at_ (aA y1 0) 0).vA)]]
 else
 (E.pc rY [p0]).bind fun y2=>
 (E.pc aE9 [[at_ (aA y2 0) 0],[.str ([32]:List UInt8)]]).bind fun y3=>
 if (decide ((((at_ (aA y3 0) 0).mD).length:Int)>4000))=true then
 some [[.str ([]:List UInt8)],[.int 2]]
 else
 some [[.str ((at_ (aA y3 0) 0).mD)],[.int 0]]
theorem aND (E:Env) (p0:Row):xE E z8 [p0]=aGG E p0:=by kernel_rfl
def bQ:aD:={ps:=[fG],rs:=[lB],res:=[(false,2,none)],body:=(.seq (.region [] [oq 1 (.vL fG 29 (.t 0)),
 oq 2 (.mov (.c lB [.bool false]))] false 0)
 (.seq (.seq (.region [] [oq 7 (.call 4 [] [lB] []),
 oq 8 (.not (.t 7))] false 0)
 (.cond (.t 8) (.seq (.region [] [oq 2 (.mov (.c lB [.bool false]))] false 0)
 .ret)
 .skip))
 (.seq (.region [] [oq 10 (.ld fG 29 (.t 1)),
 oq 11 (.call 5 [fG] [lS,lI] [(.t 10)]),
 oq 9 (.mov (.t 11)),
 oq 12 (.ext 0 (.t 9)),
 oq 13 (.ext 1 (.t 9)),
 oq 3 (.mov (.t 12)),
 oq 4 (.mov (.t 13))] false 0)
 (.seq (.region [] [oq 15 (.ld fG 29 (.t 1)),
 oq 16 (.call 6 [fG] [lS,lI] [(.t 15)]),
 oq 14 (.mov (.t 16)),
 oq 17 (.ext 0 (.t 14)),
 oq 18 (.ext 1 (.t 14)),
 oq 5 (.mov (.t 17)),
 oq 6 (.mov (.t 18))] false 0)
 (.seq (.region [] [oq 19 (.mov (.t 3)),
 oq 20 (.mov (.t 5)),
 oq 21 (.aEK .eql (.t 19) (.t 20)),
 oq 22 (.mov (.t 21)),
 ⟨some 23, .mov (.t 4),some (22,true),[]⟩,
 ⟨some 24, .mov (.t 6),some (22,true),[]⟩,
 ⟨some 25, .dA .eql (.t 23) (.t 24),some (22,true),[]⟩,
 oq 26 (.pick (.t 22) (.t 25) (.c lB [.bool false])),
 oq 2 (.mov (.t 26))] false 0)
 .ret)))))}
noncomputable def aAr (E:Env) (p0:Row):Option (List Row):=
 (E.pc aFM []).bind fun y1=>
 if (!((at_ (aA y1 0) 0).lK))=true then
 some [[.bool false]]
 else
 (E.pc aJE [p0]).bind fun y2=>
 (E.pc aDV [p0]).bind fun y3=>
 let K4:Bool→Option (List Row):=fun q5=>
 some [[.bool q5]]
 if (((at_ (aA y2 0) 0).mD)==((at_ (aA y3 0) 0).mD))=true then
 K4 (((at_ (aA y2 1) 0).vA)==((at_ (aA y3 1) 0).vA))
 else
 K4 false
theorem aI1 (E:Env) (p0:Row):xE E bQ [p0]=aAr E p0:=by kernel_rfl
end Go.Ev
