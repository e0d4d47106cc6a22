/-
  A part of the proof: what the functions of the program compute.
-/
import Derived.Test.YtfonaepdedbhhaaGreatDoorZNum
set_option linter.all false
set_option maxRecDepth 100000
namespace Go.Ev
def oU:aD:={ps:=[lS,lS],rs:=[lI],res:=[(false,4,none)],body:=(.seq (.region [] [oq 4 (.mov (.c lI [.int 0]))] false 0)
 (.seq (.region [] [oq 14 (.mov (.t 1)),
 oq 15 (.aB3 (.t 14)),
 oq 5 (.mov (.t 15))] false 0)
 (.seq (.join [(.ret,{slots:=[(4, .d lI)],objs:=[]})] (.block 0 (.seq (.join [(.normal,{slots:=[(0, .d lS),(1, .d lS),(5, .d lI),(16, .d lB)],objs:=[]})] (.region [] [oq 17 (.mov (.t 5)),
 oq 18 (.dA .eql (.t 17) (.c lI [.int 0])),
 oq 19 (.mov (.t 18)),
 ⟨some 20, .mov (.t 1),some (19,false),[]⟩,
 ⟨some 21, .mov (.t 0),some (19,false),[]⟩,
 ⟨some 22, .aEK .eql (.t 20) (.t 21),some (19,false),[]⟩,
 oq 23 (.pick (.t 19) (.c lB [.bool true]) (.t 22)),
 oq 16 (.mov (.t 23))] false 0))
 (.cond (.t 16) (.seq (.region [] [oq 4 (.mov (.c lI [.int 0]))] false 0)
 .ret)
 (.seq (.region [] [oq 25 (.mov (.t 5)),
 oq 26 (.dA .eql (.t 25) (.c lI [.int 1])),
 oq 24 (.mov (.t 26))] false 0)
 (.cond (.t 24) (.seq (.region [] [oq 27 (.mov (.t 0)),
 oq 28 (.mov (.t 1)),
 oq 29 (.aB2 (.t 28) (.c lI [.int 0])),
 oq 30 (.call 66 [lS,lU] [lI] [(.t 27),(.t 29)]),
 oq 4 (.mov (.t 30))] false 0)
 .ret)
 (.seq (.region [] [oq 32 (.mov (.t 5)),
 oq 33 (.mov (.t 0)),
 oq 34 (.aB3 (.t 33)),
 oq 35 (.dA .geq (.t 32) (.t 34)),
 oq 31 (.mov (.t 35))] false 0)
 (.cond (.t 31) (.seq (.region [] [oq 4 (.mov (.c lI [.int (-1)]))] false 0)
 .ret)
 (.seq (.region [] [oq 37 (.mov (.t 5)),
 oq 38 (.bad),
 oq 39 (.bad),
 oq 40 (.bad),
 ⟨some 41, .bad,some (40,true),[]⟩,
 ⟨some 42, .bad,some (40,true),[]⟩,
 ⟨some 43, .bad,some (40,true),[]⟩,
 oq 44 (.bad),
 oq 36 (.bad)] false 0)
 .bad)))))))))
 (.seq .bad
 (.seq .bad
 (.seq .bad
 (.seq .bad
 (.seq .bad
 (.seq (.block 1 .bad)
 (.seq .bad
 .ret))))))))))}
def gX:aD:={ps:=[lS,lS],rs:=[lS,lS,lB],res:=[(false,4,none),(false,5,none),(false,6,none)],body:=(.seq (.region [] [oq 4 (.mov (.c lS [.str ([]:List UInt8)])),
 oq 5 (.mov (.c lS [.str ([]:List UInt8)])),
 oq 6 (.mov (.c lB [.bool false]))] false 0)
 (.seq (.seq (.region [] [oq 8 (.mov (.t 0)),
 oq 9 (.mov (.t 1)),
 oq 10 (.call 84 [lS,lS] [lI] [(.t 8),(.t 9)]),
 oq 7 (.mov (.t 10))] false 0)
 (.seq (.region [] [oq 11 (.mov (.t 7)),
 oq 12 (.dA .geq (.t 11) (.c lI [.int 0]))] false 0)
 (.cond (.t 12) (.seq (.region [] [oq 13 (.mov (.t 0)),
 oq 14 (.mov (.t 7)),
 ⟨some 15, .slcS (.t 13) none (some (.t 14)),none,[0,1]⟩,
 oq 16 (.mov (.t 0)),
 oq 17 (.mov (.t 7)),
 oq 18 (.mov (.t 1)),
 ⟨some 19, .aB3 (.t 18),none,[5]⟩,
 ⟨some 20, .tB .add (.t 17) (.t 19),none,[4,5,6]⟩,
 ⟨some 21, .slcS (.t 16) (some (.t 20)) none,none,[3,4,5,6,7]⟩,
 ⟨some 4, .mov (.t 15),none,[0,1,2]⟩,
 ⟨some 5, .mov (.t 21),none,[0,1,2,3,4,5,6,7,8,9]⟩,
 ⟨some 6, .mov (.c lB [.bool true]),none,[0,1,2,3,4,5,6,7,8,9,10]⟩] true 0)
 .ret)
 .skip)))
 (.seq (.region [] [oq 22 (.mov (.t 0)),
 oq 4 (.mov (.t 22)),
 oq 5 (.mov (.c lS [.str ([]:List UInt8)])),
 oq 6 (.mov (.c lB [.bool false]))] false 0)
 .ret)))}
def aKA:aD:={ps:=[lS,lS],rs:=[lS,lS,lB],res:=[(false,4,none),(false,5,none),(false,6,none)],body:=(.seq (.region [] [oq 4 (.mov (.c lS [.str ([]:List UInt8)])),
 oq 5 (.mov (.c lS [.str ([]:List UInt8)])),
 oq 6 (.mov (.c lB [.bool false]))] false 0)
 (.seq (.region [] [oq 7 (.mov (.t 0)),
 oq 8 (.mov (.t 1)),
 oq 9 (.call 65 [lS,lS] [lS,lS,lB] [(.t 7),(.t 8)]),
 oq 10 (.ext 0 (.t 9)),
 oq 11 (.ext 1 (.t 9)),
 oq 12 (.ext 2 (.t 9)),
 oq 4 (.mov (.t 10)),
 oq 5 (.mov (.t 11)),
 oq 6 (.mov (.t 12))] false 0)
 .ret))}
def c8:aD:={ps:=[lI],rs:=[lS,lS],res:=[(false,2,none),(false,3,none)],body:=(.seq (.region [] [oq 2 (.mov (.c lS [.str ([]:List UInt8)])),
 oq 3 (.mov (.c lS [.str ([]:List UInt8)]))] false 0)
 (.seq (.region [] [oq 8 (.call 45 [lS] [(.one (.sl 9))] [(.c lS [.str ([115,97,109,101,58,32,116,104,101,110,58,43,32,97,116,58,110,49,32,114,101,110,97,109,101,58,110,116,32,100,114,111,112,58,110,118,32,97,100,100,58,110,118,32,110,101,115,116,58,116,115,32,102,108,97,116,58,110,32,109,111,118,101,58,110,105,32,115,112,108,105,116,58,110,116,115,112,32,103,108,117,101,58,110,116,112,32,108,111,111,107,58,108,32,110,117,109,98,101,114,58,98,32,101,97,99,104,58,110,49,32,99,97,115,101,58,115,43,32,115,101,108,101,99,116,58,110,118,32,116,97,103,58,110,32,117,110,116,97,103,58,110,32,102,105,108,108,58,118]:List UInt8)])]),
 oq 4 (.mov (.t 8))] false 0)
 (.seq (.region [] [oq 10 (.mov (.t 4)),
 oq 11 (.mov (.t 0)),
 oq 12 (.iad 9 lS (.t 10) (.t 11)),
 oq 13 (.ld lS 9 (.t 12)),
 oq 14 (.call 46 [lS,lS] [lS,lS,lB] [(.t 13),(.c lS [.str ([58]:List UInt8)])]),
 oq 9 (.mov (.t 14)),
 oq 15 (.ext 0 (.t 9)),
 oq 16 (.ext 1 (.t 9)),
 oq 17 (.ext 2 (.t 9)),
 oq 5 (.mov (.t 15)),
 oq 6 (.mov (.t 16)),
 oq 7 (.mov (.t 17))] false 0)
 (.seq (.region [] [oq 18 (.mov (.t 5)),
 oq 19 (.mov (.t 6)),
 oq 2 (.mov (.t 18)),
 oq 3 (.mov (.t 19))] false 0)
 .ret))))}
noncomputable def aGE (E:Env) (p0:Int):Option (List Row):=
 (E.pc hY [[.str ([115,97,109,101,58,32,116,104,101,110,58,43,32,97,116,58,110,49,32,114,101,110,97,109,101,58,110,116,32,100,114,111,112,58,110,118,32,97,100,100,58,110,118,32,110,101,115,116,58,116,115,32,102,108,97,116,58,110,32,109,111,118,101,58,110,105,32,115,112,108,105,116,58,110,116,115,112,32,103,108,117,101,58,110,116,112,32,108,111,111,107,58,108,32,110,117,109,98,101,114,58,98,32,101,97,99,104,58,110,49,32,99,97,115,101,58,115,43,32,115,101,108,101,99,116,58,110,118,32,116,97,103,58,110,32,117,110,116,97,103,58,110,32,102,105,108,108,58,118]:List UInt8)]]).bind fun y1=>
 if (0:Int)≤p0∧p0<(((at_ (aA y1 0) 0).rows).length:Int)then
 (E.pc aKB [[.str ((at_ (aA ((at_ (aA y1 0) 0).rows) p0.toNat) 0).mD)],[.str ([58]:List UInt8)]]).bind fun y2=>
 some [[.str ((at_ (aA y2 0) 0).mD)],[.str ((at_ (aA y2 1) 0).mD)]]
 else none
theorem aNx (E:Env) (p0:Int):xE E c8 [[.int p0]]=aGE E p0:=by kernel_rfl
def aBD:aD:={ps:=[lS,lU],rs:=[lB],res:=[(false,4,none)],body:=(.seq (.region [] [oq 4 (.mov (.c lB [.bool false]))] false 0)
 (.seq (.region [] [oq 5 (.mov (.t 0)),
 oq 6 (.mov (.t 1)),
 oq 7 (.call 47 [lS,lU] [lI] [(.t 5),(.t 6)]),
 oq 8 (.dA .geq (.t 7) (.c lI [.int 0])),
 oq 4 (.mov (.t 8))] false 0)
 .ret))}
noncomputable def aIw (E:Env) (p0:List UInt8) (p1:Int):Option (List Row):=
 (E.pc zQ [[.str p0],[.int p1]]).bind fun y1=>
 some [[.bool (decide (((at_ (aA y1 0) 0).vA)≥0))]]
theorem aOG (E:Env) (p0:List UInt8) (p1:Int):xE E aBD [[.str p0],[.int p1]]=aIw E p0 p1:=by kernel_rfl
def aCA:Shape:={slots:=[(3, .d (.one (.ref 25))),(36, .d (.one (.sl 89))),(37, .d lI),(38, .d lI)],objs:=[]}
def aCB:List (mB×Shape):=[(.exit 0,{slots:=[],objs:=[]}),(.ret,{slots:=[(4, .d lB)],objs:=[]})]
def aCC:zB:=(.seq (.region [] [oq 39 (.dA .lss (.t 38) (.t 37))] false 0)
 (.seq (.cond (.t 39) .skip
 (.exit 0))
 (.seq (.block 1 (.seq (.region [] [oq 40 (.mov (.t 38)),
 oq 41 (.iad 89 lA2 (.t 36) (.t 38)),
 oq 42 (.ld lA2 89 (.t 41)),
 oq 6 (.oB 0 lA2 [.str [], .int 0, .int 0, .str [], .fA]),
 oq 5 (.mov (.t 40)),
 ⟨none, .st lA2 (.t 6) (.t 42),none,[]⟩] false 1)
 (.seq (.region [] [oq 43 (.xA 0 1 89 9 (.t 6)),
 ⟨some 44, .ld lS 9 (.t 43),none,[0]⟩,
 oq 45 (.xA 3 1 25 23 (.t 3)),
 ⟨some 46, .ld (.one (.sl 89)) 23 (.t 45),none,[2]⟩,
 oq 47 (.mov (.t 5)),
 ⟨some 48, .iad 89 lA2 (.t 46) (.t 47),none,[2,3,4]⟩,
 ⟨some 49, .xA 0 1 89 9 (.t 48),none,[2,3,4,5]⟩,
 ⟨some 50, .ld lS 9 (.t 49),none,[2,3,4,5,6]⟩,
 ⟨some 51, .aEK .neq (.t 44) (.t 50),none,[0,1,2,3,4,5,6,7]⟩,
 ⟨some 52, .mov (.t 51),none,[0,1,2,3,4,5,6,7,8]⟩,
 ⟨some 53, .xA 1 4 89 25 (.t 6),some (52,false),[0,1,2,3,4,5,6,7,8,9]⟩,
 ⟨some 54, .ld lH 25 (.t 53),some (52,false),[0,1,2,3,4,5,6,7,8,9,10]⟩,
 ⟨some 55, .xA 3 1 25 23 (.t 3),some (52,false),[0,1,2,3,4,5,6,7,8,9]⟩,
 ⟨some 56, .ld (.one (.sl 89)) 23 (.t 55),some (52,false),[0,1,2,3,4,5,6,7,8,9,12]⟩,
 ⟨some 57, .mov (.t 5),some (52,false),[0,1,2,3,4,5,6,7,8,9]⟩,
 ⟨some 58, .iad 89 lA2 (.t 56) (.t 57),some (52,false),[0,1,2,3,4,5,6,7,8,9,12,13,14]⟩,
 ⟨some 59, .xA 1 4 89 25 (.t 58),some (52,false),[0,1,2,3,4,5,6,7,8,9,12,13,14,15]⟩,
 ⟨some 60, .ld lH 25 (.t 59),some (52,false),[0,1,2,3,4,5,6,7,8,9,12,13,14,15,16]⟩,
 ⟨some 61, .call 37 [lH,lH] [lB] [(.t 54),(.t 60)],some (52,false),[0,1,2,3,4,5,6,7,8,9,10,11,12,13,14,15,16,17]⟩,
 ⟨some 62, .not (.t 61),some (52,false),[0,1,2,3,4,5,6,7,8,9,10,11,12,13,14,15,16,17,18]⟩,
 ⟨some 63, .pick (.t 52) (.c lB [.bool true]) (.t 62),none,[0,1,2,3,4,5,6,7,8,9,10,11,12,13,14,15,16,17,18,19]⟩] true 0)
 (.cond (.t 63) (.seq (.region [] [oq 4 (.mov (.c lB [.bool false]))] false 0)
 .ret)
 .skip))))
 (.region [] [oq 64 (.tB .add (.t 38) (.c lI [.int 1])),
 oq 38 (.mov (.t 64))] false 0))))
noncomputable def iY (E:Env) (v0:C) (v1:C) (v2:Int) (v3:Int):Option (Nat×List PV):=E.fix (stepOf E aCC aCA aCB) [.r [v0], .r [v1], .r [.int v2], .r [.int v3]]
noncomputable def jY (E:Env) (X:C→C→Int→Int→Option (Nat×List PV)) (v0:C) (v1:C) (v2:Int) (v3:Int):Option (Nat×List PV):=
 if (decide (v3<v2))=true then
 if (0:Int)≤v3∧v3<(v1.rows.length:Int)then
 if v0.jB=true then
 if (0:Int)≤v3∧v3<(((at_ v0.cA 3).rows).length:Int)then
 let K8:Bool→Option (Nat×List PV):=fun q9=>
 if q9=true then
 some (1,[.r [.bool false]])
 else
 X v0 v1 v2 (Go.IntKind.i64.wrap (v3+1))
 if (!(((at_ (aA v1.rows v3.toNat) 0).mD)==((at_ (aA ((at_ v0.cA 3).rows) v3.toNat) 0).mD)))=true then
 K8 true
 else
 if v0.jB=true then
 if (0:Int)≤v3∧v3<(((at_ v0.cA 3).rows).length:Int)then
 (E.pc kP [[at_ (aA v1.rows v3.toNat) 1,at_ (aA v1.rows v3.toNat) 2,at_ (aA v1.rows v3.toNat) 3,at_ (aA v1.rows v3.toNat) 4],[at_ (aA ((at_ v0.cA 3).rows) v3.toNat) 1,at_ (aA ((at_ v0.cA 3).rows) v3.toNat) 2,at_ (aA ((at_ v0.cA 3).rows) v3.toNat) 3,at_ (aA ((at_ v0.cA 3).rows) v3.toNat) 4]]).bind fun y10=>
 K8 (!((at_ (aA y10 0) 0).lK))
 else none
 else none
 else none
 else none
 else none
 else
 some (0,[])
theorem aNy (E:Env) (X:List PV→Option (Nat×List PV)) (v0:C) (v1:C) (v2:Int) (v3:Int):stepOf E aCC aCA aCB X [.r [v0], .r [v1], .r [.int v2], .r [.int v3]]=jY E (fun (v0:C) (v1:C) (v2:Int) (v3:Int)=>X [.r [v0], .r [v1], .r [.int v2], .r [.int v3]]) v0 v1 v2 v3:=by kernel_rfl
def j8:aD:={ps:=[lH,lH],rs:=[lB],res:=[(false,4,none)],body:=(.seq (.region [] [oq 2 (.vL lH 25 (.t 0)),
 oq 3 (.vL lH 25 (.t 1)),
 oq 4 (.mov (.c lB [.bool false]))] false 0)
 (.seq (.seq (.join [(.normal,{slots:=[(2, .d (.one (.ref 25))),(3, .d (.one (.ref 25))),(34, .d lB)],objs:=[]})] (.region [] [oq 7 (.xA 0 1 25 3 (.t 2)),
 oq 8 (.ld lI 3 (.t 7)),
 oq 9 (.xA 0 1 25 3 (.t 3)),
 oq 10 (.ld lI 3 (.t 9)),
 oq 11 (.dA .neq (.t 8) (.t 10)),
 oq 12 (.mov (.t 11)),
 ⟨some 13, .xA 1 1 25 3 (.t 2),some (12,false),[]⟩,
 ⟨some 14, .ld lI 3 (.t 13),some (12,false),[]⟩,
 ⟨some 15, .xA 1 1 25 3 (.t 3),some (12,false),[]⟩,
 ⟨some 16, .ld lI 3 (.t 15),some (12,false),[]⟩,
 ⟨some 17, .dA .neq (.t 14) (.t 16),some (12,false),[]⟩,
 oq 18 (.pick (.t 12) (.c lB [.bool true]) (.t 17)),
 oq 19 (.mov (.t 18)),
 ⟨some 20, .xA 2 1 25 9 (.t 2),some (19,false),[]⟩,
 ⟨some 21, .ld lS 9 (.t 20),some (19,false),[]⟩,
 ⟨some 22, .xA 2 1 25 9 (.t 3),some (19,false),[]⟩,
 ⟨some 23, .ld lS 9 (.t 22),some (19,false),[]⟩,
 ⟨some 24, .aEK .neq (.t 21) (.t 23),some (19,false),[]⟩,
 oq 25 (.pick (.t 19) (.c lB [.bool true]) (.t 24)),
 oq 26 (.mov (.t 25)),
 ⟨some 27, .xA 3 1 25 23 (.t 2),some (26,false),[]⟩,
 ⟨some 28, .ld (.one (.sl 89)) 23 (.t 27),some (26,false),[]⟩,
 ⟨some 29, .gE (.t 28),some (26,false),[]⟩,
 ⟨some 30, .xA 3 1 25 23 (.t 3),some (26,false),[]⟩,
 ⟨some 31, .ld (.one (.sl 89)) 23 (.t 30),some (26,false),[]⟩,
 ⟨some 32, .gE (.t 31),some (26,false),[]⟩,
 ⟨some 33, .dA .neq (.t 29) (.t 32),some (26,false),[]⟩,
 oq 34 (.pick (.t 26) (.c lB [.bool true]) (.t 33))] false 0))
 (.cond (.t 34) (.seq (.region [] [oq 4 (.mov (.c lB [.bool false]))] false 0)
 .ret)
 .skip))
 (.seq (.seq (.region [] [oq 35 (.xA 3 1 25 23 (.t 2)),
 oq 36 (.ld (.one (.sl 89)) 23 (.t 35)),
 oq 37 (.gE (.t 36)),
 oq 38 (.mov (.c lI [.int 0]))] false 0)
 (.block 0 (.loop aCA aCB aCC)))
 (.seq (.region [] [oq 4 (.mov (.c lB [.bool true]))] false 0)
 .ret))))}
noncomputable def aGF (E:Env) (p0:Row) (p1:Row):Option (List Row):=
 (let K1:Bool→Option (Nat×List PV):=fun q2=>
 let K3:Bool→Option (Nat×List PV):=fun q4=>
 let K5:Bool→Option (Nat×List PV):=fun q6=>
 some (0,[.r [.dp p0], .r [.dp p1], .r [.bool q6]])
 if q4=true then
 K5 true
 else
 K5 ((((at_ p0 3).rows).length:Int) !=(((at_ p1 3).rows).length:Int))
 if q2=true then
 K3 true
 else
 K3 (!(((at_ p0 2).mD)==((at_ p1 2).mD)))
 if (((at_ p0 0).vA) !=((at_ p1 0).vA))=true then
 K1 true
 else
 K1 (((at_ p0 1).vA) !=((at_ p1 1).vA))).bind fun x7=>
 if (gB 2 x7.2)=true then
 some [[.bool false]]
 else
 if (gC 0 x7.2).jB=true then
 (iY E (gC 1 x7.2) (at_ ((gC 0 x7.2).cA) 3) (((at_ ((gC 0 x7.2).cA) 3).rows).length:Int) 0).bind fun eJ=>
 match eJ.1 with
 |0=>
 some [[.bool true]]
 |i12+1=>
 some [[.bool (gB 0 eJ.2)]]
 else none
theorem aNz (E:Env) (p0:Row) (p1:Row):xE E j8 [p0,p1]=aGF E p0 p1:=by kernel_rfl
def n8:aD:={ps:=[],rs:=[lH],res:=[(true,0,none)],body:=(.seq (.region [] [oq 0 (.oB 0 lH [.int 0, .int 0, .str [], .fA])] false 1)
 (.seq (.region [] [oq 1 (.bld lH [.int 0, .int 0, .str [], .fA] []),
 ⟨none, .st lH (.t 0) (.t 1),none,[]⟩] false 0)
 .ret))}
noncomputable def aKC (E:Env):Option (List Row):=
 some [[.int 0, .int 0, .str [], .fA]]
theorem aNA (E:Env):xE E n8 []=aKC E:=by kernel_rfl
def kY:aD:={ps:=[lI],rs:=[lB],res:=[(false,2,none)],body:=(.seq (.region [] [oq 2 (.mov (.c lB [.bool false]))] false 0)
 (.seq (.seq (.region [] [oq 3 (.mov (.t 0))] false 0)
 (.block 0 (.seq (.seq (.region [] [oq 5 (.dA .eql (.t 3) (.c lI [.int 1])),
 oq 4 (.mov (.t 5))] false 0)
 (.cond (.t 4) .skip
 (.seq (.region [] [oq 6 (.dA .eql (.t 3) (.c lI [.int 2])),
 oq 4 (.mov (.t 6))] false 0)
 (.cond (.t 4) .skip
 (.seq (.region [] [oq 7 (.dA .eql (.t 3) (.c lI [.int 4])),
 oq 4 (.mov (.t 7))] false 0)
 (.cond (.t 4) .skip
 (.region [] [oq 8 (.dA .eql (.t 3) (.c lI [.int 5])),
 oq 4 (.mov (.t 8))] false 0)))))))
 (.cond (.t 4) (.seq (.region [] [oq 2 (.mov (.c lB [.bool true]))] false 0)
 .ret)
 .skip))))
 (.seq (.region [] [oq 2 (.mov (.c lB [.bool false]))] false 0)
 .ret)))}
noncomputable def aE4 (E:Env) (p0:Int):Option (List Row):=
 if (p0==1)=true then
 if (p0==1)=true then
 some [[.bool true]]
 else
 some [[.bool false]]
 else
 if (p0==2)=true then
 if (p0==2)=true then
 some [[.bool true]]
 else
 some [[.bool false]]
 else
 if (p0==4)=true then
 if (p0==4)=true then
 some [[.bool true]]
 else
 some [[.bool false]]
 else
 if (p0==5)=true then
 some [[.bool true]]
 else
 some [[.bool false]]
theorem aMr (E:Env) (p0:Int):xE E kY [[.int p0]]=aE4 E p0:=by kernel_rfl
def iX:Shape:={slots:=[(3, .map 0),(10, .d (.one (.sl 9))),(11, .d lI),(12, .d lI)],objs:=[.map lS lI]}
def jX:List (mB×Shape):=[(.exit 0,{slots:=[],objs:=[]}),(.ret,{slots:=[(2, .d lI)],objs:=[]})]
def kX:zB:=(.seq (.region [] [oq 13 (.dA .lss (.t 12) (.t 11))] false 0)
 (.seq (.cond (.t 13) .skip
 (.exit 0))
 (.seq (.block 1 (.seq (.region [] [oq 14 (.iad 9 lS (.t 10) (.t 12)),
 oq 15 (.ld lS 9 (.t 14)),
 oq 5 (.mov (.t 15))] false 0)
 (.seq (.seq (.region [] [oq 16 (.mov (.t 5)),
 oq 17 (.call 39 [lS] [lB] [(.t 16)]),
 oq 18 (.not (.t 17))] false 0)
 (.cond (.t 18) (.seq (.region [] [oq 2 (.mov (.c lI [.int 15]))] false 0)
 .ret)
 .skip))
 (.seq (.region [] [oq 19 (.mov (.t 3)),
 oq 20 (.mov (.t 5)),
 oq 21 (.lk lS lI [.int 0] (.t 19) (.t 20) false),
 oq 22 (.tB .add (.t 21) (.c lI [.int 1])),
 ⟨none, .mup lS (.t 19) (.t 20) (.t 22),none,[]⟩] false 0)
 (.seq (.region [] [oq 23 (.mov (.t 3)),
 oq 24 (.mov (.t 5)),
 oq 25 (.lk lS lI [.int 0] (.t 23) (.t 24) false),
 oq 26 (.dA .gtr (.t 25) (.c lI [.int 1]))] false 0)
 (.cond (.t 26) (.seq (.region [] [oq 2 (.mov (.c lI [.int 5]))] false 0)
 .ret)
 .skip))))))
 (.region [] [oq 27 (.tB .add (.t 12) (.c lI [.int 1])),
 oq 12 (.mov (.t 27))] false 0))))
noncomputable def gK (E:Env) (v0:C) (v1:Int) (v2:Int) (v3:List (Row×Row)):Option (Nat×List PV):=E.fix (stepOf E kX iX jX) [.r [v0], .r [.int v1], .r [.int v2], .m v3]
noncomputable def wP (E:Env) (X:C→Int→Int→List (Row×Row)→Option (Nat×List PV)) (v0:C) (v1:Int) (v2:Int) (v3:List (Row×Row)):Option (Nat×List PV):=
 if (decide (v2<v1))=true then
 if (0:Int)≤v2∧v2<(v0.rows.length:Int)then
 (E.pc rH [[.str ((at_ (aA v0.rows v2.toNat) 0).mD)]]).bind fun y1=>
 if (!((at_ (aA y1 0) 0).lK))=true then
 some (1,[.r [.int 15]])
 else
 if (decide (((at_ ((sI lS [.str ((at_ (aA v0.rows v2.toNat) 0).mD)] (tQ lS [.str ((at_ (aA v0.rows v2.toNat) 0).mD)] [.int (Go.IntKind.i64.wrap (((at_ ((sI lS [.str ((at_ (aA v0.rows v2.toNat) 0).mD)] v3).getD [.int 0]) 0).vA)+1))] v3)).getD [.int 0]) 0).vA)>1))=true then
 some (1,[.r [.int 5]])
 else
 X v0 v1 (Go.IntKind.i64.wrap (v2+1)) (tQ lS [.str ((at_ (aA v0.rows v2.toNat) 0).mD)] [.int (Go.IntKind.i64.wrap (((at_ ((sI lS [.str ((at_ (aA v0.rows v2.toNat) 0).mD)] v3).getD [.int 0]) 0).vA)+1))] v3)
 else none
 else
 some (0,[])
theorem aJC (E:Env) (X:List PV→Option (Nat×List PV)) (v0:C) (v1:Int) (v2:Int) (v3:List (Row×Row)):stepOf E kX iX jX X [.r [v0], .r [.int v1], .r [.int v2], .m v3]=wP E (fun (v0:C) (v1:Int) (v2:Int) (v3:List (Row×Row))=>X [.r [v0], .r [.int v1], .r [.int v2], .m v3]) v0 v1 v2 v3:=by kernel_rfl
def cR:aD:={ps:=[(.one (.sl 9))],rs:=[lI],res:=[(false,2,none)],body:=(.seq (.region [] [oq 2 (.mov (.c lI [.int 0]))] false 0)
 (.seq (.seq (.region [] [oq 6 (.mov (.t 0)),
 oq 7 (.gE (.t 6)),
 oq 8 (.dA .eql (.t 7) (.c lI [.int 0]))] false 0)
 (.cond (.t 8) (.seq (.region [] [oq 2 (.mov (.c lI [.int 3]))] false 0)
 .ret)
 .skip))
 (.seq (.region [] [oq 9 (.mkm 0 lS lI),
 oq 3 (.mov (.t 9))] false 1)
 (.seq (.seq (.region [] [oq 10 (.mov (.t 0)),
 oq 11 (.gE (.t 10)),
 oq 12 (.mov (.c lI [.int 0]))] false 0)
 (.block 0 (.loop iX jX kX)))
 (.seq (.region [] [oq 2 (.mov (.c lI [.int 0]))] false 0)
 .ret)))))}
noncomputable def aBE (E:Env) (p0:C):Option (List Row):=
 if ((p0.rows.length:Int)==0)=true then
 some [[.int 3]]
 else
 (gK E p0 (p0.rows.length:Int) 0 []).bind fun x2=>
 match x2.1 with
 |0=>
 some [[.int 0]]
 |i3+1=>
 some [[.int (gI 0 x2.2)]]
theorem aJD (E:Env) (p0:C):xE E cR [[p0]]=aBE E p0:=by kernel_rfl
def aBF:Shape:={slots:=[(0, .d (.one (.sl 68))),(3, .ptr 0 0),(19, .d (.one (.sl 68))),(20, .d lI),(21, .d lI),(25, .d lA8),(26, .d lI)],objs:=[.cells false [.map 1, .map 2], .map lS lB, .map lS lB]}
def aBG:List (mB×Shape):=[(.exit 2,{slots:=[(0, .d (.one (.sl 68))),(3, .ptr 0 0),(19, .d (.one (.sl 68))),(20, .d lI),(21, .d lI)],objs:=[.cells false [.map 1, .map 2], .map lS lB, .map lS lB]}),(.ret,{slots:=[(2, .d lI)],objs:=[]})]
def aBH:zB:=(.seq (.region [] [oq 27 (.dA .lss (.t 26) (.c lI [.int 2]))] false 0)
 (.seq (.cond (.t 27) .skip
 (.exit 2))
 (.seq (.block 3 (.seq (.region [] [oq 28 (.mov (.t 26)),
 oq 29 (.aSq 2 lH (.t 25) (.t 26)),
 oq 7 (.oB 0 lH [.int 0, .int 0, .str [], .fA]),
 oq 6 (.mov (.t 28)),
 ⟨none, .st lH (.t 7) (.t 29),none,[]⟩] false 1)
 (.seq (.seq (.region [] [oq 30 (.ld lH 25 (.t 7)),
 oq 31 (.call 40 [lH] [lI] [(.t 30)]),
 oq 8 (.mov (.t 31))] false 0)
 (.seq (.region [] [oq 32 (.mov (.t 8)),
 oq 33 (.dA .neq (.t 32) (.c lI [.int 0]))] false 0)
 (.cond (.t 33) (.seq (.region [] [oq 34 (.mov (.t 8)),
 oq 2 (.mov (.t 34))] false 0)
 .ret)
 .skip)))
 (.seq (.seq (.join [(.normal,{slots:=[(0, .d (.one (.sl 68))),(3, .ptr 0 0),(6, .d lI),(7, .ptr 1 0),(19, .d (.one (.sl 68))),(20, .d lI),(21, .d lI),(25, .d lA8),(26, .d lI),(49, .d lB)],objs:=[.cells false [.map 2, .map 3], .var lH, .map lS lB, .map lS lB]})] (.region [] [oq 35 (.xA 0 1 25 3 (.t 7)),
 ⟨some 36, .ld lI 3 (.t 35),none,[0]⟩,
 ⟨some 37, .call 41 [lI] [lB] [(.t 36)],none,[0,1]⟩,
 ⟨some 38, .not (.t 37),none,[0,1,2]⟩,
 ⟨some 39, .mov (.t 38),none,[0,1,2,3]⟩,
 ⟨some 40, .xA 0 1 25 3 (.t 7),some (39,false),[0,1,2,3,4]⟩,
 ⟨some 41, .ld lI 3 (.t 40),some (39,false),[0,1,2,3,4,5]⟩,
 ⟨some 42, .mov (.t 0),some (39,false),[0,1,2,3,4]⟩,
 ⟨some 43, .mov (.t 6),some (39,false),[0,1,2,3,4]⟩,
 ⟨some 44, .iad 68 lA8 (.t 42) (.c lI [.int 0]),some (39,false),[0,1,2,3,4,7]⟩,
 ⟨some 45, .qF 2 68 25 lH (.t 44) (.t 43),some (39,false),[0,1,2,3,4,7,8,9]⟩,
 ⟨some 46, .xA 0 1 25 3 (.t 45),some (39,false),[0,1,2,3,4,7,8,9,10]⟩,
 ⟨some 47, .ld lI 3 (.t 46),some (39,false),[0,1,2,3,4,7,8,9,10,11]⟩,
 ⟨some 48, .dA .neq (.t 41) (.t 47),some (39,false),[0,1,2,3,4,5,6,7,8,9,10,11,12]⟩,
 ⟨some 49, .pick (.t 39) (.c lB [.bool true]) (.t 48),none,[0,1,2,3,4,5,6,7,8,9,10,11,12,13]⟩] true 0))
 (.cond (.t 49) (.seq (.region [] [oq 2 (.mov (.c lI [.int 8]))] false 0)
 .ret)
 .skip))
 (.seq (.region [] [oq 50 (.xA 1 1 25 3 (.t 7)),
 ⟨some 51, .ld lI 3 (.t 50),none,[0]⟩,
 ⟨some 52, .call 20 [lI] [lS] [(.t 51)],none,[0,1]⟩,
 ⟨some 53, .aU0 (.t 52) (.c lS [.str ([32]:List UInt8)]),none,[0,1,2]⟩,
 oq 54 (.xA 2 1 25 9 (.t 7)),
 ⟨some 55, .ld lS 9 (.t 54),none,[4]⟩,
 ⟨some 56, .aU0 (.t 53) (.t 55),none,[0,1,2,3,4,5]⟩,
 ⟨some 9, .mov (.t 56),none,[0,1,2,3,4,5,6]⟩] true 0)
 (.seq (.seq (.region [] [oq 57 (.mov (.t 6)),
 oq 58 (.aTv 2 1 (.t 3) (.t 57)),
 oq 59 (.n3 (.t 58)),
 oq 60 (.mov (.t 9)),
 oq 61 (.lk lS lB [.bool false] (.t 59) (.t 60) false)] false 0)
 (.cond (.t 61) (.seq (.region [] [oq 2 (.mov (.c lI [.int 5]))] false 0)
 .ret)
 .skip))
 (.region [] [oq 62 (.mov (.t 6)),
 oq 63 (.aTv 2 1 (.t 3) (.t 62)),
 oq 64 (.n3 (.t 63)),
 oq 65 (.mov (.t 9)),
 ⟨none, .mup lS (.t 64) (.t 65) (.c lB [.bool true]),none,[]⟩] false 0)))))))
 (.region [] [oq 66 (.tB .add (.t 26) (.c lI [.int 1])),
 oq 26 (.mov (.t 66))] false 0))))
noncomputable def wF (E:Env) (v0:C) (v1:C) (v2:Int) (v3:Int) (v4:Row) (v5:Int) (v6:List (Row×Row)) (v7:List (Row×Row)):Option (Nat×List PV):=E.fix (stepOf E aBH aBF aBG) [.r [v0], .r [v1], .r [.int v2], .r [.int v3], .r v4, .r [.int v5], .m v6, .m v7]
noncomputable def xP (E:Env) (X:C→C→Int→Int→Row→Int→List (Row×Row)→List (Row×Row)→Option (Nat×List PV)) (v0:C) (v1:C) (v2:Int) (v3:Int) (v4:Row) (v5:Int) (v6:List (Row×Row)) (v7:List (Row×Row)):Option (Nat×List PV):=
 if (decide (v5<2))=true then
 if (0:Int)≤v5∧v5<(2:Int)then
 (E.pc mH [[at_ v4 (v5.toNat*4),at_ v4 (v5.toNat*4+1),at_ v4 (v5.toNat*4+2),at_ v4 (v5.toNat*4+3)]]).bind fun y1=>
 if (((at_ (aA y1 0) 0).vA) !=0)=true then
 some (1,[.r [.int ((at_ (aA y1 0) 0).vA)]])
 else
 ((E.pc rS [[.int ((at_ v4 (v5.toNat*4)).vA)]]).bind fun y2=>
 let K3:Bool→Option (Nat×List PV):=fun q4=>
 some (0,[.r [v0], .r [.int v5], .r [v1], .r [.int v2], .r [.int v3], .r v4, .r [.int v5], .r [.bool q4], .r [at_ v4 (v5.toNat*4),at_ v4 (v5.toNat*4+1),at_ v4 (v5.toNat*4+2),at_ v4 (v5.toNat*4+3)], .m v6, .m v7])
 if (!((at_ (aA y2 0) 0).lK))=true then
 K3 true
 else
 if (0:Int)≤0∧0<(v0.rows.length:Int)then
 if (0:Int)≤v5∧v5<(2:Int)∧(C.dp (aA v0.rows 0)).jB=true then
 K3 (((at_ v4 (v5.toNat*4)).vA) !=((at_ (aA v0.rows 0) (v5.toNat*4)).vA))
 else none
 else none).bind fun x5=>
 if (gB 7 x5.2)=true then
 some (1,[.r [.int 8]])
 else
 (E.pc qD [[.int ((at_ (gR 8 x5.2) 1).vA)]]).bind fun y6=>
 if ((at_ (aA y6 0) 0).mD).length+([32]:List UInt8).length≤1099511627776 then
 if (((at_ (aA y6 0) 0).mD)++([32]:List UInt8)).length+((at_ (gR 8 x5.2) 2).mD).length≤1099511627776 then
 if (gI 1 x5.2)=0 then
 if ((at_ ((sI lS [.str ((((at_ (aA y6 0) 0).mD)++([32]:List UInt8))++((at_ (gR 8 x5.2) 2).mD))] (gM 9 x5.2)).getD [.bool false]) 0).lK)=true then
 some (1,[.r [.int 5]])
 else
 if (gI 1 x5.2)=0 then
 X (gC 0 x5.2) (gC 2 x5.2) (gI 3 x5.2) (gI 4 x5.2) (gR 5 x5.2) (Go.IntKind.i64.wrap ((gI 6 x5.2)+1)) (tQ lS [.str ((((at_ (aA y6 0) 0).mD)++([32]:List UInt8))++((at_ (gR 8 x5.2) 2).mD))] [.bool true] (gM 9 x5.2)) (gM 10 x5.2)
 else
 if (gI 1 x5.2)=1 then
 X (gC 0 x5.2) (gC 2 x5.2) (gI 3 x5.2) (gI 4 x5.2) (gR 5 x5.2) (Go.IntKind.i64.wrap ((gI 6 x5.2)+1)) (gM 9 x5.2) (tQ lS [.str ((((at_ (aA y6 0) 0).mD)++([32]:List UInt8))++((at_ (gR 8 x5.2) 2).mD))] [.bool true] (gM 10 x5.2))
 else
 none
 else
 if (gI 1 x5.2)=1 then
 if ((at_ ((sI lS [.str ((((at_ (aA y6 0) 0).mD)++([32]:List UInt8))++((at_ (gR 8 x5.2) 2).mD))] (gM 10 x5.2)).getD [.bool false]) 0).lK)=true then
 some (1,[.r [.int 5]])
 else
 if (gI 1 x5.2)=0 then
 X (gC 0 x5.2) (gC 2 x5.2) (gI 3 x5.2) (gI 4 x5.2) (gR 5 x5.2) (Go.IntKind.i64.wrap ((gI 6 x5.2)+1)) (tQ lS [.str ((((at_ (aA y6 0) 0).mD)++([32]:List UInt8))++((at_ (gR 8 x5.2) 2).mD))] [.bool true] (gM 9 x5.2)) (gM 10 x5.2)
 else
 if (gI 1 x5.2)=1 then
 X (gC 0 x5.2) (gC 2 x5.2) (gI 3 x5.2) (gI 4 x5.2) (gR 5 x5.2) (Go.IntKind.i64.wrap ((gI 6 x5.2)+1)) (gM 9 x5.2) (tQ lS [.str ((((at_ (aA y6 0) 0).mD)++([32]:List UInt8))++((at_ (gR 8 x5.2) 2).mD))] [.bool true] (gM 10 x5.2))
 else
 none
 else
 none
 else none
 else none
 else none
 else
 some (0,[.r [v0], .r [v1], .r [.int v2], .r [.int v3], .m v6, .m v7])
theorem aMs (E:Env) (X:List PV→Option (Nat×List PV)) (v0:C) (v1:C) (v2:Int) (v3:Int) (v4:Row) (v5:Int) (v6:List (Row×Row)) (v7:List (Row×Row)):stepOf E aBH aBF aBG X [.r [v0], .r [v1], .r [.int v2], .r [.int v3], .r v4, .r [.int v5], .m v6, .m v7]=xP E (fun (v0:C) (v1:C) (v2:Int) (v3:Int) (v4:Row) (v5:Int) (v6:List (Row×Row)) (v7:List (Row×Row))=>X [.r [v0], .r [v1], .r [.int v2], .r [.int v3], .r v4, .r [.int v5], .m v6, .m v7]) v0 v1 v2 v3 v4 v5 v6 v7:=by kernel_rfl
def aBI:Shape:={slots:=[(0, .d (.one (.sl 68))),(3, .ptr 0 0),(19, .d (.one (.sl 68))),(20, .d lI),(21, .d lI)],objs:=[.cells false [.map 1, .map 2], .map lS lB, .map lS lB]}
def aBJ:List (mB×Shape):=[(.exit 0,{slots:=[],objs:=[]}),(.ret,{slots:=[(2, .d lI)],objs:=[]})]
def aBK:zB:=(.seq (.region [] [oq 22 (.dA .lss (.t 21) (.t 20))] false 0)
 (.seq (.cond (.t 22) .skip
 (.exit 0))
 (.seq (.block 1 (.seq (.region [] [oq 23 (.iad 68 lA8 (.t 19) (.t 21)),
 oq 24 (.ld lA8 68 (.t 23)),
 oq 5 (.oB 0 lA8 [.int 0, .int 0, .str [], .fA, .int 0, .int 0, .str [], .fA]),
 ⟨none, .st lA8 (.t 5) (.t 24),none,[]⟩] false 1)
 (.seq (.region [] [oq 25 (.ld lA8 68 (.t 5)),
 oq 26 (.mov (.c lI [.int 0]))] false 0)
 (.block 2 (.loop aBF aBG aBH)))))
 (.region [] [oq 67 (.tB .add (.t 21) (.c lI [.int 1])),
 oq 21 (.mov (.t 67))] false 0))))
noncomputable def xV (E:Env) (v0:C) (v1:C) (v2:Int) (v3:Int) (v4:List (Row×Row)) (v5:List (Row×Row)):Option (Nat×List PV):=E.fix (stepOf E aBK aBI aBJ) [.r [v0], .r [v1], .r [.int v2], .r [.int v3], .m v4, .m v5]
noncomputable def yV (E:Env) (X:C→C→Int→Int→List (Row×Row)→List (Row×Row)→Option (Nat×List PV)) (v0:C) (v1:C) (v2:Int) (v3:Int) (v4:List (Row×Row)) (v5:List (Row×Row)):Option (Nat×List PV):=
 if (decide (v3<v2))=true then
 if (0:Int)≤v3∧v3<(v1.rows.length:Int)then
 (wF E v0 v1 v2 v3 (aA v1.rows v3.toNat) 0 v4 v5).bind fun x7=>
 match x7.1 with
 |0=>
 X (gC 0 x7.2) (gC 1 x7.2) (gI 2 x7.2) (Go.IntKind.i64.wrap ((gI 3 x7.2)+1)) (gM 4 x7.2) (gM 5 x7.2)
 |i8+1=>
 some (1,[.r [.int (gI 0 x7.2)]])
 else none
 else
 some (0,[])
theorem aMt (E:Env) (X:List PV→Option (Nat×List PV)) (v0:C) (v1:C) (v2:Int) (v3:Int) (v4:List (Row×Row)) (v5:List (Row×Row)):stepOf E aBK aBI aBJ X [.r [v0], .r [v1], .r [.int v2], .r [.int v3], .m v4, .m v5]=yV E (fun (v0:C) (v1:C) (v2:Int) (v3:Int) (v4:List (Row×Row)) (v5:List (Row×Row))=>X [.r [v0], .r [v1], .r [.int v2], .r [.int v3], .m v4, .m v5]) v0 v1 v2 v3 v4 v5:=by kernel_rfl
def lY:aD:={ps:=[(.one (.sl 68))],rs:=[lI],res:=[(false,2,none)],body:=(.seq (.region [] [oq 2 (.mov (.c lI [.int 0]))] false 0)
 (.seq (.seq (.region [] [oq 10 (.mov (.t 0)),
 oq 11 (.gE (.t 10)),
 oq 12 (.dA .eql (.t 11) (.c lI [.int 0]))] false 0)
 (.cond (.t 12) (.seq (.region [] [oq 2 (.mov (.c lI [.int 3]))] false 0)
 .ret)
 .skip))
 (.seq (.seq (.region [] [oq 13 (.mov (.t 0)),
 oq 14 (.gE (.t 13)),
 oq 15 (.dA .gtr (.t 14) (.c lI [.int 40]))] false 0)
 (.cond (.t 15) (.seq (.region [] [oq 2 (.mov (.c lI [.int 2]))] false 0)
 .ret)
 .skip))
 (.seq (.region [] [oq 16 (.mkm 0 lS lB),
 oq 17 (.mkm 1 lS lB),
 oq 18 (.bldA [none,none] [(0,1,(.t 16)),(1,1,(.t 17))]),
 oq 3 (.aHA 2 [none,none]),
 ⟨none, .stA 2 (.t 3) (.t 18),none,[]⟩] false 3)
 (.seq (.seq (.region [] [oq 19 (.mov (.t 0)),
 oq 20 (.gE (.t 19)),
 oq 21 (.mov (.c lI [.int 0]))] false 0)
 (.block 0 (.loop aBI aBJ aBK)))
 (.seq (.region [] [oq 2 (.mov (.c lI [.int 0]))] false 0)
 .ret))))))}
noncomputable def aE5 (E:Env) (p0:C):Option (List Row):=
 if ((p0.rows.length:Int)==0)=true then
 some [[.int 3]]
 else
 if (decide ((p0.rows.length:Int)>40))=true then
 some [[.int 2]]
 else
 (xV E p0 p0 (p0.rows.length:Int) 0 [] []).bind fun x9=>
 match x9.1 with
 |0=>
 some [[.int 0]]
 |i10+1=>
 some [[.int (gI 0 x9.2)]]
theorem aMu (E:Env) (p0:C):xE E lY [[p0]]=aE5 E p0:=by kernel_rfl
def mY:aD:={ps:=[fG],rs:=[lI],res:=[(false,2,none)],body:=(.seq (.region [] [oq 1 (.vL fG 29 (.t 0)),
 oq 2 (.mov (.c lI [.int 0]))] false 0)
 (.seq (.seq (.region [] [oq 4 (.xA 0 1 29 3 (.t 1)),
 oq 5 (.ld lI 3 (.t 4))] false 0)
 (.block 0 (.seq (.region [] [oq 7 (.dA .eql (.t 5) (.c lI [.int 14])),
 oq 6 (.mov (.t 7))] false 0)
 (.cond (.t 6) (.seq (.seq (.region [] [oq 8 (.xA 3 1 29 22 (.t 1)),
 oq 9 (.ld (.one (.sl 9)) 22 (.t 8)),
 oq 10 (.gE (.t 9)),
 oq 11 (.xA 13 1 29 27 (.t 1)),
 oq 12 (.ld (.one (.sl 29)) 27 (.t 11)),
 oq 13 (.gE (.t 12)),
 oq 14 (.dA .neq (.t 10) (.t 13))] false 0)
 (.cond (.t 14) (.seq (.region [] [oq 2 (.mov (.c lI [.int 3]))] false 0)
 .ret)
 .skip))
 (.seq (.region [] [oq 15 (.xA 3 1 29 22 (.t 1)),
 oq 16 (.ld (.one (.sl 9)) 22 (.t 15)),
 oq 17 (.call 58 [(.one (.sl 9))] [lI] [(.t 16)]),
 oq 2 (.mov (.t 17))] false 0)
 .ret))
 (.seq (.region [] [oq 19 (.dA .eql (.t 5) (.c lI [.int 6])),
 oq 18 (.mov (.t 19))] false 0)
 (.cond (.t 18) (.seq (.region [] [oq 20 (.xA 3 1 29 22 (.t 1)),
 oq 21 (.ld (.one (.sl 9)) 22 (.t 20)),
 oq 22 (.call 58 [(.one (.sl 9))] [lI] [(.t 21)]),
 oq 2 (.mov (.t 22))] false 0)
 .ret)
 (.seq (.region [] [oq 24 (.dA .eql (.t 5) (.c lI [.int 9])),
 oq 23 (.mov (.t 24))] false 0)
 (.cond (.t 23) (.seq (.seq (.region [] [oq 25 (.xA 3 1 29 22 (.t 1)),
 oq 26 (.ld (.one (.sl 9)) 22 (.t 25)),
 oq 27 (.gE (.t 26)),
 oq 28 (.dA .neq (.t 27) (.c lI [.int 2]))] false 0)
 (.cond (.t 28) (.seq (.region [] [oq 2 (.mov (.c lI [.int 3]))] false 0)
 .ret)
 .skip))
 (.seq (.seq (.region [] [oq 29 (.xA 3 1 29 22 (.t 1)),
 oq 30 (.ld (.one (.sl 9)) 22 (.t 29)),
 oq 31 (.iad 9 lS (.t 30) (.c lI [.int 0])),
 oq 32 (.ld lS 9 (.t 31)),
 oq 33 (.call 59 [lS] [lI] [(.t 32)]),
 oq 3 (.mov (.t 33))] false 0)
 (.seq (.region [] [oq 34 (.mov (.t 3)),
 oq 35 (.dA .neq (.t 34) (.c lI [.int 0]))] false 0)
 (.cond (.t 35) (.seq (.region [] [oq 36 (.mov (.t 3)),
 oq 2 (.mov (.t 36))] false 0)
 .ret)
 .skip)))
 (.seq (.region [] [oq 37 (.xA 3 1 29 22 (.t 1)),
 oq 38 (.ld (.one (.sl 9)) 22 (.t 37)),
 oq 39 (.iad 9 lS (.t 38) (.c lI [.int 1])),
 oq 40 (.ld lS 9 (.t 39)),
 oq 41 (.call 59 [lS] [lI] [(.t 40)]),
 oq 2 (.mov (.t 41))] false 0)
 .ret)))
 (.seq (.region [] [oq 43 (.dA .eql (.t 5) (.c lI [.int 11])),
 oq 42 (.mov (.t 43))] false 0)
 (.cond (.t 42) (.seq (.region [] [oq 44 (.xA 12 1 29 26 (.t 1)),
 oq 45 (.ld (.one (.sl 68)) 26 (.t 44)),
 oq 46 (.call 60 [(.one (.sl 68))] [lI] [(.t 45)]),
 oq 2 (.mov (.t 46))] false 0)
 .ret)
 (.seq (.region [] [oq 48 (.dA .eql (.t 5) (.c lI [.int 12])),
 oq 47 (.mov (.t 48))] false 0)
 (.cond (.t 47) (.seq (.region [] [oq 49 (.xA 5 1 29 3 (.t 1)),
 oq 50 (.ld lI 3 (.t 49)),
 oq 51 (.dA .leq (.c lI [.int 0]) (.t 50)),
 oq 52 (.mov (.t 51)),
 ⟨some 53, .xA 5 1 29 3 (.t 1),some (52,true),[]⟩,
 ⟨some 54, .ld lI 3 (.t 53),some (52,true),[]⟩,
 ⟨some 55, .xA 6 1 29 3 (.t 1),some (52,true),[]⟩,
 ⟨some 56, .ld lI 3 (.t 55),some (52,true),[]⟩,
 ⟨some 57, .dA .leq (.t 54) (.t 56),some (52,true),[]⟩,
 oq 58 (.pick (.t 52) (.t 57) (.c lB [.bool false])),
 oq 59 (.mov (.t 58)),
 ⟨some 60, .xA 6 1 29 3 (.t 1),some (59,true),[]⟩,
 ⟨some 61, .ld lI 3 (.t 60),some (59,true),[]⟩,
 ⟨some 62, .dA .leq (.t 61) (.c lI [.int 999999999]),some (59,true),[]⟩,
 oq 63 (.pick (.t 59) (.t 62) (.c lB [.bool false])),
 oq 64 (.not (.t 63))] false 0)
 (.cond (.t 64) (.seq (.region [] [oq 2 (.mov (.c lI [.int 11]))] false 0)
 .ret)
 .skip))
 .skip))))))))))))
 (.seq (.region [] [oq 2 (.mov (.c lI [.int 0]))] false 0)
 .ret)))}
noncomputable def aE6 (E:Env) (p0:Row):Option (List Row):=
 if (((at_ p0 0).vA)==14)=true then
 if ((((at_ p0 3).rows).length:Int) !=(((at_ p0 13).rows).length:Int))=true then
 some [[.int 3]]
 else
 (E.pc dR [[at_ p0 3]]).bind fun y1=>
 some [[.int ((at_ (aA y1 0) 0).vA)]]
 else
 if (((at_ p0 0).vA)==6)=true then
 (E.pc dR [[at_ p0 3]]).bind fun y2=>
 some [[.int ((at_ (aA y2 0) 0).vA)]]
 else
 if (((at_ p0 0).vA)==9)=true then
 if ((((at_ p0 3).rows).length:Int) !=2)=true then
 some [[.int 3]]
 else
 if (0:Int)≤0∧0<(((at_ p0 3).rows).length:Int)then
 (E.pc cI [[.str ((at_ (aA ((at_ p0 3).rows) 0) 0).mD)]]).bind fun y3=>
 if (((at_ (aA y3 0) 0).vA) !=0)=true then
 some [[.int ((at_ (aA y3 0) 0).vA)]]
 else
 if (0:Int)≤1∧1<(((at_ p0 3).rows).length:Int)then
 (E.pc cI [[.str ((at_ (aA ((at_ p0 3).rows) 1) 0).mD)]]).bind fun y4=>
 some [[.int ((at_ (aA y4 0) 0).vA)]]
 else none
 else none
 else
 if (((at_ p0 0).vA)==11)=true then
 (E.pc aCD [[at_ p0 12]]).bind fun y5=>
 some [[.int ((at_ (aA y5 0) 0).vA)]]
 else
 if (((at_ p0 0).vA)==12)=true then
 let K6:Bool→Option (List Row):=fun q7=>
 let K8:Bool→Option (List Row):=fun q9=>
 if (!q9)=true then
 some [[.int 11]]
 else
 some [[.int 0]]
 if q7=true then
 K8 (decide (((at_ p0 6).vA)≤999999999))
 else
 K8 false
 if (decide (0≤((at_ p0 5).vA)))=true then
 K6 (decide (((at_ p0 5).vA)≤((at_ p0 6).vA)))
 else
 K6 false
 else
 some [[.int 0]]
theorem aMv (E:Env) (p0:Row):xE E mY [p0]=aE6 E p0:=by kernel_rfl
end Go.Ev
