/-
  A part of the proof: what the functions of the program compute.
-/
import Derived.Test.YtfonaepdedbhhaaGreatDoorZNum
set_option linter.all false
set_option maxRecDepth 100000
namespace Go.Ev
def aAd:Shape:={slots:=[(0, .d (.one (.ref 153))),(3, .ptr 0 0),(4, .d lI),(6, .d lI),(13, .d lI),(14, .d lI)],objs:=bS0}
def aAe:List (mB×Shape):=[(.exit 2,{slots:=[(0, .d (.one (.ref 153))),(3, .ptr 0 0),(6, .d lI)],objs:=bS0})]
def aAf:zB:=(.seq (.region [] [oq 15 (.dA .lss (.t 14) (.t 13))] false 0)
 (.seq (.cond (.t 15) .skip
 (.exit 2))
 (.seq (.block 3 (.seq (.region [] [oq 16 (.mov (.t 14)),
 oq 5 (.mov (.t 16))] false 0)
 (.seq (.region [] [oq 17 (.mov (.t 0)),
 oq 18 (.eC (.t 17)),
 oq 19 (.xA 0 1 153 146 (.t 18)),
 oq 20 (.ld (.one (.sl 181)) 146 (.t 19)),
 oq 21 (.mov (.t 5)),
 oq 22 (.iad 181 bE (.t 20) (.t 21)),
 oq 23 (.mov (.t 4)),
 oq 24 (.i2i .u8 (.t 23)),
 oq 25 (.call 122 [(.one (.ref 181)),lU] [lB] [(.t 22),(.t 24)])] false 0)
 (.cond (.t 25) (.region [] [oq 26 (.mov (.t 4)),
 oq 27 (.qF 256 187 149 bE (.t 3) (.t 26)),
 oq 28 (.mov (.t 5)),
 oq 29 (.nB 189 105 (aBr) (aBs) [0] 0 none [(.t 27),(.t 28)])] false 0)
 .skip))))
 (.region [] [oq 30 (.tB .add (.t 14) (.c lI [.int 1])),
 oq 14 (.mov (.t 30))] false 0))))
noncomputable def iT (E:Env) (v0:C) (v1:Int) (v2:Int) (v3:Int) (v4:Int) (v5:Row):Option (Nat×List PV):=E.fix (stepOf E aAf aAd aAe) [.r [v0], .r [.int v1], .r [.int v2], .r [.int v3], .r [.int v4], .r v5]
noncomputable def jT (E:Env) (X:C→Int→Int→Int→Int→Row→Option (Nat×List PV)) (v0:C) (v1:Int) (v2:Int) (v3:Int) (v4:Int) (v5:Row):Option (Nat×List PV):=
 if (decide (v4<v3))=true then
 if v0.jB=true then
 if v0.jB=true then
 if (0:Int)≤v4∧v4<(((at_ v0.cA 0).rows).length:Int)then
 (E.pc kZ [[.dp (aA ((at_ v0.cA 0).rows) v4.toNat)],[.int (Go.IntKind.u8.wrap v1)]]).bind fun y1=>
 if ((at_ (aA y1 0) 0).lK)=true then
 if (0:Int)≤v1∧v1<(256:Int)then
 (E.ic aV [.r [.int ((0+(v1.toNat*4):Nat):Int)], .r [.int v4], .r v5]).bind fun y2=>
 X v0 v1 v2 v3 (Go.IntKind.i64.wrap (v4+1)) (gR 0 y2)
 else none
 else
 X v0 v1 v2 v3 (Go.IntKind.i64.wrap (v4+1)) v5
 else none
 else none
 else none
 else
 some (0,[.r [v0], .r [.int v2], .r v5])
theorem aK9 (E:Env) (X:List PV→Option (Nat×List PV)) (v0:C) (v1:Int) (v2:Int) (v3:Int) (v4:Int) (v5:Row):stepOf E aAf aAd aAe X [.r [v0], .r [.int v1], .r [.int v2], .r [.int v3], .r [.int v4], .r v5]=jT E (fun (v0:C) (v1:Int) (v2:Int) (v3:Int) (v4:Int) (v5:Row)=>X [.r [v0], .r [.int v1], .r [.int v2], .r [.int v3], .r [.int v4], .r v5]) v0 v1 v2 v3 v4 v5:=by kernel_rfl
def aAg:Shape:={slots:=[(0, .d (.one (.ref 153))),(3, .ptr 0 0),(6, .d lI)],objs:=bS0}
def aAh:List (mB×Shape):=[(.exit 0,{slots:=[(3, .ptr 0 0)],objs:=bS0})]
def aAi:zB:=(.seq (.region [] [oq 7 (.dA .lss (.t 6) (.c lI [.int 256]))] false 0)
 (.seq (.cond (.t 7) .skip
 (.exit 0))
 (.seq (.block 1 (.seq (.region [] [oq 8 (.mov (.t 6)),
 oq 4 (.mov (.t 8))] false 0)
 (.seq (.region [] [oq 9 (.mov (.t 0)),
 oq 10 (.eC (.t 9)),
 oq 11 (.xA 0 1 153 146 (.t 10)),
 oq 12 (.ld (.one (.sl 181)) 146 (.t 11)),
 oq 13 (.gE (.t 12)),
 oq 14 (.mov (.c lI [.int 0]))] false 0)
 (.block 2 (.loop aAd aAe aAf)))))
 (.region [] [oq 31 (.tB .add (.t 6) (.c lI [.int 1])),
 oq 6 (.mov (.t 31))] false 0))))
noncomputable def kT (E:Env) (v0:C) (v1:Int) (v2:Row):Option (Nat×List PV):=E.fix (stepOf E aAi aAg aAh) [.r [v0], .r [.int v1], .r v2]
noncomputable def lT (E:Env) (X:C→Int→Row→Option (Nat×List PV)) (v0:C) (v1:Int) (v2:Row):Option (Nat×List PV):=
 if (decide (v1<256))=true then
 if v0.jB=true then
 if v0.jB=true then
 (iT E v0 v1 v1 (((at_ v0.cA 0).rows).length:Int) 0 v2).bind fun x3=>
 X (gC 0 x3.2) (Go.IntKind.i64.wrap ((gI 1 x3.2)+1)) (gR 2 x3.2)
 else none
 else none
 else
 some (0,[.r v2])
theorem aLa (E:Env) (X:List PV→Option (Nat×List PV)) (v0:C) (v1:Int) (v2:Row):stepOf E aAi aAg aAh X [.r [v0], .r [.int v1], .r v2]=lT E (fun (v0:C) (v1:Int) (v2:Row)=>X [.r [v0], .r [.int v1], .r v2]) v0 v1 v2:=by kernel_rfl
def sV:aD:={ps:=[(.one (.ref 153))],rs:=[(.one (.ref 187))],res:=[(false,2,none)],body:=(.seq (.region [] [oq 2 (.mov (.c (.one (.ref 187)) [.aPi]))] false 0)
 (.seq (.region [] [oq 3 (.oB 0 (.agg (List.replicate 1024 (.int .u64))) (List.replicate 1024 (C.int 0)))] false 1)
 (.seq (.seq (.region [] [oq 6 (.mov (.c lI [.int 0]))] false 0)
 (.block 0 (.loop aAg aAh aAi)))
 (.seq (.region [(3,187,some (.agg (List.replicate 1024 (.int .u64))))] [oq 2 (.mov (.t 3))] false 0)
 .ret))))}
noncomputable def aDM (E:Env) (p0:C):Option (List Row):=
 (kT E p0 0 (List.replicate 1024 (C.int 0))).bind fun x4=>
 some [[.dp (gR 0 x4.2)]]
theorem aLb (E:Env) (p0:C):xE E sV [[p0]]=aDM E p0:=by kernel_rfl
def aS:Shape:={slots:=[(0, .ptr 0 0),(3, .d (.one (.ref 149))),(5, .d lI)],objs:=[.var bE],m:=1}
def bS:List (mB×Shape):=[(.exit 0,{slots:=[],objs:=[.var bE],m:=1})]
def cS:zB:=(.seq (.region [] [oq 6 (.dA .lss (.t 5) (.c lI [.int 4]))] false 0)
 (.seq (.cond (.t 6) .skip
 (.exit 0))
 (.seq (.block 1 (.seq (.region [] [oq 7 (.mov (.t 5)),
 oq 4 (.mov (.t 7))] false 0)
 (.region [] [oq 8 (.mov (.t 0)),
 oq 9 (.mov (.t 4)),
 ⟨some 10, .eC (.t 8),none,[0]⟩,
 ⟨some 11, .qF 4 149 86 lW (.t 10) (.t 9),none,[0,1,2]⟩,
 ⟨some 12, .ld lW 86 (.t 11),none,[0,1,2,3]⟩,
 oq 13 (.mov (.t 4)),
 ⟨some 14, .qF 4 149 86 lW (.t 3) (.t 13),none,[5]⟩,
 ⟨some 15, .ld lW 86 (.t 14),none,[5,6]⟩,
 ⟨some 16, .tB .or (.t 12) (.t 15),none,[0,1,2,3,4,5,6,7]⟩,
 ⟨some 17, .eC (.t 8),none,[0]⟩,
 ⟨some 18, .qF 4 149 86 lW (.t 17) (.t 9),none,[0,1,2,3,4,5,6,7,8,9]⟩,
 ⟨none, .st lW (.t 18) (.t 16),none,[0,1,2,3,4,5,6,7,8,9,10]⟩] true 0)))
 (.region [] [oq 19 (.tB .add (.t 5) (.c lI [.int 1])),
 oq 5 (.mov (.t 19))] false 0))))
noncomputable def yK (E:Env) (v0:C) (v1:Int) (v2:Row):Option (Nat×List PV):=E.fix (stepOf E cS aS bS) [.r [v0], .r [.int v1], .r v2]
noncomputable def zK (E:Env) (X:C→Int→Row→Option (Nat×List PV)) (v0:C) (v1:Int) (v2:Row):Option (Nat×List PV):=
 if (decide (v1<4))=true then
 if (0:Int)≤v1∧v1<(4:Int)then
 part lW bE (0+(v1.toNat*1)) v2 fun y1=>
 if (0:Int)≤v1∧v1<(4:Int)∧v0.jB=true then
 if (0:Int)≤v1∧v1<(4:Int)then
 aA1 lW bE (0+(v1.toNat*1)) v2 [.int (bitsOf .or .u64 ((at_ y1 0).vA) ((at_ v0.cA (v1.toNat*1)).vA))] fun r2=>
 X v0 (Go.IntKind.i64.wrap (v1+1)) r2
 else none
 else none
 else none
 else
 some (0,[.r v2])
theorem aG4 (E:Env) (X:List PV→Option (Nat×List PV)) (v0:C) (v1:Int) (v2:Row):stepOf E cS aS bS X [.r [v0], .r [.int v1], .r v2]=zK E (fun (v0:C) (v1:Int) (v2:Row)=>X [.r [v0], .r [.int v1], .r v2]) v0 v1 v2:=by kernel_rfl
def pM:rZ:={fn:=124,entry:=aAF,res:=[],exit:=aAG,body:=(.seq (.region [] [oq 3 (.vL bE 149 (.t 1))] false 0)
 (.seq (.region [] [oq 5 (.mov (.c lI [.int 0]))] false 0)
 (.block 0 (.loop aS bS cS))))}
noncomputable def yW (E:Env) (p0:Row) (p1:Row):Option (List PV):=
 (yK E (.dp p0) 0 p1).bind fun x3=>
 some [.r (gR 0 x3.2)]
theorem aG5 (E:Env) (p0:Row) (p1:Row):j9 E pM [.r p0, .r p1]=yW E p0 p1:=by kernel_rfl
def mT:Shape:={slots:=[(0, .d (.one (.ref 153))),(3, .d (.one (.ref 149))),(4, .ptr 0 0),(5, .ptr 1 0),(11, .d lI),(12, .d lI)],objs:=[.var bE, .var bE]}
def nT:List (mB×Shape):=[(.exit 0,{slots:=[(4, .ptr 0 0),(5, .ptr 1 0)],objs:=[.var bE, .var bE]})]
def oT:zB:=(.seq (.region [] [oq 13 (.dA .lss (.t 12) (.t 11))] false 0)
 (.seq (.cond (.t 13) .skip
 (.exit 0))
 (.seq (.block 1 (.seq (.region [] [oq 14 (.mov (.t 12)),
 oq 6 (.mov (.t 14))] false 0)
 (.seq (.region [] [oq 15 (.mov (.t 6)),
 oq 16 (.call 123 [(.one (.ref 149)),lI] [lB] [(.t 3),(.t 15)])] false 0)
 (.cond (.t 16) (.region [] [oq 17 (.mov (.t 0)),
 oq 18 (.eC (.t 17)),
 oq 19 (.xA 1 1 153 147 (.t 18)),
 oq 20 (.ld (.one (.sl 149)) 147 (.t 19)),
 oq 21 (.mov (.t 6)),
 oq 22 (.iad 149 bE (.t 20) (.t 21)),
 oq 23 (.ld bE 149 (.t 22)),
 oq 24 (.nB 190 124 (aAF) (aAG) [1] 0 none [(.t 5),(.t 23)])] false 0)
 .skip))))
 (.region [] [oq 25 (.tB .add (.t 12) (.c lI [.int 1])),
 oq 12 (.mov (.t 25))] false 0))))
noncomputable def qM (E:Env) (v0:C) (v1:C) (v2:Int) (v3:Int) (v4:Row) (v5:Row):Option (Nat×List PV):=E.fix (stepOf E oT mT nT) [.r [v0], .r [v1], .r [.int v2], .r [.int v3], .r v4, .r v5]
noncomputable def rM (E:Env) (X:C→C→Int→Int→Row→Row→Option (Nat×List PV)) (v0:C) (v1:C) (v2:Int) (v3:Int) (v4:Row) (v5:Row):Option (Nat×List PV):=
 if (decide (v3<v2))=true then
 (E.pc rP [[v1],[.int v3]]).bind fun y1=>
 if ((at_ (aA y1 0) 0).lK)=true then
 if v0.jB=true then
 if v0.jB=true then
 if (0:Int)≤v3∧v3<(((at_ v0.cA 1).rows).length:Int)then
 (E.ic pT [.r (aA ((at_ v0.cA 1).rows) v3.toNat), .r v5]).bind fun y2=>
 X v0 v1 v2 (Go.IntKind.i64.wrap (v3+1)) v4 (gR 0 y2)
 else none
 else none
 else none
 else
 X v0 v1 v2 (Go.IntKind.i64.wrap (v3+1)) v4 v5
 else
 some (0,[.r v4, .r v5])
theorem aIj (E:Env) (X:List PV→Option (Nat×List PV)) (v0:C) (v1:C) (v2:Int) (v3:Int) (v4:Row) (v5:Row):stepOf E oT mT nT X [.r [v0], .r [v1], .r [.int v2], .r [.int v3], .r v4, .r v5]=rM E (fun (v0:C) (v1:C) (v2:Int) (v3:Int) (v4:Row) (v5:Row)=>X [.r [v0], .r [v1], .r [.int v2], .r [.int v3], .r v4, .r v5]) v0 v1 v2 v3 v4 v5:=by kernel_rfl
def jO:aD:={ps:=[(.one (.ref 153)),bE],rs:=[bE],res:=[(true,4,none)],body:=(.seq (.region [] [oq 3 (.vL bE 149 (.t 1)),
 oq 4 (.oB 0 bE [.int 0, .int 0, .int 0, .int 0])] false 1)
 (.seq (.region [] [oq 5 (.oB 0 bE [.int 0, .int 0, .int 0, .int 0])] false 1)
 (.seq (.seq (.region [] [oq 7 (.mov (.t 0)),
 oq 8 (.eC (.t 7)),
 oq 9 (.xA 1 1 153 147 (.t 8)),
 oq 10 (.ld (.one (.sl 149)) 147 (.t 9)),
 oq 11 (.gE (.t 10)),
 oq 12 (.mov (.c lI [.int 0]))] false 0)
 (.block 0 (.loop mT nT oT)))
 (.seq (.region [] [oq 26 (.ld bE 149 (.t 5)),
 ⟨none, .st bE (.t 4) (.t 26),none,[]⟩] false 0)
 .ret))))}
noncomputable def lZ (E:Env) (p0:C) (p1:Row):Option (List Row):=
 if p0.jB=true then
 if p0.jB=true then
 (qM E p0 (.dp p1) (((at_ p0.cA 1).rows).length:Int) 0 [.int 0, .int 0, .int 0, .int 0] [.int 0, .int 0, .int 0, .int 0]).bind fun x3=>
 some [gR 1 x3.2]
 else none
 else none
theorem aIk (E:Env) (p0:C) (p1:Row):xE E jO [[p0],p1]=lZ E p0 p1:=by kernel_rfl
def zW:Shape:={slots:=[(0, .d (.one (.ref 153))),(3, .d (.one (.ref 149))),(14, .d lI)],objs:=[]}
def aX:List (mB×Shape):=[(.exit 0,{slots:=[],objs:=[]}),(.ret,{slots:=[(4, .d lB)],objs:=[]})]
def bX:zB:=(.seq (.region [] [oq 15 (.dA .lss (.t 14) (.c lI [.int 4]))] false 0)
 (.seq (.cond (.t 15) .skip
 (.exit 0))
 (.seq (.block 1 (.seq (.region [] [oq 16 (.mov (.t 14)),
 oq 5 (.mov (.t 16))] false 0)
 (.seq (.region [] [oq 17 (.mov (.t 5)),
 ⟨some 18, .qF 4 149 86 lW (.t 3) (.t 17),none,[0]⟩,
 ⟨some 19, .ld lW 86 (.t 18),none,[0,1]⟩,
 oq 20 (.mov (.t 0)),
 oq 21 (.mov (.t 5)),
 ⟨some 22, .eC (.t 20),none,[3]⟩,
 ⟨some 23, .xA 2 9 153 151 (.t 22),none,[3,5]⟩,
 ⟨some 24, .xA 5 4 151 149 (.t 23),none,[3,5,6]⟩,
 ⟨some 25, .qF 4 149 86 lW (.t 24) (.t 21),none,[3,4,5,6,7]⟩,
 ⟨some 26, .ld lW 86 (.t 25),none,[3,4,5,6,7,8]⟩,
 ⟨some 27, .tB .and (.t 19) (.t 26),none,[0,1,2,3,4,5,6,7,8,9]⟩,
 ⟨some 28, .dA .neq (.t 27) (.c lW [.int 0]),none,[0,1,2,3,4,5,6,7,8,9,10]⟩] true 0)
 (.cond (.t 28) (.seq (.region [] [oq 4 (.mov (.c lB [.bool true]))] false 0)
 .ret)
 .skip))))
 (.region [] [oq 29 (.tB .add (.t 14) (.c lI [.int 1])),
 oq 14 (.mov (.t 29))] false 0))))
noncomputable def sP (E:Env) (v0:C) (v1:C) (v2:Int):Option (Nat×List PV):=E.fix (stepOf E bX zW aX) [.r [v0], .r [v1], .r [.int v2]]
noncomputable def uP (E:Env) (X:C→C→Int→Option (Nat×List PV)) (v0:C) (v1:C) (v2:Int):Option (Nat×List PV):=
 if (decide (v2<4))=true then
 if (0:Int)≤v2∧v2<(4:Int)∧v1.jB=true then
 if v0.jB=true then
 if v0.jB=true then
 if (0:Int)≤v2∧v2<(4:Int)∧(C.dp [at_ v0.cA 7,at_ v0.cA 8,at_ v0.cA 9,at_ v0.cA 10]).jB=true then
 if ((bitsOf .and .u64 ((at_ v1.cA (v2.toNat*1)).vA) ((at_ [at_ v0.cA 7,at_ v0.cA 8,at_ v0.cA 9,at_ v0.cA 10] (v2.toNat*1)).vA)) !=0)=true then
 some (1,[.r [.bool true]])
 else
 X v0 v1 (Go.IntKind.i64.wrap (v2+1))
 else none
 else none
 else none
 else none
 else
 some (0,[])
theorem aJy (E:Env) (X:List PV→Option (Nat×List PV)) (v0:C) (v1:C) (v2:Int):stepOf E bX zW aX X [.r [v0], .r [v1], .r [.int v2]]=uP E (fun (v0:C) (v1:C) (v2:Int)=>X [.r [v0], .r [v1], .r [.int v2]]) v0 v1 v2:=by kernel_rfl
def bR:aD:={ps:=[(.one (.ref 153)),bE],rs:=[lB],res:=[(false,4,none)],body:=(.seq (.region [] [oq 3 (.vL bE 149 (.t 1)),
 oq 4 (.mov (.c lB [.bool false]))] false 0)
 (.seq (.seq (.join [(.normal,{slots:=[(0, .d (.one (.ref 153))),(3, .d (.one (.ref 149))),(13, .d lB)],objs:=[]})] (.region [] [oq 6 (.call 123 [(.one (.ref 149)),lI] [lB] [(.t 3),(.c lI [.int 0])]),
 oq 7 (.mov (.t 6)),
 ⟨some 8, .mov (.t 0),some (7,true),[]⟩,
 ⟨some 9, .eC (.t 8),some (7,true),[]⟩,
 ⟨some 10, .xA 2 9 153 151 (.t 9),some (7,true),[]⟩,
 ⟨some 11, .xA 0 1 151 4 (.t 10),some (7,true),[]⟩,
 ⟨some 12, .ld lB 4 (.t 11),some (7,true),[]⟩,
 oq 13 (.pick (.t 7) (.t 12) (.c lB [.bool false]))] false 0))
 (.cond (.t 13) (.seq (.region [] [oq 4 (.mov (.c lB [.bool true]))] false 0)
 .ret)
 .skip))
 (.seq (.seq (.region [] [oq 14 (.mov (.c lI [.int 0]))] false 0)
 (.block 0 (.loop zW aX bX)))
 (.seq (.region [] [oq 4 (.mov (.c lB [.bool false]))] false 0)
 .ret))))}
noncomputable def aBt (E:Env) (p0:C) (p1:Row):Option (List Row):=
 ((E.pc rP [[.dp p1],[.int 0]]).bind fun y1=>
 let K2:Bool→Option (Nat×List PV):=fun q3=>
 some (0,[.r [p0], .r [.dp p1], .r [.bool q3]])
 if ((at_ (aA y1 0) 0).lK)=true then
 if p0.jB=true then
 if p0.jB=true then
 K2 ((at_ p0.cA 2).lK)
 else none
 else none
 else
 K2 false).bind fun x4=>
 if (gB 2 x4.2)=true then
 some [[.bool true]]
 else
 (sP E (gC 0 x4.2) (gC 1 x4.2) 0).bind fun x5=>
 match x5.1 with
 |0=>
 some [[.bool false]]
 |i6+1=>
 some [[.bool (gB 0 x5.2)]]
theorem aJz (E:Env) (p0:C) (p1:Row):xE E bR [[p0],p1]=aBt E p0 p1:=by kernel_rfl
def vP:rZ:={fn:=105,entry:=aCd,res:=[],exit:=aCe,body:=(.region [] [oq 4 (.mov (.t 0)),
 oq 5 (.mov (.t 1)),
 ⟨some 6, .idiv .quo (.t 5) (.c lI [.int 64]),none,[1]⟩,
 ⟨some 7, .eC (.t 4),none,[0]⟩,
 ⟨some 8, .qF 4 149 86 lW (.t 7) (.t 6),none,[0,1,2,3]⟩,
 ⟨some 9, .ld lW 86 (.t 8),none,[0,1,2,3,4]⟩,
 oq 10 (.mov (.t 1)),
 ⟨some 11, .idiv .rem (.t 10) (.c lI [.int 64]),none,[6]⟩,
 ⟨some 12, .shf .shl (.c lW [.int 1]) (.t 11),none,[6,7]⟩,
 ⟨some 13, .tB .or (.t 9) (.t 12),none,[0,1,2,3,4,5,6,7,8]⟩,
 ⟨some 14, .eC (.t 4),none,[0]⟩,
 ⟨some 15, .qF 4 149 86 lW (.t 14) (.t 6),none,[0,1,2,3,4,5,6,7,8,9,10]⟩,
 ⟨none, .st lW (.t 15) (.t 13),none,[0,1,2,3,4,5,6,7,8,9,10,11]⟩] true 0)}
noncomputable def aAj (E:Env) (p0:Int) (p1:Row):Option (List PV):=
 if (0:Int)≤(Go.IntKind.i64.wrap (p0.tdiv 64))∧(Go.IntKind.i64.wrap (p0.tdiv 64))<(4:Int)then
 part lW bE (0+(((Go.IntKind.i64.wrap (p0.tdiv 64)).toNat)*1)) p1 fun y1=>
 if p0.tmod 64<0 then none else if (0:Int)≤(Go.IntKind.i64.wrap (p0.tdiv 64))∧(Go.IntKind.i64.wrap (p0.tdiv 64))<(4:Int)then
 aA1 lW bE (0+(((Go.IntKind.i64.wrap (p0.tdiv 64)).toNat)*1)) p1 [.int (bitsOf .or .u64 ((at_ y1 0).vA) (Go.IntKind.u64.wrap (1*2^(min ((p0.tmod 64).toNat) (Go.IntKind.bits .u64)))))] fun r2=>
 some [.r r2]
 else none
 else none
theorem aIZ (E:Env) (p0:Int) (p1:Row):j9 E vP [.r [.int p0], .r p1]=aAj E p0 p1:=by kernel_rfl
def aCq:Shape:={slots:=[(2, .ptr 0 0),(4, .d (.one (.ref 153))),(7, .map 1),(8, .sw 2),(9, .ptr 3 0),(10, .d (.one (.ref 187))),(11, .d lI),(12, .ptr 4 0),(13, .ptr 5 0),(14, .d lI),(15, .ptr 6 0),(46, .d lI),(50, .d lI)],objs:=[.var lA7, .map bE (.one (.int .i16)), .uA 149 bE, .cells false [.sw 7, .sw 8], .var (.agg (List.replicate 256 (.int .i16))), .var bE, .var bE, .uA 160 (.agg (List.replicate 256 (.int .i16))), .uA 4 lB]}
def aCr:List (mB×Shape):=[(.exit 4,{slots:=[(2, .ptr 0 0),(4, .d (.one (.ref 153))),(7, .map 1),(8, .sw 2),(9, .ptr 3 0),(10, .d (.one (.ref 187))),(11, .d lI),(12, .ptr 4 0),(13, .ptr 5 0),(14, .d lI),(15, .ptr 6 0),(46, .d lI)],objs:=[.var lA7, .map bE (.one (.int .i16)), .uA 149 bE, .cells false [.sw 7, .sw 8], .var (.agg (List.replicate 256 (.int .i16))), .var bE, .var bE, .uA 160 (.agg (List.replicate 256 (.int .i16))), .uA 4 lB]})]
def aCs:zB:=(.seq (.region [] [oq 51 (.dA .lss (.t 50) (.c lI [.int 4]))] false 0)
 (.seq (.cond (.t 51) .skip
 (.exit 4))
 (.seq (.block 5 (.seq (.region [] [oq 52 (.mov (.t 50)),
 oq 16 (.mov (.t 52))] false 0)
 (.region [] [oq 53 (.mov (.t 16)),
 ⟨some 54, .qF 4 149 86 lW (.t 15) (.t 53),none,[0]⟩,
 ⟨some 55, .ld lW 86 (.t 54),none,[0,1]⟩,
 oq 56 (.mov (.t 10)),
 oq 57 (.mov (.t 14)),
 oq 58 (.mov (.t 16)),
 ⟨some 59, .eC (.t 56),none,[3]⟩,
 ⟨some 60, .qF 256 187 149 bE (.t 59) (.t 57),none,[3,4,6]⟩,
 ⟨some 61, .qF 4 149 86 lW (.t 60) (.t 58),none,[3,4,5,6,7]⟩,
 ⟨some 62, .ld lW 86 (.t 61),none,[3,4,5,6,7,8]⟩,
 ⟨some 63, .tB .and (.t 55) (.t 62),none,[0,1,2,3,4,5,6,7,8,9]⟩,
 ⟨some 64, .qF 4 149 86 lW (.t 15) (.t 53),none,[0,1,2,3,4,5,6,7,8,9,10]⟩,
 ⟨none, .st lW (.t 64) (.t 63),none,[0,1,2,3,4,5,6,7,8,9,10,11]⟩] true 0)))
 (.region [] [oq 65 (.tB .add (.t 50) (.c lI [.int 1])),
 oq 50 (.mov (.t 65))] false 0))))
noncomputable def bY (E:Env) (v0:C) (v1:C) (v2:Int) (v3:Int) (v4:Int) (v5:Int) (v6:Row) (v7:List (Row×Row)) (v8:C) (v9:Row) (v10:Row) (v11:Row) (v12:C) (eM:C):Option (Nat×List PV):=E.fix (stepOf E aCs aCq aCr) [.r [v0], .r [v1], .r [.int v2], .r [.int v3], .r [.int v4], .r [.int v5], .r v6, .m v7, .r [v8], .r v9, .r v10, .r v11, .r [v12], .r [eM]]
noncomputable def cY (E:Env) (X:C→C→Int→Int→Int→Int→Row→List (Row×Row)→C→Row→Row→Row→C→C→Option (Nat×List PV)) (v0:C) (v1:C) (v2:Int) (v3:Int) (v4:Int) (v5:Int) (v6:Row) (v7:List (Row×Row)) (v8:C) (v9:Row) (v10:Row) (v11:Row) (v12:C) (eM:C):Option (Nat×List PV):=
 if (decide (v5<4))=true then
 if (0:Int)≤v5∧v5<(4:Int)then
 part lW bE (0+(v5.toNat*1)) v11 fun y5=>
 if v1.jB=true then
 if (0:Int)≤v3∧v3<(256:Int)∧v1.jB=true then
 if (0:Int)≤v5∧v5<(4:Int)∧(C.dp [at_ v1.cA (v3.toNat*4),at_ v1.cA (v3.toNat*4+1),at_ v1.cA (v3.toNat*4+2),at_ v1.cA (v3.toNat*4+3)]).jB=true then
 if (0:Int)≤v5∧v5<(4:Int)then
 aA1 lW bE (0+(v5.toNat*1)) v11 [.int (bitsOf .and .u64 ((at_ y5 0).vA) ((at_ [at_ v1.cA (v3.toNat*4),at_ v1.cA (v3.toNat*4+1),at_ v1.cA (v3.toNat*4+2),at_ v1.cA (v3.toNat*4+3)] (v5.toNat*1)).vA))] fun r6=>
 X v0 v1 v2 v3 v4 (Go.IntKind.i64.wrap (v5+1)) v6 v7 v8 v9 v10 r6 v12 eM
 else none
 else none
 else none
 else none
 else none
 else
 some (0,[.r [v0], .r [v1], .r [.int v2], .r [.int v3], .r [.int v4], .r v6, .m v7, .r [v8], .r v9, .r v10, .r v11, .r [v12], .r [eM]])
theorem aNp (E:Env) (X:List PV→Option (Nat×List PV)) (v0:C) (v1:C) (v2:Int) (v3:Int) (v4:Int) (v5:Int) (v6:Row) (v7:List (Row×Row)) (v8:C) (v9:Row) (v10:Row) (v11:Row) (v12:C) (eM:C):stepOf E aCs aCq aCr X [.r [v0], .r [v1], .r [.int v2], .r [.int v3], .r [.int v4], .r [.int v5], .r v6, .m v7, .r [v8], .r v9, .r v10, .r v11, .r [v12], .r [eM]]=cY E (fun (v0:C) (v1:C) (v2:Int) (v3:Int) (v4:Int) (v5:Int) (v6:Row) (v7:List (Row×Row)) (v8:C) (v9:Row) (v10:Row) (v11:Row) (v12:C) (eM:C)=>X [.r [v0], .r [v1], .r [.int v2], .r [.int v3], .r [.int v4], .r [.int v5], .r v6, .m v7, .r [v8], .r v9, .r v10, .r v11, .r [v12], .r [eM]]) v0 v1 v2 v3 v4 v5 v6 v7 v8 v9 v10 v11 v12 eM:=by kernel_rfl
def aCt:Shape:={slots:=[(2, .ptr 0 0),(4, .d (.one (.ref 153))),(7, .map 1),(8, .sw 2),(9, .ptr 3 0),(10, .d (.one (.ref 187))),(11, .d lI),(12, .ptr 4 0),(13, .ptr 5 0),(46, .d lI)],objs:=[.var lA7, .map bE (.one (.int .i16)), .uA 149 bE, .cells false [.sw 6, .sw 7], .var (.agg (List.replicate 256 (.int .i16))), .var bE, .uA 160 (.agg (List.replicate 256 (.int .i16))), .uA 4 lB]}
def aCu:List (mB×Shape):=[(.exit 2,{slots:=[(2, .ptr 0 0),(4, .d (.one (.ref 153))),(7, .map 1),(8, .sw 2),(9, .ptr 3 0),(10, .d (.one (.ref 187))),(11, .d lI),(12, .ptr 4 0)],objs:=[.var lA7, .map bE (.one (.int .i16)), .uA 149 bE, .cells false [.sw 5, .sw 6], .var (.agg (List.replicate 256 (.int .i16))), .uA 160 (.agg (List.replicate 256 (.int .i16))), .uA 4 lB]}),(.ret,{slots:=[(2, .ptr 0 0),(3, .d lI)],objs:=[.var lA7]})]
def aCv:zB:=(.seq (.region [] [oq 47 (.dA .lss (.t 46) (.c lI [.int 256]))] false 0)
 (.seq (.cond (.t 47) .skip
 (.exit 2))
 (.seq (.block 3 (.seq (.region [] [oq 48 (.mov (.t 46)),
 oq 14 (.mov (.t 48))] false 0)
 (.seq (.region [] [oq 49 (.ld bE 149 (.t 13)),
 oq 15 (.oB 0 bE [.int 0, .int 0, .int 0, .int 0]),
 ⟨none, .st bE (.t 15) (.t 49),none,[]⟩] false 1)
 (.seq (.seq (.region [] [oq 50 (.mov (.c lI [.int 0]))] false 0)
 (.block 4 (.loop aCq aCr aCs)))
 (.seq (.region [] [oq 67 (.mov (.t 7)),
 oq 68 (.ld bE 149 (.t 15)),
 oq 69 (.lk bE (.one (.int .i16)) [.int 0] (.t 67) (.t 68) true),
 oq 66 (.mov (.t 69)),
 oq 70 (.ext 0 (.t 66)),
 oq 71 (.ext 1 (.t 66)),
 oq 17 (.mov (.t 70)),
 oq 18 (.mov (.t 71))] false 0)
 (.seq (.seq (.region [] [oq 72 (.mov (.t 18)),
 oq 73 (.not (.t 72))] false 0)
 (.cond (.t 73) (.seq (.region [] [oq 74 (.mov (.t 8)),
 oq 75 (.gE (.t 74)),
 oq 76 (.i2i .i16 (.t 75)),
 oq 17 (.mov (.t 76))] false 0)
 (.seq (.region [] [oq 77 (.mov (.t 7)),
 oq 78 (.ld bE 149 (.t 15)),
 oq 79 (.mov (.t 17)),
 ⟨none, .mup bE (.t 77) (.t 78) (.t 79),none,[]⟩] false 0)
 (.seq (.region [] [oq 80 (.mov (.t 8)),
 oq 81 (.ld bE 149 (.t 15)),
 oq 82 (.bsl 149 bE 1 [.int 0, .int 0, .int 0, .int 0] [(0,(.t 81))]),
 oq 83 (.eU 0 149 bE 32 (.t 80) (.t 82)),
 oq 8 (.mov (.t 83))] false 1)
 (.seq (.region [] [oq 84 (.mov (.t 8)),
 oq 85 (.gE (.t 84)),
 oq 86 (.dA .gtr (.t 85) (.c lI [.int 400]))] false 0)
 (.cond (.t 86) (.seq (.region [] [oq 87 (.bld lA7 [.fA, .fA] []),
 ⟨none, .st lA7 (.t 2) (.t 87),none,[]⟩,
 oq 3 (.mov (.c lI [.int 2]))] false 0)
 .ret)
 .skip)))))
 .skip))
 (.region [] [oq 88 (.mov (.t 14)),
 oq 89 (.mov (.t 17)),
 oq 90 (.qF 256 160 156 (.one (.int .i16)) (.t 12) (.t 88)),
 ⟨none, .st (.one (.int .i16)) (.t 90) (.t 89),none,[]⟩] false 0)))))))
 (.region [] [oq 91 (.tB .add (.t 46) (.c lI [.int 1])),
 oq 46 (.mov (.t 91))] false 0))))
noncomputable def dY (E:Env) (v0:C) (v1:C) (v2:Int) (v3:Int) (v4:Row) (v5:List (Row×Row)) (v6:C) (v7:Row) (v8:Row) (v9:C) (v10:C):Option (Nat×List PV):=E.fix (stepOf E aCv aCt aCu) [.r [v0], .r [v1], .r [.int v2], .r [.int v3], .r v4, .m v5, .r [v6], .r v7, .r v8, .r [v9], .r [v10]]
noncomputable def eY (E:Env) (X:C→C→Int→Int→Row→List (Row×Row)→C→Row→Row→C→C→Option (Nat×List PV)) (v0:C) (v1:C) (v2:Int) (v3:Int) (v4:Row) (v5:List (Row×Row)) (v6:C) (v7:Row) (v8:Row) (v9:C) (v10:C):Option (Nat×List PV):=
 if (decide (v3<256))=true then
 (bY E v0 v1 v2 v3 v3 0 v4 v5 v6 v7 v8 v8 v9 v10).bind fun x7=>
 if (!((sI bE (gR 10 x7.2) (gM 6 x7.2)).isSome))=true then
 if (((gC 7 x7.2).rows).length+([gR 10 x7.2]:List Row).length)*32≤140737488355328 then
 if (decide ((((pE (gC 7 x7.2) ([gR 10 x7.2]:List Row)).rows).length:Int)>400))=true then
 some (1,[.r [.int 2], .r [.fA, .fA]])
 else
 if (0:Int)≤(gI 3 x7.2)∧(gI 3 x7.2)<(256:Int)then
 aA1 (.one (.int .i16)) (.agg (List.replicate 256 (.int .i16))) (0+(((gI 3 x7.2).toNat)*1)) (gR 8 x7.2) [.int (Go.IntKind.i16.wrap (((gC 7 x7.2).rows).length:Int))] fun r8=>
 X (gC 0 x7.2) (gC 1 x7.2) (gI 2 x7.2) (Go.IntKind.i64.wrap ((gI 4 x7.2)+1)) (gR 5 x7.2) (tQ bE (gR 10 x7.2) [.int (Go.IntKind.i16.wrap (((gC 7 x7.2).rows).length:Int))] (gM 6 x7.2)) (pE (gC 7 x7.2) ([gR 10 x7.2]:List Row)) r8 (gR 9 x7.2) (gC 11 x7.2) (gC 12 x7.2)
 else none
 else none
 else
 if (0:Int)≤(gI 3 x7.2)∧(gI 3 x7.2)<(256:Int)then
 aA1 (.one (.int .i16)) (.agg (List.replicate 256 (.int .i16))) (0+(((gI 3 x7.2).toNat)*1)) (gR 8 x7.2) [.int ((at_ ((sI bE (gR 10 x7.2) (gM 6 x7.2)).getD [.int 0]) 0).vA)] fun r9=>
 X (gC 0 x7.2) (gC 1 x7.2) (gI 2 x7.2) (Go.IntKind.i64.wrap ((gI 4 x7.2)+1)) (gR 5 x7.2) (gM 6 x7.2) (gC 7 x7.2) r9 (gR 9 x7.2) (gC 11 x7.2) (gC 12 x7.2)
 else none
 else
 some (0,[.r [v0], .r [v1], .r [.int v2], .r v4, .m v5, .r [v6], .r v7, .r [v9], .r [v10]])
theorem aNq (E:Env) (X:List PV→Option (Nat×List PV)) (v0:C) (v1:C) (v2:Int) (v3:Int) (v4:Row) (v5:List (Row×Row)) (v6:C) (v7:Row) (v8:Row) (v9:C) (v10:C):stepOf E aCv aCt aCu X [.r [v0], .r [v1], .r [.int v2], .r [.int v3], .r v4, .m v5, .r [v6], .r v7, .r v8, .r [v9], .r [v10]]=eY E (fun (v0:C) (v1:C) (v2:Int) (v3:Int) (v4:Row) (v5:List (Row×Row)) (v6:C) (v7:Row) (v8:Row) (v9:C) (v10:C)=>X [.r [v0], .r [v1], .r [.int v2], .r [.int v3], .r v4, .m v5, .r [v6], .r v7, .r v8, .r [v9], .r [v10]]) v0 v1 v2 v3 v4 v5 v6 v7 v8 v9 v10:=by kernel_rfl
def aCw:Shape:={slots:=[(2, .ptr 0 0),(4, .d (.one (.ref 153))),(7, .map 1),(8, .sw 2),(9, .ptr 3 0),(10, .d (.one (.ref 187))),(11, .d lI)],objs:=[.var lA7, .map bE (.one (.int .i16)), .uA 149 bE, .cells false [.sw 4, .sw 5], .uA 160 (.agg (List.replicate 256 (.int .i16))), .uA 4 lB]}
def aCx:List (mB×Shape):=[(.exit 0,{slots:=[(2, .ptr 0 0),(9, .ptr 1 0)],objs:=[.var lA7, .cells false [.sw 2, .sw 3], .uA 160 (.agg (List.replicate 256 (.int .i16))), .uA 4 lB]}),(.ret,{slots:=[(2, .ptr 0 0),(3, .d lI)],objs:=[.var lA7]})]
def aCy:zB:=(.seq (.seq (.region [] [oq 35 (.mov (.t 11)),
 oq 36 (.mov (.t 8)),
 oq 37 (.gE (.t 36)),
 oq 38 (.dA .lss (.t 35) (.t 37))] false 0)
 (.cond (.t 38) .skip
 (.exit 0)))
 (.seq (.block 1 (.seq (.region [] [oq 12 (.oB 0 (.agg (List.replicate 256 (.int .i16))) (List.replicate 256 (C.int 0)))] false 1)
 (.seq (.region [] [oq 41 (.mov (.t 8)),
 oq 42 (.mov (.t 11)),
 oq 43 (.iad 149 bE (.t 41) (.t 42)),
 oq 44 (.ld bE 149 (.t 43)),
 oq 45 (.call 107 [(.one (.ref 153)),bE] [bE] [(.t 4),(.t 44)]),
 oq 13 (.oB 0 bE [.int 0, .int 0, .int 0, .int 0]),
 ⟨none, .st bE (.t 13) (.t 45),none,[]⟩] false 1)
 (.seq (.seq (.region [] [oq 46 (.mov (.c lI [.int 0]))] false 0)
 (.block 2 (.loop aCt aCu aCv)))
 (.seq (.region [] [oq 92 (.xA 0 1 119 116 (.t 9)),
 oq 93 (.n3 (.t 92)),
 oq 94 (.ld (.agg (List.replicate 256 (.int .i16))) 160 (.t 12)),
 oq 95 (.bsl 160 (.agg (List.replicate 256 (.int .i16))) 1 (List.replicate 256 (C.int 0)) [(0,(.t 94))]),
 oq 96 (.eU 0 160 (.agg (List.replicate 256 (.int .i16))) 512 (.t 93) (.t 95)),
 oq 97 (.xA 0 1 119 116 (.t 9)),
 ⟨none, .stC (.t 97) (.t 96),none,[]⟩] false 1)
 (.region [] [oq 98 (.xA 1 1 119 117 (.t 9)),
 ⟨some 99, .n3 (.t 98),none,[0]⟩,
 oq 100 (.mov (.t 8)),
 oq 101 (.mov (.t 11)),
 ⟨some 102, .iad 149 bE (.t 100) (.t 101),none,[2,3]⟩,
 ⟨some 103, .ld bE 149 (.t 102),none,[2,3,4]⟩,
 ⟨some 104, .call 108 [(.one (.ref 153)),bE] [lB] [(.t 4),(.t 103)],none,[2,3,4,5]⟩,
 ⟨some 105, .bsl 4 lB 1 [.bool false] [(0,(.t 104))],none,[2,3,4,5,6]⟩,
 ⟨some 106, .eU 0 4 lB 1 (.t 99) (.t 105),none,[0,1,2,3,4,5,6,7]⟩,
 ⟨some 107, .xA 1 1 119 117 (.t 9),none,[0,1,2,3,4,5,6,7,8]⟩,
 ⟨none, .stC (.t 107) (.t 106),none,[0,1,2,3,4,5,6,7,8,9]⟩] true 1))))))
 (.region [] [oq 39 (.mov (.t 11)),
 oq 40 (.tB .add (.t 39) (.c lI [.int 1])),
 oq 11 (.mov (.t 40))] false 0)))
noncomputable def fY (E:Env) (v0:C) (v1:C) (v2:Int) (v3:Row) (v4:List (Row×Row)) (v5:C) (v6:C) (v7:C):Option (Nat×List PV):=E.fix (stepOf E aCy aCw aCx) [.r [v0], .r [v1], .r [.int v2], .r v3, .m v4, .r [v5], .r [v6], .r [v7]]
noncomputable def aCz (E:Env) (X:C→C→Int→Row→List (Row×Row)→C→C→C→Option (Nat×List PV)) (v0:C) (v1:C) (v2:Int) (v3:Row) (v4:List (Row×Row)) (v5:C) (v6:C) (v7:C):Option (Nat×List PV):=
 if (decide (v2<(v5.rows.length:Int)))=true then
 if (0:Int)≤v2∧v2<(v5.rows.length:Int)then
 (E.pc bV [[v0],aA v5.rows v2.toNat]).bind fun y4=>
 (dY E v0 v1 v2 0 v3 v4 v5 (List.replicate 256 (C.int 0)) (aA y4 0) v6 v7).bind fun x10=>
 match x10.1 with
 |0=>
 if (((gC 7 x10.2).rows).length+([gR 6 x10.2]:List Row).length)*512≤140737488355328 then
 if (0:Int)≤(gI 2 x10.2)∧(gI 2 x10.2)<(((gC 5 x10.2).rows).length:Int)then
 (E.pc mZ [[gC 0 x10.2],aA ((gC 5 x10.2).rows) ((gI 2 x10.2).toNat)]).bind fun y12=>
 if (((gC 8 x10.2).rows).length+([[.bool ((at_ (aA y12 0) 0).lK)]]:List Row).length)*1≤140737488355328 then
 X (gC 0 x10.2) (gC 1 x10.2) (Go.IntKind.i64.wrap ((gI 2 x10.2)+1)) (gR 3 x10.2) (gM 4 x10.2) (gC 5 x10.2) (pE (gC 7 x10.2) ([gR 6 x10.2]:List Row)) (pE (gC 8 x10.2) ([[.bool ((at_ (aA y12 0) 0).lK)]]:List Row))
 else none
 else none
 else none
 |i11+1=>
 some (1,[.r [.int (gI 0 x10.2)], .r (gR 1 x10.2)])
 else none
 else
 some (0,[.r v3, .r [v6], .r [v7]])
theorem aNr (E:Env) (X:List PV→Option (Nat×List PV)) (v0:C) (v1:C) (v2:Int) (v3:Row) (v4:List (Row×Row)) (v5:C) (v6:C) (v7:C):stepOf E aCy aCw aCx X [.r [v0], .r [v1], .r [.int v2], .r v3, .m v4, .r [v5], .r [v6], .r [v7]]=aCz E (fun (v0:C) (v1:C) (v2:Int) (v3:Row) (v4:List (Row×Row)) (v5:C) (v6:C) (v7:C)=>X [.r [v0], .r [v1], .r [.int v2], .r v3, .m v4, .r [v5], .r [v6], .r [v7]]) v0 v1 v2 v3 v4 v5 v6 v7:=by kernel_rfl
def s7:aD:={ps:=[lS],rs:=[lA7,lI],res:=[(true,2,none),(false,3,none)],body:=(.seq (.region [] [oq 2 (.oB 0 lA7 [.fA, .fA]),
 oq 3 (.mov (.c lI [.int 0]))] false 1)
 (.seq (.region [] [oq 20 (.mov (.t 0)),
 oq 21 (.call 104 [lS] [lA4,lI] [(.t 20)]),
 oq 19 (.mov (.t 21)),
 oq 22 (.ext 0 (.t 19)),
 oq 23 (.ext 1 (.t 19)),
 oq 4 (.oB 0 lA4 [.fA, .fA, .bool false, .int 0, .int 0, .int 0, .int 0, .int 0, .int 0, .int 0, .int 0]),
 ⟨none, .st lA4 (.t 4) (.t 22),none,[]⟩,
 oq 5 (.mov (.t 23))] false 1)
 (.seq (.seq (.region [] [oq 24 (.mov (.t 5)),
 oq 25 (.dA .neq (.t 24) (.c lI [.int 0]))] false 0)
 (.cond (.t 25) (.seq (.region [] [oq 26 (.bld lA7 [.fA, .fA] []),
 oq 27 (.mov (.t 5)),
 ⟨none, .st lA7 (.t 2) (.t 26),none,[]⟩,
 oq 3 (.mov (.t 27))] false 0)
 .ret)
 .skip))
 (.seq (.region [] [oq 6 (.oB 0 bE [.int 0, .int 0, .int 0, .int 0])] false 1)
 (.seq (.region [] [oq 28 (.nB 171 105 (aCd) (aCe) [2] 0 none [(.t 6),(.c lI [.int 0])])] false 0)
 (.seq (.region [] [oq 29 (.mkm 0 bE (.one (.int .i16))),
 oq 30 (.ld bE 149 (.t 6)),
 ⟨none, .mup bE (.t 29) (.t 30) (.c (.one (.int .i16)) [.int 0]),none,[]⟩,
 oq 31 (.mov (.t 29)),
 oq 7 (.mov (.t 31))] false 1)
 (.seq (.region [] [oq 32 (.ld bE 149 (.t 6)),
 oq 33 (.bslS 0 149 bE 1 [.int 0, .int 0, .int 0, .int 0] [(0,(.t 32))]),
 oq 8 (.mov (.t 33))] false 1)
 (.seq (.post (.lft 9 (some 1) 4 lB) (.post (.lft 9 (some 0) 160 (.agg (List.replicate 256 (.int .i16)))) (.region [] [oq 9 (.aHA 0 [some ((.sl 160), .fA),some ((.sl 4), .fA)])] false 1)))
 (.seq (.region [(4,153,some lA4)] [oq 34 (.call 106 [(.one (.ref 153))] [(.one (.ref 187))] [(.t 4)]),
 oq 10 (.mov (.t 34))] false 0)
 (.seq (.seq (.region [] [oq 11 (.mov (.c lI [.int 0]))] false 0)
 (.block 0 (.loop aCw aCx aCy)))
 (.seq (.region [] [oq 108 (.ldA 2 (.t 9)),
 ⟨none, .st lA7 (.t 2) (.t 108),none,[]⟩,
 oq 3 (.mov (.c lI [.int 0]))] false 0)
 .ret)))))))))))}
noncomputable def aGk (E:Env) (p0:List UInt8):Option (List Row):=
 (E.pc aDN [[.str p0]]).bind fun y1=>
 if (((at_ (aA y1 1) 0).vA) !=0)=true then
 some [[.fA, .fA],[.int ((at_ (aA y1 1) 0).vA)]]
 else
 (E.ic cX [.r [.int 0], .r [.int 0, .int 0, .int 0, .int 0]]).bind fun y2=>
 (E.pc aBu [[.dp (aA y1 0)]]).bind fun y3=>
 (fY E (.dp (aA y1 0)) (at_ (aA y3 0) 0) 0 [.fA, .fA] (tQ bE (gR 0 y2) [.int 0] []) (.sl ([gR 0 y2]:List Row)) .fA .fA).bind fun x13=>
 match x13.1 with
 |0=>
 some [[gC 1 x13.2,gC 2 x13.2],[.int 0]]
 |i14+1=>
 some [gR 1 x13.2,[.int (gI 0 x13.2)]]
theorem aNs (E:Env) (p0:List UInt8):xE E s7 [[.str p0]]=aGk E p0:=by kernel_rfl
def u7:aD:={ps:=[lS],rs:=[lI],res:=[(false,2,none)],body:=(.seq (.region [] [oq 2 (.mov (.c lI [.int 0]))] false 0)
 (.seq (.region [] [oq 6 (.mov (.t 0)),
 oq 7 (.call 82 [lS] [lA7,lI] [(.t 6)]),
 oq 5 (.mov (.t 7)),
 oq 8 (.ext 0 (.t 5)),
 oq 9 (.ext 1 (.t 5)),
 oq 3 (.oB 0 lA7 [.fA, .fA]),
 ⟨none, .st lA7 (.t 3) (.t 8),none,[]⟩,
 oq 4 (.mov (.t 9))] false 1)
 (.seq (.region [] [oq 10 (.mov (.t 4)),
 oq 2 (.mov (.t 10))] false 0)
 .ret)))}
noncomputable def aGl (E:Env) (p0:List UInt8):Option (List Row):=
 (E.pc aDO [[.str p0]]).bind fun y1=>
 some [[.int ((at_ (aA y1 1) 0).vA)]]
theorem aNt (E:Env) (p0:List UInt8):xE E u7 [[.str p0]]=aGl E p0:=by kernel_rfl
def aEq:aD:={ps:=[lI],rs:=[lB],res:=[(false,2,none)],body:=(.seq (.region [] [oq 2 (.mov (.c lB [.bool false]))] false 0)
 (.seq (.region [] [oq 3 (.mov (.t 0)),
 oq 4 (.dA .eql (.t 3) (.c lI [.int 1])),
 oq 5 (.mov (.t 4)),
 ⟨some 6, .mov (.t 0),some (5,false),[]⟩,
 ⟨some 7, .dA .eql (.t 6) (.c lI [.int 2]),some (5,false),[]⟩,
 oq 8 (.pick (.t 5) (.c lB [.bool true]) (.t 7)),
 oq 9 (.mov (.t 8)),
 ⟨some 10, .mov (.t 0),some (9,false),[]⟩,
 ⟨some 11, .dA .eql (.t 10) (.c lI [.int 4]),some (9,false),[]⟩,
 oq 12 (.pick (.t 9) (.c lB [.bool true]) (.t 11)),
 oq 13 (.mov (.t 12)),
 ⟨some 14, .mov (.t 0),some (13,false),[]⟩,
 ⟨some 15, .dA .eql (.t 14) (.c lI [.int 5]),some (13,false),[]⟩,
 oq 16 (.pick (.t 13) (.c lB [.bool true]) (.t 15)),
 oq 2 (.mov (.t 16))] false 0)
 .ret))}
noncomputable def aLc (E:Env) (p0:Int):Option (List Row):=
 let K1:Bool→Option (List Row):=fun q2=>
 let K3:Bool→Option (List Row):=fun q4=>
 let K5:Bool→Option (List Row):=fun q6=>
 some [[.bool q6]]
 if q4=true then
 K5 true
 else
 K5 (p0==5)
 if q2=true then
 K3 true
 else
 K3 (p0==4)
 if (p0==1)=true then
 K1 true
 else
 K1 (p0==2)
theorem aQ3 (E:Env) (p0:Int):xE E aEq [[.int p0]]=aLc E p0:=by kernel_rfl
def qT:Shape:={slots:=[(0, .d (.one (.sl 9))),(1, .d lS),(7, .d lI),(8, .d lI)],objs:=[]}
def rT:List (mB×Shape):=[(.exit 0,{slots:=[],objs:=[]}),(.ret,{slots:=[(4, .d lI)],objs:=[]})]
def tT:zB:=(.seq (.region [] [oq 9 (.dA .lss (.t 8) (.t 7))] false 0)
 (.seq (.cond (.t 9) .skip
 (.exit 0))
 (.seq (.block 1 (.seq (.region [] [oq 10 (.mov (.t 8)),
 oq 5 (.mov (.t 10))] false 0)
 (.seq (.region [] [oq 11 (.mov (.t 1)),
 oq 12 (.mov (.t 0)),
 oq 13 (.mov (.t 5)),
 oq 14 (.iad 9 lS (.t 12) (.t 13)),
 oq 15 (.ld lS 9 (.t 14)),
 oq 16 (.aEK .eql (.t 11) (.t 15))] false 0)
 (.cond (.t 16) (.seq (.region [] [oq 17 (.mov (.t 5)),
 oq 4 (.mov (.t 17))] false 0)
 .ret)
 .skip))))
 (.region [] [oq 18 (.tB .add (.t 8) (.c lI [.int 1])),
 oq 8 (.mov (.t 18))] false 0))))
noncomputable def sM (E:Env) (v0:C) (v1:List UInt8) (v2:Int) (v3:Int):Option (Nat×List PV):=E.fix (stepOf E tT qT rT) [.r [v0], .r [.str v1], .r [.int v2], .r [.int v3]]
noncomputable def tM (E:Env) (X:C→List UInt8→Int→Int→Option (Nat×List PV)) (v0:C) (v1:List UInt8) (v2:Int) (v3:Int):Option (Nat×List PV):=
 if (decide (v3<v2))=true then
 if (0:Int)≤v3∧v3<(v0.rows.length:Int)then
 if (v1==((at_ (aA v0.rows v3.toNat) 0).mD))=true then
 some (1,[.r [.int v3]])
 else
 X v0 v1 v2 (Go.IntKind.i64.wrap (v3+1))
 else none
 else
 some (0,[])
theorem aIl (E:Env) (X:List PV→Option (Nat×List PV)) (v0:C) (v1:List UInt8) (v2:Int) (v3:Int):stepOf E tT qT rT X [.r [v0], .r [.str v1], .r [.int v2], .r [.int v3]]=tM E (fun (v0:C) (v1:List UInt8) (v2:Int) (v3:Int)=>X [.r [v0], .r [.str v1], .r [.int v2], .r [.int v3]]) v0 v1 v2 v3:=by kernel_rfl
def kO:aD:={ps:=[(.one (.sl 9)),lS],rs:=[lI],res:=[(false,4,none)],body:=(.seq (.region [] [oq 4 (.mov (.c lI [.int 0]))] false 0)
 (.seq (.seq (.region [] [oq 6 (.mov (.t 0)),
 oq 7 (.gE (.t 6)),
 oq 8 (.mov (.c lI [.int 0]))] false 0)
 (.block 0 (.loop qT rT tT)))
 (.seq (.region [] [oq 4 (.mov (.c lI [.int (-1)]))] false 0)
 .ret)))}
noncomputable def nZ (E:Env) (p0:C) (p1:List UInt8):Option (List Row):=
 (sM E p0 p1 (p0.rows.length:Int) 0).bind fun x1=>
 match x1.1 with
 |0=>
 some [[.int (-1)]]
 |i2+1=>
 some [[.int (gI 0 x1.2)]]
theorem aIm (E:Env) (p0:C) (p1:List UInt8):xE E kO [[p0],[.str p1]]=nZ E p0 p1:=by kernel_rfl
def nJ:aD:={ps:=[(.one (.sl 9)),lS],rs:=[lB],res:=[(false,4,none)],body:=(.seq (.region [] [oq 4 (.mov (.c lB [.bool false]))] false 0)
 (.seq (.region [] [oq 5 (.mov (.t 0)),
 oq 6 (.mov (.t 1)),
 oq 7 (.call 116 [(.one (.sl 9)),lS] [lI] [(.t 5),(.t 6)]),
 oq 8 (.dA .geq (.t 7) (.c lI [.int 0])),
 oq 4 (.mov (.t 8))] false 0)
 .ret))}
noncomputable def uT (E:Env) (p0:C) (p1:List UInt8):Option (List Row):=
 (E.pc cV [[p0],[.str p1]]).bind fun y1=>
 some [[.bool (decide (((at_ (aA y1 0) 0).vA)≥0))]]
theorem aFp (E:Env) (p0:C) (p1:List UInt8):xE E nJ [[p0],[.str p1]]=uT E p0 p1:=by kernel_rfl
def aGm:Shape:={slots:=[(0, .d (.one (.sl 9))),(8, .d (.one (.sl 9))),(9, .d lI),(10, .d lI)],objs:=[]}
def aGn:List (mB×Shape):=[(.exit 0,{slots:=[],objs:=[]}),(.ret,{slots:=[(2, .d lI)],objs:=[]})]
def aGo:zB:=(.seq (.region [] [oq 11 (.dA .lss (.t 10) (.t 9))] false 0)
 (.seq (.cond (.t 11) .skip
 (.exit 0))
 (.seq (.block 1 (.seq (.region [] [oq 12 (.mov (.t 10)),
 oq 13 (.iad 9 lS (.t 8) (.t 10)),
 oq 14 (.ld lS 9 (.t 13)),
 oq 3 (.mov (.t 12)),
 oq 4 (.mov (.t 14))] false 0)
 (.seq (.seq (.region [] [oq 15 (.mov (.t 4)),
 oq 16 (.call 39 [lS] [lB] [(.t 15)]),
 oq 17 (.not (.t 16))] false 0)
 (.cond (.t 17) (.seq (.region [] [oq 2 (.mov (.c lI [.int 15]))] false 0)
 .ret)
 .skip))
 (.seq (.region [] [oq 18 (.mov (.t 0)),
 oq 19 (.mov (.t 3)),
 oq 20 (.slc 9 lS (.t 18) none (some (.t 19))),
 oq 21 (.mov (.t 4)),
 oq 22 (.call 95 [(.one (.sl 9)),lS] [lB] [(.t 20),(.t 21)])] false 0)
 (.cond (.t 22) (.seq (.region [] [oq 2 (.mov (.c lI [.int 5]))] false 0)
 .ret)
 .skip)))))
 (.region [] [oq 23 (.tB .add (.t 10) (.c lI [.int 1])),
 oq 10 (.mov (.t 23))] false 0))))
noncomputable def j3 (E:Env) (v0:C) (v1:C) (v2:Int) (v3:Int):Option (Nat×List PV):=E.fix (stepOf E aGo aGm aGn) [.r [v0], .r [v1], .r [.int v2], .r [.int v3]]
noncomputable def aDc (E:Env) (X:C→C→Int→Int→Option (Nat×List PV)) (v0:C) (v1:C) (v2:Int) (v3:Int):Option (Nat×List PV):=
 if (decide (v3<v2))=true then
 if (0:Int)≤v3∧v3<(v1.rows.length:Int)then
 (E.pc rH [[.str ((at_ (aA v1.rows v3.toNat) 0).mD)]]).bind fun y1=>
 if (!((at_ (aA y1 0) 0).lK))=true then
 some (1,[.r [.int 15]])
 else
 if (0:Int)≤0∧0≤v3∧v3≤(v0.rows.length:Int)then
 (E.pc jQ [[aKG v0 0 v3],[.str ((at_ (aA v1.rows v3.toNat) 0).mD)]]).bind fun y2=>
 if ((at_ (aA y2 0) 0).lK)=true then
 some (1,[.r [.int 5]])
 else
 X v0 v1 v2 (Go.IntKind.i64.wrap (v3+1))
 else none
 else none
 else
 some (0,[])
theorem aQ4 (E:Env) (X:List PV→Option (Nat×List PV)) (v0:C) (v1:C) (v2:Int) (v3:Int):stepOf E aGo aGm aGn X [.r [v0], .r [v1], .r [.int v2], .r [.int v3]]=aDc E (fun (v0:C) (v1:C) (v2:Int) (v3:Int)=>X [.r [v0], .r [v1], .r [.int v2], .r [.int v3]]) v0 v1 v2 v3:=by kernel_rfl
def aEr:aD:={ps:=[(.one (.sl 9))],rs:=[lI],res:=[(false,2,none)],body:=(.seq (.region [] [oq 2 (.mov (.c lI [.int 0]))] false 0)
 (.seq (.seq (.region [] [oq 5 (.mov (.t 0)),
 oq 6 (.gE (.t 5)),
 oq 7 (.dA .eql (.t 6) (.c lI [.int 0]))] false 0)
 (.cond (.t 7) (.seq (.region [] [oq 2 (.mov (.c lI [.int 3]))] false 0)
 .ret)
 .skip))
 (.seq (.seq (.region [] [oq 8 (.mov (.t 0)),
 oq 9 (.gE (.t 8)),
 oq 10 (.mov (.c lI [.int 0]))] false 0)
 (.block 0 (.loop aGm aGn aGo)))
 (.seq (.region [] [oq 2 (.mov (.c lI [.int 0]))] false 0)
 .ret))))}
noncomputable def aLd (E:Env) (p0:C):Option (List Row):=
 if ((p0.rows.length:Int)==0)=true then
 some [[.int 3]]
 else
 (j3 E p0 p0 (p0.rows.length:Int) 0).bind fun x3=>
 match x3.1 with
 |0=>
 some [[.int 0]]
 |i4+1=>
 some [[.int (gI 0 x3.2)]]
theorem aQ5 (E:Env) (p0:C):xE E aEr [[p0]]=aLd E p0:=by kernel_rfl
end Go.Ev
