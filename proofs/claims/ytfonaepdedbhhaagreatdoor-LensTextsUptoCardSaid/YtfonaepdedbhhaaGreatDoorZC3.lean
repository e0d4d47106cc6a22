/-
  A part of the proof: what the functions of the program compute.
-/
import Derived.Test.YtfonaepdedbhhaaGreatDoorZNum
set_option linter.all false
set_option maxRecDepth 100000
namespace Go.Ev
def sN:Shape:={slots:=[(0, .ptr 0 0),(4, .d (.one (.ref 149))),(5, .d (.one (.ref 149))),(12, .d lI),(13, .d lI)],objs:=bS2,m:=3}
def tN:List (mB×Shape):=[(.exit 0,{slots:=[],objs:=bS2,m:=3})]
def uN:zB:=(.seq (.region [] [oq 14 (.dA .lss (.t 13) (.t 12))] false 0)
 (.seq (.cond (.t 14) .skip
 (.exit 0))
 (.seq (.block 1 (.seq (.region [] [oq 15 (.mov (.t 13)),
 oq 6 (.mov (.t 15))] false 0)
 (.seq (.region [] [oq 16 (.mov (.t 6)),
 oq 17 (.call 123 [(.one (.ref 149)),lI] [lB] [(.t 4),(.t 16)])] false 0)
 (.cond (.t 17) (.region [] [oq 18 (.mov (.t 0)),
 ⟨some 19, .eC (.t 18),none,[0]⟩,
 ⟨some 20, .xA 2 11 183 153 (.t 19),none,[0,1]⟩,
 ⟨some 21, .xA 1 1 153 147 (.t 20),none,[0,1,2]⟩,
 ⟨some 22, .n3 (.t 21),none,[0,1,2,3]⟩,
 oq 23 (.mov (.t 6)),
 ⟨some 24, .iad 149 bE (.t 22) (.t 23),none,[0,1,2,3,4,5]⟩,
 oq 25 (.ld bE 149 (.t 5)),
 ⟨some 26, .nB 186 124 (aAD) (aAE) [2,0,1] 0 none [(.t 24),(.t 25)],none,[0,1,2,3,4,5,6,7]⟩] true 0)
 .skip))))
 (.region [] [oq 27 (.tB .add (.t 13) (.c lI [.int 1])),
 oq 13 (.mov (.t 27))] false 0))))
noncomputable def uH (E:Env) (v0:C) (v1:C) (v2:Int) (v3:Int) (v4:List UInt8) (v5:Int) (v6:Bool) (v7:Int) (v8:Int) (v9:Int) (v10:Int) (v11:Int) (v12:Int) (eM:Int) (uQ:Int) (fO:Bool) (v16:C) (v17:C):Option (Nat×List PV):=E.fix (stepOf E uN sN tN) [.r [v0], .r [v1], .r [.int v2], .r [.int v3], .r [.str v4], .r [.int v5], .r [.bool v6], .r [.int v7], .r [.int v8], .r [.int v9], .r [.int v10], .r [.int v11], .r [.int v12], .r [.int eM], .r [.int uQ], .r [.bool fO], .r [v16], .r [v17]]
noncomputable def vH (E:Env) (X:C→C→Int→Int→List UInt8→Int→Bool→Int→Int→Int→Int→Int→Int→Int→Int→Bool→C→C→Option (Nat×List PV)) (v0:C) (v1:C) (v2:Int) (v3:Int) (v4:List UInt8) (v5:Int) (v6:Bool) (v7:Int) (v8:Int) (v9:Int) (v10:Int) (v11:Int) (v12:Int) (eM:Int) (uQ:Int) (fO:Bool) (v16:C) (v17:C):Option (Nat×List PV):=
 if (decide (v3<v2))=true then
 (E.pc rP [[v0],[.int v3]]).bind fun y1=>
 if ((at_ (aA y1 0) 0).lK)=true then
 if (0:Int)≤v3∧v3<(v17.rows.length:Int)then
 if v1.jB=true then
 (E.ic fT [.r [.int ((v3.toNat:Nat):Int), .int ((0:Nat):Int)], .r v1.cA, .r [v17], .r [.str v4], .r [.int v5], .r [.bool v6], .r [.int v7], .r [.int v8], .r [.int v9], .r [.int v10], .r [.int v11], .r [.int v12], .r [.int eM], .r [.int uQ], .r [.bool fO], .r [v16]]).bind fun y2=>
 X v0 v1 v2 (Go.IntKind.i64.wrap (v3+1)) (gS 1 y2) (gI 2 y2) (gB 3 y2) (gI 4 y2) (gI 5 y2) (gI 6 y2) (gI 7 y2) (gI 8 y2) (gI 9 y2) (gI 10 y2) (gI 11 y2) (gB 12 y2) (gC 13 y2) (gC 0 y2)
 else none
 else none
 else
 X v0 v1 v2 (Go.IntKind.i64.wrap (v3+1)) v4 v5 v6 v7 v8 v9 v10 v11 v12 eM uQ fO v16 v17
 else
 some (0,[.r [.str v4], .r [.int v5], .r [.bool v6], .r [.int v7], .r [.int v8], .r [.int v9], .r [.int v10], .r [.int v11], .r [.int v12], .r [.int eM], .r [.int uQ], .r [.bool fO], .r [v16], .r [v17]])
theorem aE1 (E:Env) (X:List PV→Option (Nat×List PV)) (v0:C) (v1:C) (v2:Int) (v3:Int) (v4:List UInt8) (v5:Int) (v6:Bool) (v7:Int) (v8:Int) (v9:Int) (v10:Int) (v11:Int) (v12:Int) (eM:Int) (uQ:Int) (fO:Bool) (v16:C) (v17:C):stepOf E uN sN tN X [.r [v0], .r [v1], .r [.int v2], .r [.int v3], .r [.str v4], .r [.int v5], .r [.bool v6], .r [.int v7], .r [.int v8], .r [.int v9], .r [.int v10], .r [.int v11], .r [.int v12], .r [.int eM], .r [.int uQ], .r [.bool fO], .r [v16], .r [v17]]=vH E (fun (v0:C) (v1:C) (v2:Int) (v3:Int) (v4:List UInt8) (v5:Int) (v6:Bool) (v7:Int) (v8:Int) (v9:Int) (v10:Int) (v11:Int) (v12:Int) (eM:Int) (uQ:Int) (fO:Bool) (v16:C) (v17:C)=>X [.r [v0], .r [v1], .r [.int v2], .r [.int v3], .r [.str v4], .r [.int v5], .r [.bool v6], .r [.int v7], .r [.int v8], .r [.int v9], .r [.int v10], .r [.int v11], .r [.int v12], .r [.int eM], .r [.int uQ], .r [.bool fO], .r [v16], .r [v17]]) v0 v1 v2 v3 v4 v5 v6 v7 v8 v9 v10 v11 v12 eM uQ fO v16 v17:=by kernel_rfl
def pI:rZ:={fn:=132,entry:=vN,res:=[],exit:=wN,body:=(.seq (.region [] [oq 4 (.vL bE 149 (.t 1)),
 oq 5 (.vL bE 149 (.t 2))] false 0)
 (.seq (.region [] [oq 7 (.mov (.t 0)),
 oq 8 (.eC (.t 7)),
 oq 9 (.xA 2 11 183 153 (.t 8)),
 oq 10 (.xA 1 1 153 147 (.t 9)),
 oq 11 (.n3 (.t 10)),
 oq 12 (.gE (.t 11)),
 oq 13 (.mov (.c lI [.int 0]))] false 0)
 (.block 0 (.loop sN tN uN))))}
noncomputable def pR (E:Env) (p0:Row) (p1:Row) (p2:List UInt8) (p3:Int) (p4:Bool) (p5:Int) (p6:Int) (p7:Int) (p8:Int) (p9:Int) (wL:Int) (xL:Int) (yL:Int) (mK:Bool) (p14:C) (p15:C):Option (List PV):=
 (uH E (.dp p0) (.dp p1) (p15.rows.length:Int) 0 p2 p3 p4 p5 p6 p7 p8 p9 wL xL yL mK p14 p15).bind fun x3=>
 some [.r [.str (gS 0 x3.2)], .r [.int (gI 1 x3.2)], .r [.bool (gB 2 x3.2)], .r [.int (gI 3 x3.2)], .r [.int (gI 4 x3.2)], .r [.int (gI 5 x3.2)], .r [.int (gI 6 x3.2)], .r [.int (gI 7 x3.2)], .r [.int (gI 8 x3.2)], .r [.int (gI 9 x3.2)], .r [.int (gI 10 x3.2)], .r [.bool (gB 11 x3.2)], .r [gC 12 x3.2], .r [gC 13 x3.2]]
theorem aE2 (E:Env) (p0:Row) (p1:Row) (p2:List UInt8) (p3:Int) (p4:Bool) (p5:Int) (p6:Int) (p7:Int) (p8:Int) (p9:Int) (wL:Int) (xL:Int) (yL:Int) (mK:Bool) (p14:C) (p15:C):j9 E pI [.r p0, .r p1, .r [.str p2], .r [.int p3], .r [.bool p4], .r [.int p5], .r [.int p6], .r [.int p7], .r [.int p8], .r [.int p9], .r [.int wL], .r [.int xL], .r [.int yL], .r [.bool mK], .r [p14], .r [p15]]=pR E p0 p1 p2 p3 p4 p5 p6 p7 p8 p9 wL xL yL mK p14 p15:=by kernel_rfl
def mJ:rZ:={fn:=131,entry:=xY,res:=[.var 2 uS],exit:=yY,body:=(.seq (.region [] [oq 2 (.oB 0 uS [.bool false, .int 0, .int 0, .int 0, .int 0, .int 0, .int 0, .int 0, .int 0])] false 1)
 (.seq (.region [] [oq 5 (.mov (.t 0)),
 oq 6 (.nB 177 133 (tW) (uW) [0,1,2] 0 none [(.t 5)]),
 oq 3 (.oB 0 uS [.bool false, .int 0, .int 0, .int 0, .int 0, .int 0, .int 0, .int 0, .int 0]),
 ⟨none, .st uS (.t 3) (.t 6),none,[]⟩] false 1)
 (.seq (.seq (.region [] [oq 7 (.mov (.t 0)),
 oq 8 (.nB 174 129 (uD) (vD) [0,1,2] 0 none [(.t 7)]),
 oq 9 (.not (.t 8))] false 0)
 (.cond (.t 9) (.seq (.region [] [oq 10 (.ld uS 151 (.t 3)),
 ⟨none, .st uS (.t 2) (.t 10),none,[]⟩] false 0)
 .ret)
 .skip))
 (.seq (.region [] [oq 11 (.mov (.t 0)),
 oq 12 (.nB 175 130 (uB) (wB) [0,1,2] 0 none [(.t 11)]),
 oq 4 (.mov (.t 12))] false 0)
 (.seq (.seq (.join [(.normal,{slots:=[(0, .ptr 0 0),(2, .ptr 3 0),(3, .ptr 4 0),(4, .d lU),(22, .d lB)],objs:=bS4,m:=3})] (.region [] [oq 13 (.mov (.t 4)),
 oq 14 (.dA .neq (.t 13) (.c lU [.int 42])),
 oq 15 (.mov (.t 14)),
 ⟨some 16, .mov (.t 4),some (15,true),[]⟩,
 ⟨some 17, .dA .neq (.t 16) (.c lU [.int 43]),some (15,true),[]⟩,
 oq 18 (.pick (.t 15) (.t 17) (.c lB [.bool false])),
 oq 19 (.mov (.t 18)),
 ⟨some 20, .mov (.t 4),some (19,true),[]⟩,
 ⟨some 21, .dA .neq (.t 20) (.c lU [.int 63]),some (19,true),[]⟩,
 oq 22 (.pick (.t 19) (.t 21) (.c lB [.bool false]))] false 0))
 (.cond (.t 22) (.seq (.region [] [oq 23 (.ld uS 151 (.t 3)),
 ⟨none, .st uS (.t 2) (.t 23),none,[]⟩] false 0)
 .ret)
 .skip))
 (.seq (.region [] [oq 24 (.mov (.t 0)),
 oq 25 (.eC (.t 24)),
 oq 26 (.xA 1 1 183 3 (.t 25)),
 oq 27 (.n3 (.t 26)),
 oq 28 (.tB .add (.t 27) (.c lI [.int 1])),
 oq 29 (.eC (.t 24)),
 oq 30 (.xA 1 1 183 3 (.t 29)),
 ⟨none, .stC (.t 30) (.t 28),none,[]⟩] false 0)
 (.seq (.seq (.region [] [oq 31 (.mov (.t 4)),
 oq 32 (.dA .neq (.t 31) (.c lU [.int 63]))] false 0)
 (.cond (.t 32) (.region [] [oq 33 (.mov (.t 0)),
 oq 34 (.xA 5 4 151 149 (.t 3)),
 oq 35 (.ld bE 149 (.t 34)),
 oq 36 (.xA 1 4 151 149 (.t 3)),
 oq 37 (.ld bE 149 (.t 36)),
 oq 38 (.nB 185 132 (vN) (wN) [0,1,2] 0 none [(.t 33),(.t 35),(.t 37)])] false 0)
 .skip))
 (.seq (.region [] [oq 39 (.xA 0 1 151 4 (.t 3)),
 oq 40 (.ld lB 4 (.t 39)),
 oq 41 (.mov (.t 40)),
 ⟨some 42, .mov (.t 4),some (41,false),[]⟩,
 ⟨some 43, .dA .neq (.t 42) (.c lU [.int 43]),some (41,false),[]⟩,
 oq 44 (.pick (.t 41) (.c lB [.bool true]) (.t 43)),
 oq 45 (.xA 0 1 151 4 (.t 3)),
 ⟨none, .st lB (.t 45) (.t 44),none,[]⟩] false 0)
 (.seq (.region [] [oq 46 (.ld uS 151 (.t 3)),
 ⟨none, .st uS (.t 2) (.t 46),none,[]⟩] false 0)
 .ret)))))))))}
noncomputable def gT (E:Env) (p0:List UInt8) (p1:Int) (p2:Bool) (p3:Int) (p4:Int) (p5:Int) (p6:Int) (p7:Int) (p8:Int) (p9:Int) (wL:Int) (xL:Bool) (yL:C) (mK:C):Option (List PV):=
 (E.ic bP [.r [.str p0], .r [.int p1], .r [.bool p2], .r [.int p3], .r [.int p4], .r [.int p5], .r [.int p6], .r [.int p7], .r [.int p8], .r [.int p9], .r [.int wL], .r [.bool xL], .r [yL], .r [mK]]).bind fun y1=>
 (E.ic iD [.r [.str (gS 1 y1)], .r [.int (gI 2 y1)], .r [.bool (gB 3 y1)], .r [.int (gI 4 y1)], .r [.int (gI 5 y1)], .r [.int (gI 6 y1)], .r [.int (gI 7 y1)], .r [.int (gI 8 y1)], .r [.int (gI 9 y1)], .r [.int (gI 10 y1)], .r [.int (gI 11 y1)], .r [.bool (gB 12 y1)], .r [gC 13 y1], .r [gC 14 y1]]).bind fun y2=>
 if (!(gB 0 y2))=true then
 some [.r (gR 0 y1), .r [.str (gS 1 y2)], .r [.int (gI 2 y2)], .r [.bool (gB 3 y2)], .r [.int (gI 4 y2)], .r [.int (gI 5 y2)], .r [.int (gI 6 y2)], .r [.int (gI 7 y2)], .r [.int (gI 8 y2)], .r [.int (gI 9 y2)], .r [.int (gI 10 y2)], .r [.int (gI 11 y2)], .r [.bool (gB 12 y2)], .r [gC 13 y2], .r [gC 14 y2]]
 else
 (E.ic sB [.r [.str (gS 1 y2)], .r [.int (gI 2 y2)], .r [.bool (gB 3 y2)], .r [.int (gI 4 y2)], .r [.int (gI 5 y2)], .r [.int (gI 6 y2)], .r [.int (gI 7 y2)], .r [.int (gI 8 y2)], .r [.int (gI 9 y2)], .r [.int (gI 10 y2)], .r [.int (gI 11 y2)], .r [.bool (gB 12 y2)], .r [gC 13 y2], .r [gC 14 y2]]).bind fun y3=>
 (let K4:Bool→Option (Nat×List PV):=fun q5=>
 let K6:Bool→Option (Nat×List PV):=fun q7=>
 some (0,[.r [.int (gI 0 y3)], .r [.bool q7], .r [.str (gS 1 y3)], .r [.int (gI 2 y3)], .r [.bool (gB 3 y3)], .r [.int (gI 4 y3)], .r [.int (gI 5 y3)], .r [.int (gI 6 y3)], .r [.int (gI 7 y3)], .r [.int (gI 8 y3)], .r [.int (gI 9 y3)], .r [.int (gI 10 y3)], .r [.int (gI 11 y3)], .r [.bool (gB 12 y3)], .r [gC 13 y3], .r [gC 14 y3], .r [.bool false, .int 0, .int 0, .int 0, .int 0, .int 0, .int 0, .int 0, .int 0], .r (gR 0 y1)])
 if q5=true then
 K6 ((gI 0 y3) !=63)
 else
 K6 false
 if ((gI 0 y3) !=42)=true then
 K4 ((gI 0 y3) !=43)
 else
 K4 false).bind fun x8=>
 if (gB 1 x8.2)=true then
 some [.r (gR 17 x8.2), .r [.str (gS 2 x8.2)], .r [.int (gI 3 x8.2)], .r [.bool (gB 4 x8.2)], .r [.int (gI 5 x8.2)], .r [.int (gI 6 x8.2)], .r [.int (gI 7 x8.2)], .r [.int (gI 8 x8.2)], .r [.int (gI 9 x8.2)], .r [.int (gI 10 x8.2)], .r [.int (gI 11 x8.2)], .r [.int (gI 12 x8.2)], .r [.bool (gB 13 x8.2)], .r [gC 14 x8.2], .r [gC 15 x8.2]]
 else
 if ((gI 0 x8.2) !=63)=true then
 (E.ic qI [.r [at_ (gR 17 x8.2) 5,at_ (gR 17 x8.2) 6,at_ (gR 17 x8.2) 7,at_ (gR 17 x8.2) 8], .r [at_ (gR 17 x8.2) 1,at_ (gR 17 x8.2) 2,at_ (gR 17 x8.2) 3,at_ (gR 17 x8.2) 4], .r [.str (gS 2 x8.2)], .r [.int (Go.IntKind.i64.wrap ((gI 3 x8.2)+1))], .r [.bool (gB 4 x8.2)], .r [.int (gI 5 x8.2)], .r [.int (gI 6 x8.2)], .r [.int (gI 7 x8.2)], .r [.int (gI 8 x8.2)], .r [.int (gI 9 x8.2)], .r [.int (gI 10 x8.2)], .r [.int (gI 11 x8.2)], .r [.int (gI 12 x8.2)], .r [.bool (gB 13 x8.2)], .r [gC 14 x8.2], .r [gC 15 x8.2]]).bind fun y9=>
 let K10:Bool→Option (List PV):=fun q11=>
 some [.r [.bool q11,at_ (gR 17 x8.2) 1,at_ (gR 17 x8.2) 2,at_ (gR 17 x8.2) 3,at_ (gR 17 x8.2) 4,at_ (gR 17 x8.2) 5,at_ (gR 17 x8.2) 6,at_ (gR 17 x8.2) 7,at_ (gR 17 x8.2) 8], .r [.str (gS 0 y9)], .r [.int (gI 1 y9)], .r [.bool (gB 2 y9)], .r [.int (gI 3 y9)], .r [.int (gI 4 y9)], .r [.int (gI 5 y9)], .r [.int (gI 6 y9)], .r [.int (gI 7 y9)], .r [.int (gI 8 y9)], .r [.int (gI 9 y9)], .r [.int (gI 10 y9)], .r [.bool (gB 11 y9)], .r [gC 12 y9], .r [gC 13 y9]]
 if (gB 17 x8.2)=true then
 K10 true
 else
 K10 ((gI 0 x8.2) !=43)
 else
 let K12:Bool→Option (List PV):=fun q13=>
 some [.r [.bool q13,at_ (gR 17 x8.2) 1,at_ (gR 17 x8.2) 2,at_ (gR 17 x8.2) 3,at_ (gR 17 x8.2) 4,at_ (gR 17 x8.2) 5,at_ (gR 17 x8.2) 6,at_ (gR 17 x8.2) 7,at_ (gR 17 x8.2) 8], .r [.str (gS 2 x8.2)], .r [.int (Go.IntKind.i64.wrap ((gI 3 x8.2)+1))], .r [.bool (gB 4 x8.2)], .r [.int (gI 5 x8.2)], .r [.int (gI 6 x8.2)], .r [.int (gI 7 x8.2)], .r [.int (gI 8 x8.2)], .r [.int (gI 9 x8.2)], .r [.int (gI 10 x8.2)], .r [.int (gI 11 x8.2)], .r [.int (gI 12 x8.2)], .r [.bool (gB 13 x8.2)], .r [gC 14 x8.2], .r [gC 15 x8.2]]
 if (gB 17 x8.2)=true then
 K12 true
 else
 K12 ((gI 0 x8.2) !=43)
theorem aFn (E:Env) (p0:List UInt8) (p1:Int) (p2:Bool) (p3:Int) (p4:Int) (p5:Int) (p6:Int) (p7:Int) (p8:Int) (p9:Int) (wL:Int) (xL:Bool) (yL:C) (mK:C):j9 E mJ [.r [.str p0], .r [.int p1], .r [.bool p2], .r [.int p3], .r [.int p4], .r [.int p5], .r [.int p6], .r [.int p7], .r [.int p8], .r [.int p9], .r [.int wL], .r [.bool xL], .r [yL], .r [mK]]=gT E p0 p1 p2 p3 p4 p5 p6 p7 p8 p9 wL xL yL mK:=by kernel_rfl
def qR:Shape:={slots:=[(0, .ptr 0 1),(3, .d (.one (.ref 149))),(5, .d lI)],objs:=[.var uS],m:=1}
def rR:List (mB×Shape):=[(.exit 0,{slots:=[],objs:=[.var uS],m:=1})]
def sR:zB:=(.seq (.region [] [oq 6 (.dA .lss (.t 5) (.c lI [.int 4]))] false 0)
 (.seq (.cond (.t 6) .skip
 (.exit 0))
 (.seq (.block 1 (.seq (.region [] [oq 7 (.mov (.t 5)),
 oq 4 (.mov (.t 7))] false 0)
 (.region [] [oq 8 (.mov (.t 0)),
 oq 9 (.mov (.t 4)),
 ⟨some 10, .eC (.t 8),none,[0]⟩,
 ⟨some 11, .qF 4 149 86 lW (.t 10) (.t 9),none,[0,1,2]⟩,
 ⟨some 12, .ld lW 86 (.t 11),none,[0,1,2,3]⟩,
 oq 13 (.mov (.t 4)),
 ⟨some 14, .qF 4 149 86 lW (.t 3) (.t 13),none,[5]⟩,
 ⟨some 15, .ld lW 86 (.t 14),none,[5,6]⟩,
 ⟨some 16, .tB .or (.t 12) (.t 15),none,[0,1,2,3,4,5,6,7]⟩,
 ⟨some 17, .eC (.t 8),none,[0]⟩,
 ⟨some 18, .qF 4 149 86 lW (.t 17) (.t 9),none,[0,1,2,3,4,5,6,7,8,9]⟩,
 ⟨none, .st lW (.t 18) (.t 16),none,[0,1,2,3,4,5,6,7,8,9,10]⟩] true 0)))
 (.region [] [oq 19 (.tB .add (.t 5) (.c lI [.int 1])),
 oq 5 (.mov (.t 19))] false 0))))
noncomputable def uK (E:Env) (v0:C) (v1:Int) (v2:Row):Option (Nat×List PV):=E.fix (stepOf E sR qR rR) [.r [v0], .r [.int v1], .r v2]
noncomputable def vK (E:Env) (X:C→Int→Row→Option (Nat×List PV)) (v0:C) (v1:Int) (v2:Row):Option (Nat×List PV):=
 if (decide (v1<4))=true then
 if (0:Int)≤v1∧v1<(4:Int)then
 part lW uS (1+(v1.toNat*1)) v2 fun y1=>
 if (0:Int)≤v1∧v1<(4:Int)∧v0.jB=true then
 if (0:Int)≤v1∧v1<(4:Int)then
 aA1 lW uS (1+(v1.toNat*1)) v2 [.int (bitsOf .or .u64 ((at_ y1 0).vA) ((at_ v0.cA (v1.toNat*1)).vA))] fun r2=>
 X v0 (Go.IntKind.i64.wrap (v1+1)) r2
 else none
 else none
 else none
 else
 some (0,[.r v2])
theorem aG0 (E:Env) (X:List PV→Option (Nat×List PV)) (v0:C) (v1:Int) (v2:Row):stepOf E sR qR rR X [.r [v0], .r [.int v1], .r v2]=vK E (fun (v0:C) (v1:Int) (v2:Row)=>X [.r [v0], .r [.int v1], .r v2]) v0 v1 v2:=by kernel_rfl
def nM:rZ:={fn:=124,entry:=tR,res:=[],exit:=uR,body:=(.seq (.region [] [oq 3 (.vL bE 149 (.t 1))] false 0)
 (.seq (.region [] [oq 5 (.mov (.c lI [.int 0]))] false 0)
 (.block 0 (.loop qR rR sR))))}
noncomputable def wW (E:Env) (p0:Row) (p1:Row):Option (List PV):=
 (uK E (.dp p0) 0 p1).bind fun x3=>
 some [.r (gR 0 x3.2)]
theorem aG1 (E:Env) (p0:Row) (p1:Row):j9 E nM [.r p0, .r p1]=wW E p0 p1:=by kernel_rfl
def vR:Shape:={slots:=[(0, .ptr 0 5),(3, .d (.one (.ref 149))),(5, .d lI)],objs:=[.var uS],m:=1}
def wR:List (mB×Shape):=[(.exit 0,{slots:=[],objs:=[.var uS],m:=1})]
def xR:zB:=(.seq (.region [] [oq 6 (.dA .lss (.t 5) (.c lI [.int 4]))] false 0)
 (.seq (.cond (.t 6) .skip
 (.exit 0))
 (.seq (.block 1 (.seq (.region [] [oq 7 (.mov (.t 5)),
 oq 4 (.mov (.t 7))] false 0)
 (.region [] [oq 8 (.mov (.t 0)),
 oq 9 (.mov (.t 4)),
 ⟨some 10, .eC (.t 8),none,[0]⟩,
 ⟨some 11, .qF 4 149 86 lW (.t 10) (.t 9),none,[0,1,2]⟩,
 ⟨some 12, .ld lW 86 (.t 11),none,[0,1,2,3]⟩,
 oq 13 (.mov (.t 4)),
 ⟨some 14, .qF 4 149 86 lW (.t 3) (.t 13),none,[5]⟩,
 ⟨some 15, .ld lW 86 (.t 14),none,[5,6]⟩,
 ⟨some 16, .tB .or (.t 12) (.t 15),none,[0,1,2,3,4,5,6,7]⟩,
 ⟨some 17, .eC (.t 8),none,[0]⟩,
 ⟨some 18, .qF 4 149 86 lW (.t 17) (.t 9),none,[0,1,2,3,4,5,6,7,8,9]⟩,
 ⟨none, .st lW (.t 18) (.t 16),none,[0,1,2,3,4,5,6,7,8,9,10]⟩] true 0)))
 (.region [] [oq 19 (.tB .add (.t 5) (.c lI [.int 1])),
 oq 5 (.mov (.t 19))] false 0))))
noncomputable def wK (E:Env) (v0:C) (v1:Int) (v2:Row):Option (Nat×List PV):=E.fix (stepOf E xR vR wR) [.r [v0], .r [.int v1], .r v2]
noncomputable def xK (E:Env) (X:C→Int→Row→Option (Nat×List PV)) (v0:C) (v1:Int) (v2:Row):Option (Nat×List PV):=
 if (decide (v1<4))=true then
 if (0:Int)≤v1∧v1<(4:Int)then
 part lW uS (5+(v1.toNat*1)) v2 fun y1=>
 if (0:Int)≤v1∧v1<(4:Int)∧v0.jB=true then
 if (0:Int)≤v1∧v1<(4:Int)then
 aA1 lW uS (5+(v1.toNat*1)) v2 [.int (bitsOf .or .u64 ((at_ y1 0).vA) ((at_ v0.cA (v1.toNat*1)).vA))] fun r2=>
 X v0 (Go.IntKind.i64.wrap (v1+1)) r2
 else none
 else none
 else none
 else
 some (0,[.r v2])
theorem aG2 (E:Env) (X:List PV→Option (Nat×List PV)) (v0:C) (v1:Int) (v2:Row):stepOf E xR vR wR X [.r [v0], .r [.int v1], .r v2]=xK E (fun (v0:C) (v1:Int) (v2:Row)=>X [.r [v0], .r [.int v1], .r v2]) v0 v1 v2:=by kernel_rfl
def oM:rZ:={fn:=124,entry:=yR,res:=[],exit:=zR,body:=(.seq (.region [] [oq 3 (.vL bE 149 (.t 1))] false 0)
 (.seq (.region [] [oq 5 (.mov (.c lI [.int 0]))] false 0)
 (.block 0 (.loop vR wR xR))))}
noncomputable def xW (E:Env) (p0:Row) (p1:Row):Option (List PV):=
 (wK E (.dp p0) 0 p1).bind fun x3=>
 some [.r (gR 0 x3.2)]
theorem aG3 (E:Env) (p0:Row) (p1:Row):j9 E oM [.r p0, .r p1]=xW E p0 p1:=by kernel_rfl
def aK:Shape:={slots:=[(0, .ptr 0 0),(2, .ptr 3 0),(3, .ptr 4 0)],objs:=bS4,m:=3}
def bK:List (mB×Shape):=[(.exit 0,{slots:=[(2, .ptr 3 0),(3, .ptr 4 0)],objs:=bS4,m:=3})]
def cK:zB:=(.seq (.seq (.join [(.normal,{slots:=[(0, .ptr 0 0),(2, .ptr 3 0),(3, .ptr 4 0),(17, .d lB)],objs:=bS4,m:=3})] (.region [] [oq 6 (.mov (.t 0)),
 oq 7 (.nB 174 129 (uD) (vD) [0,1,2] 0 none [(.t 6)]),
 oq 8 (.mov (.t 7)),
 ⟨some 9, .mov (.t 0),some (8,true),[]⟩,
 ⟨some 10, .nB 175 130 (uB) (wB) [0,1,2] 0 none [(.t 9)],some (8,true),[]⟩,
 ⟨some 11, .dA .neq (.t 10) (.c lU [.int 124]),some (8,true),[]⟩,
 oq 12 (.pick (.t 8) (.t 11) (.c lB [.bool false])),
 oq 13 (.mov (.t 12)),
 ⟨some 14, .mov (.t 0),some (13,true),[]⟩,
 ⟨some 15, .nB 175 130 (uB) (wB) [0,1,2] 0 none [(.t 14)],some (13,true),[]⟩,
 ⟨some 16, .dA .neq (.t 15) (.c lU [.int 41]),some (13,true),[]⟩,
 oq 17 (.pick (.t 13) (.t 16) (.c lB [.bool false]))] false 0))
 (.cond (.t 17) .skip
 (.exit 0)))
 (.block 1 (.seq (.region [] [oq 18 (.mov (.t 0)),
 oq 19 (.nB 176 131 (xY) (yY) [0,1,2] 0 none [(.t 18)]),
 oq 4 (.oB 0 uS [.bool false, .int 0, .int 0, .int 0, .int 0, .int 0, .int 0, .int 0, .int 0]),
 ⟨none, .st uS (.t 4) (.t 19),none,[]⟩] false 1)
 (.seq (.region [] [oq 20 (.mov (.t 0)),
 oq 21 (.xA 5 4 151 149 (.t 3)),
 oq 22 (.ld bE 149 (.t 21)),
 oq 23 (.xA 1 4 151 149 (.t 4)),
 oq 24 (.ld bE 149 (.t 23)),
 oq 25 (.nB 185 132 (vN) (wN) [0,1,2] 0 none [(.t 20),(.t 22),(.t 24)])] false 0)
 (.seq (.seq (.region [] [oq 26 (.xA 0 1 151 4 (.t 3)),
 oq 27 (.ld lB 4 (.t 26))] false 0)
 (.join [(.normal,{slots:=[(0, .ptr 0 0),(2, .ptr 3 0),(3, .ptr 4 0),(4, .ptr 5 0)],objs:=bS6,m:=3})] (.cond (.t 27) (.region [] [oq 28 (.xA 1 4 151 149 (.t 3)),
 oq 29 (.xA 1 4 151 149 (.t 4)),
 oq 30 (.ld bE 149 (.t 29)),
 oq 31 (.nB 187 124 (tR) (uR) [4] 0 none [(.t 28),(.t 30)])] false 0)
 .skip)))
 (.seq (.seq (.region [] [oq 32 (.xA 0 1 151 4 (.t 4)),
 oq 33 (.ld lB 4 (.t 32)),
 oq 34 (.not (.t 33))] false 0)
 (.join [(.normal,{slots:=[(0, .ptr 0 0),(2, .ptr 3 0),(3, .ptr 4 0),(4, .ptr 5 0)],objs:=bS6,m:=3})] (.cond (.t 34) (.region [] [oq 35 (.bld bE [.int 0, .int 0, .int 0, .int 0] []),
 oq 36 (.xA 5 4 151 149 (.t 3)),
 ⟨none, .st bE (.t 36) (.t 35),none,[]⟩] false 0)
 .skip)))
 (.seq (.region [] [oq 37 (.xA 5 4 151 149 (.t 3)),
 oq 38 (.xA 5 4 151 149 (.t 4)),
 oq 39 (.ld bE 149 (.t 38)),
 oq 40 (.nB 188 124 (yR) (zR) [4] 0 none [(.t 37),(.t 39)])] false 0)
 (.region [] [oq 41 (.xA 0 1 151 4 (.t 3)),
 oq 42 (.ld lB 4 (.t 41)),
 oq 43 (.mov (.t 42)),
 ⟨some 44, .xA 0 1 151 4 (.t 4),some (43,true),[]⟩,
 ⟨some 45, .ld lB 4 (.t 44),some (43,true),[]⟩,
 oq 46 (.pick (.t 43) (.t 45) (.c lB [.bool false])),
 oq 47 (.xA 0 1 151 4 (.t 3)),
 ⟨none, .st lB (.t 47) (.t 46),none,[]⟩] false 0))))))))
noncomputable def vF (E:Env) (v0:List UInt8) (v1:Int) (v2:Bool) (v3:Int) (v4:Int) (v5:Int) (v6:Int) (v7:Int) (v8:Int) (v9:Int) (v10:Int) (v11:Bool) (v12:C) (eM:C) (uQ:Row) (fO:Row):Option (Nat×List PV):=E.fix (stepOf E cK aK bK) [.r [.str v0], .r [.int v1], .r [.bool v2], .r [.int v3], .r [.int v4], .r [.int v5], .r [.int v6], .r [.int v7], .r [.int v8], .r [.int v9], .r [.int v10], .r [.bool v11], .r [v12], .r [eM], .r uQ, .r fO]
noncomputable def dK (E:Env) (X:List UInt8→Int→Bool→Int→Int→Int→Int→Int→Int→Int→Int→Bool→C→C→Row→Row→Option (Nat×List PV)) (v0:List UInt8) (v1:Int) (v2:Bool) (v3:Int) (v4:Int) (v5:Int) (v6:Int) (v7:Int) (v8:Int) (v9:Int) (v10:Int) (v11:Bool) (v12:C) (eM:C) (uQ:Row) (fO:Row):Option (Nat×List PV):=
 ((E.ic iD [.r [.str v0], .r [.int v1], .r [.bool v2], .r [.int v3], .r [.int v4], .r [.int v5], .r [.int v6], .r [.int v7], .r [.int v8], .r [.int v9], .r [.int v10], .r [.bool v11], .r [v12], .r [eM]]).bind fun y1=>
 if (gB 0 y1)=true then
 (E.ic sB [.r [.str (gS 1 y1)], .r [.int (gI 2 y1)], .r [.bool (gB 3 y1)], .r [.int (gI 4 y1)], .r [.int (gI 5 y1)], .r [.int (gI 6 y1)], .r [.int (gI 7 y1)], .r [.int (gI 8 y1)], .r [.int (gI 9 y1)], .r [.int (gI 10 y1)], .r [.int (gI 11 y1)], .r [.bool (gB 12 y1)], .r [gC 13 y1], .r [gC 14 y1]]).bind fun y9=>
 if ((gI 0 y9) !=124)=true then
 (E.ic sB [.r [.str (gS 1 y9)], .r [.int (gI 2 y9)], .r [.bool (gB 3 y9)], .r [.int (gI 4 y9)], .r [.int (gI 5 y9)], .r [.int (gI 6 y9)], .r [.int (gI 7 y9)], .r [.int (gI 8 y9)], .r [.int (gI 9 y9)], .r [.int (gI 10 y9)], .r [.int (gI 11 y9)], .r [.bool (gB 12 y9)], .r [gC 13 y9], .r [gC 14 y9]]).bind fun pW=>
 some (0,[.r [.bool ((gI 0 pW) !=41)], .r [.str (gS 1 pW)], .r [.int (gI 2 pW)], .r [.bool (gB 3 pW)], .r [.int (gI 4 pW)], .r [.int (gI 5 pW)], .r [.int (gI 6 pW)], .r [.int (gI 7 pW)], .r [.int (gI 8 pW)], .r [.int (gI 9 pW)], .r [.int (gI 10 pW)], .r [.int (gI 11 pW)], .r [.bool (gB 12 pW)], .r [gC 13 pW], .r [gC 14 pW], .r uQ, .r fO])
 else
 some (0,[.r [.bool false], .r [.str (gS 1 y9)], .r [.int (gI 2 y9)], .r [.bool (gB 3 y9)], .r [.int (gI 4 y9)], .r [.int (gI 5 y9)], .r [.int (gI 6 y9)], .r [.int (gI 7 y9)], .r [.int (gI 8 y9)], .r [.int (gI 9 y9)], .r [.int (gI 10 y9)], .r [.int (gI 11 y9)], .r [.bool (gB 12 y9)], .r [gC 13 y9], .r [gC 14 y9], .r uQ, .r fO])
 else
 some (0,[.r [.bool false], .r [.str (gS 1 y1)], .r [.int (gI 2 y1)], .r [.bool (gB 3 y1)], .r [.int (gI 4 y1)], .r [.int (gI 5 y1)], .r [.int (gI 6 y1)], .r [.int (gI 7 y1)], .r [.int (gI 8 y1)], .r [.int (gI 9 y1)], .r [.int (gI 10 y1)], .r [.int (gI 11 y1)], .r [.bool (gB 12 y1)], .r [gC 13 y1], .r [gC 14 y1], .r uQ, .r fO])).bind fun nW=>
 if (gB 0 nW.2)=true then
 (E.ic iQ [.r [.str (gS 1 nW.2)], .r [.int (gI 2 nW.2)], .r [.bool (gB 3 nW.2)], .r [.int (gI 4 nW.2)], .r [.int (gI 5 nW.2)], .r [.int (gI 6 nW.2)], .r [.int (gI 7 nW.2)], .r [.int (gI 8 nW.2)], .r [.int (gI 9 nW.2)], .r [.int (gI 10 nW.2)], .r [.int (gI 11 nW.2)], .r [.bool (gB 12 nW.2)], .r [gC 13 nW.2], .r [gC 14 nW.2]]).bind fun y15=>
 (E.ic qI [.r [at_ (gR 16 nW.2) 5,at_ (gR 16 nW.2) 6,at_ (gR 16 nW.2) 7,at_ (gR 16 nW.2) 8], .r [at_ (gR 0 y15) 1,at_ (gR 0 y15) 2,at_ (gR 0 y15) 3,at_ (gR 0 y15) 4], .r [.str (gS 1 y15)], .r [.int (gI 2 y15)], .r [.bool (gB 3 y15)], .r [.int (gI 4 y15)], .r [.int (gI 5 y15)], .r [.int (gI 6 y15)], .r [.int (gI 7 y15)], .r [.int (gI 8 y15)], .r [.int (gI 9 y15)], .r [.int (gI 10 y15)], .r [.int (gI 11 y15)], .r [.bool (gB 12 y15)], .r [gC 13 y15], .r [gC 14 y15]]).bind fun y16=>
 (if (gB 16 nW.2)=true then
 (E.ic wH [.r [at_ (gR 0 y15) 1,at_ (gR 0 y15) 2,at_ (gR 0 y15) 3,at_ (gR 0 y15) 4], .r (gR 16 nW.2)]).bind fun y17=>
 some (0,[.r [.str (gS 0 y16)], .r [.int (gI 1 y16)], .r [.bool (gB 2 y16)], .r [.int (gI 3 y16)], .r [.int (gI 4 y16)], .r [.int (gI 5 y16)], .r [.int (gI 6 y16)], .r [.int (gI 7 y16)], .r [.int (gI 8 y16)], .r [.int (gI 9 y16)], .r [.int (gI 10 y16)], .r [.bool (gB 11 y16)], .r [gC 12 y16], .r [gC 13 y16], .r (gR 15 nW.2), .r (gR 0 y17), .r (gR 0 y15)])
 else
 some (0,[.r [.str (gS 0 y16)], .r [.int (gI 1 y16)], .r [.bool (gB 2 y16)], .r [.int (gI 3 y16)], .r [.int (gI 4 y16)], .r [.int (gI 5 y16)], .r [.int (gI 6 y16)], .r [.int (gI 7 y16)], .r [.int (gI 8 y16)], .r [.int (gI 9 y16)], .r [.int (gI 10 y16)], .r [.bool (gB 11 y16)], .r [gC 12 y16], .r [gC 13 y16], .r (gR 15 nW.2), .r (gR 16 nW.2), .r (gR 0 y15)])).bind fun qK=>
 (if (!(gB 16 qK.2))=true then
 some (0,[.r [.str (gS 0 qK.2)], .r [.int (gI 1 qK.2)], .r [.bool (gB 2 qK.2)], .r [.int (gI 3 qK.2)], .r [.int (gI 4 qK.2)], .r [.int (gI 5 qK.2)], .r [.int (gI 6 qK.2)], .r [.int (gI 7 qK.2)], .r [.int (gI 8 qK.2)], .r [.int (gI 9 qK.2)], .r [.int (gI 10 qK.2)], .r [.bool (gB 11 qK.2)], .r [gC 12 qK.2], .r [gC 13 qK.2], .r (gR 14 qK.2), .r [gC 15 qK.2,at_ (gR 15 qK.2) 1,at_ (gR 15 qK.2) 2,at_ (gR 15 qK.2) 3,at_ (gR 15 qK.2) 4, .int 0, .int 0, .int 0, .int 0], .r (gR 16 qK.2)])
 else
 some (0,[.r [.str (gS 0 qK.2)], .r [.int (gI 1 qK.2)], .r [.bool (gB 2 qK.2)], .r [.int (gI 3 qK.2)], .r [.int (gI 4 qK.2)], .r [.int (gI 5 qK.2)], .r [.int (gI 6 qK.2)], .r [.int (gI 7 qK.2)], .r [.int (gI 8 qK.2)], .r [.int (gI 9 qK.2)], .r [.int (gI 10 qK.2)], .r [.bool (gB 11 qK.2)], .r [gC 12 qK.2], .r [gC 13 qK.2], .r (gR 14 qK.2), .r (gR 15 qK.2), .r (gR 16 qK.2)])).bind fun x19=>
 (E.ic xH [.r [at_ (gR 16 x19.2) 5,at_ (gR 16 x19.2) 6,at_ (gR 16 x19.2) 7,at_ (gR 16 x19.2) 8], .r (gR 15 x19.2)]).bind fun y20=>
 let K21:Bool→Option (Nat×List PV):=fun q22=>
 X (gS 0 x19.2) (gI 1 x19.2) (gB 2 x19.2) (gI 3 x19.2) (gI 4 x19.2) (gI 5 x19.2) (gI 6 x19.2) (gI 7 x19.2) (gI 8 x19.2) (gI 9 x19.2) (gI 10 x19.2) (gB 11 x19.2) (gC 12 x19.2) (gC 13 x19.2) (gR 14 x19.2) [.bool q22,at_ (gR 0 y20) 1,at_ (gR 0 y20) 2,at_ (gR 0 y20) 3,at_ (gR 0 y20) 4,at_ (gR 0 y20) 5,at_ (gR 0 y20) 6,at_ (gR 0 y20) 7,at_ (gR 0 y20) 8]
 if (gB 0 y20)=true then
 K21 (gB 16 x19.2)
 else
 K21 false
 else
 some (0,[.r [.str (gS 1 nW.2)], .r [.int (gI 2 nW.2)], .r [.bool (gB 3 nW.2)], .r [.int (gI 4 nW.2)], .r [.int (gI 5 nW.2)], .r [.int (gI 6 nW.2)], .r [.int (gI 7 nW.2)], .r [.int (gI 8 nW.2)], .r [.int (gI 9 nW.2)], .r [.int (gI 10 nW.2)], .r [.int (gI 11 nW.2)], .r [.bool (gB 12 nW.2)], .r [gC 13 nW.2], .r [gC 14 nW.2], .r (gR 15 nW.2), .r (gR 16 nW.2)])
theorem aDr (E:Env) (X:List PV→Option (Nat×List PV)) (v0:List UInt8) (v1:Int) (v2:Bool) (v3:Int) (v4:Int) (v5:Int) (v6:Int) (v7:Int) (v8:Int) (v9:Int) (v10:Int) (v11:Bool) (v12:C) (eM:C) (uQ:Row) (fO:Row):stepOf E cK aK bK X [.r [.str v0], .r [.int v1], .r [.bool v2], .r [.int v3], .r [.int v4], .r [.int v5], .r [.int v6], .r [.int v7], .r [.int v8], .r [.int v9], .r [.int v10], .r [.bool v11], .r [v12], .r [eM], .r uQ, .r fO]=dK E (fun (v0:List UInt8) (v1:Int) (v2:Bool) (v3:Int) (v4:Int) (v5:Int) (v6:Int) (v7:Int) (v8:Int) (v9:Int) (v10:Int) (v11:Bool) (v12:C) (eM:C) (uQ:Row) (fO:Row)=>X [.r [.str v0], .r [.int v1], .r [.bool v2], .r [.int v3], .r [.int v4], .r [.int v5], .r [.int v6], .r [.int v7], .r [.int v8], .r [.int v9], .r [.int v10], .r [.bool v11], .r [v12], .r [eM], .r uQ, .r fO]) v0 v1 v2 v3 v4 v5 v6 v7 v8 v9 v10 v11 v12 eM uQ fO:=by kernel_rfl
def kG:rZ:={fn:=128,entry:=eK,res:=[.var 2 uS],exit:=fK,body:=(.seq (.region [] [oq 2 (.oB 0 uS [.bool false, .int 0, .int 0, .int 0, .int 0, .int 0, .int 0, .int 0, .int 0])] false 1)
 (.seq (.region [] [oq 5 (.bld uS [.bool false, .int 0, .int 0, .int 0, .int 0, .int 0, .int 0, .int 0, .int 0] [(0,1,(.c lB [.bool true]))]),
 oq 3 (.oB 0 uS [.bool false, .int 0, .int 0, .int 0, .int 0, .int 0, .int 0, .int 0, .int 0]),
 ⟨none, .st uS (.t 3) (.t 5),none,[]⟩] false 1)
 (.seq (.block 0 (.loop aK bK cK))
 (.seq (.region [] [oq 48 (.ld uS 151 (.t 3)),
 ⟨none, .st uS (.t 2) (.t 48),none,[]⟩] false 0)
 .ret))))}
noncomputable def xN (E:Env) (p0:List UInt8) (p1:Int) (p2:Bool) (p3:Int) (p4:Int) (p5:Int) (p6:Int) (p7:Int) (p8:Int) (p9:Int) (wL:Int) (xL:Bool) (yL:C) (mK:C):Option (List PV):=
 (vF E p0 p1 p2 p3 p4 p5 p6 p7 p8 p9 wL xL yL mK [.bool false, .int 0, .int 0, .int 0, .int 0, .int 0, .int 0, .int 0, .int 0] [.bool true, .int 0, .int 0, .int 0, .int 0, .int 0, .int 0, .int 0, .int 0]).bind fun x23=>
 some [.r (gR 15 x23.2), .r [.str (gS 0 x23.2)], .r [.int (gI 1 x23.2)], .r [.bool (gB 2 x23.2)], .r [.int (gI 3 x23.2)], .r [.int (gI 4 x23.2)], .r [.int (gI 5 x23.2)], .r [.int (gI 6 x23.2)], .r [.int (gI 7 x23.2)], .r [.int (gI 8 x23.2)], .r [.int (gI 9 x23.2)], .r [.int (gI 10 x23.2)], .r [.bool (gB 11 x23.2)], .r [gC 12 x23.2], .r [gC 13 x23.2]]
theorem aDs (E:Env) (p0:List UInt8) (p1:Int) (p2:Bool) (p3:Int) (p4:Int) (p5:Int) (p6:Int) (p7:Int) (p8:Int) (p9:Int) (wL:Int) (xL:Bool) (yL:C) (mK:C):j9 E kG [.r [.str p0], .r [.int p1], .r [.bool p2], .r [.int p3], .r [.int p4], .r [.int p5], .r [.int p6], .r [.int p7], .r [.int p8], .r [.int p9], .r [.int wL], .r [.bool xL], .r [yL], .r [mK]]=xN E p0 p1 p2 p3 p4 p5 p6 p7 p8 p9 wL xL yL mK:=by kernel_rfl
def fH:Shape:={slots:=[(0, .ptr 0 0),(2, .ptr 3 0),(3, .ptr 4 0)],objs:=bS4,m:=3}
def gH:List (mB×Shape):=[(.exit 0,{slots:=[(2, .ptr 3 0),(3, .ptr 4 0)],objs:=bS4,m:=3})]
def iH:zB:=(.seq (.seq (.join [(.normal,{slots:=[(0, .ptr 0 0),(2, .ptr 3 0),(3, .ptr 4 0),(13, .d lB)],objs:=bS4,m:=3})] (.region [] [oq 7 (.mov (.t 0)),
 oq 8 (.nB 174 129 (uD) (vD) [0,1,2] 0 none [(.t 7)]),
 oq 9 (.mov (.t 8)),
 ⟨some 10, .mov (.t 0),some (9,true),[]⟩,
 ⟨some 11, .nB 175 130 (uB) (wB) [0,1,2] 0 none [(.t 10)],some (9,true),[]⟩,
 ⟨some 12, .dA .eql (.t 11) (.c lU [.int 124]),some (9,true),[]⟩,
 oq 13 (.pick (.t 9) (.t 12) (.c lB [.bool false]))] false 0))
 (.cond (.t 13) .skip
 (.exit 0)))
 (.block 1 (.seq (.region [] [oq 14 (.mov (.t 0)),
 oq 15 (.eC (.t 14)),
 oq 16 (.xA 1 1 183 3 (.t 15)),
 oq 17 (.n3 (.t 16)),
 oq 18 (.tB .add (.t 17) (.c lI [.int 1])),
 oq 19 (.eC (.t 14)),
 oq 20 (.xA 1 1 183 3 (.t 19)),
 ⟨none, .stC (.t 20) (.t 18),none,[]⟩] false 0)
 (.seq (.region [] [oq 21 (.mov (.t 0)),
 oq 22 (.nB 173 128 (eK) (fK) [0,1,2] 0 none [(.t 21)]),
 oq 4 (.oB 0 uS [.bool false, .int 0, .int 0, .int 0, .int 0, .int 0, .int 0, .int 0, .int 0]),
 ⟨none, .st uS (.t 4) (.t 22),none,[]⟩] false 1)
 (.seq (.region [] [oq 23 (.xA 0 1 151 4 (.t 3)),
 oq 24 (.ld lB 4 (.t 23)),
 oq 25 (.mov (.t 24)),
 ⟨some 26, .xA 0 1 151 4 (.t 4),some (25,false),[]⟩,
 ⟨some 27, .ld lB 4 (.t 26),some (25,false),[]⟩,
 oq 28 (.pick (.t 25) (.c lB [.bool true]) (.t 27)),
 oq 29 (.xA 0 1 151 4 (.t 3)),
 ⟨none, .st lB (.t 29) (.t 28),none,[]⟩] false 0)
 (.seq (.region [] [oq 30 (.xA 1 4 151 149 (.t 3)),
 oq 31 (.xA 1 4 151 149 (.t 4)),
 oq 32 (.ld bE 149 (.t 31)),
 oq 33 (.nB 187 124 (tR) (uR) [4] 0 none [(.t 30),(.t 32)])] false 0)
 (.region [] [oq 34 (.xA 5 4 151 149 (.t 3)),
 oq 35 (.xA 5 4 151 149 (.t 4)),
 oq 36 (.ld bE 149 (.t 35)),
 oq 37 (.nB 188 124 (yR) (zR) [4] 0 none [(.t 34),(.t 36)])] false 0)))))))
noncomputable def yC (E:Env) (v0:List UInt8) (v1:Int) (v2:Bool) (v3:Int) (v4:Int) (v5:Int) (v6:Int) (v7:Int) (v8:Int) (v9:Int) (v10:Int) (v11:Bool) (v12:C) (eM:C) (uQ:Row) (fO:Row):Option (Nat×List PV):=E.fix (stepOf E iH fH gH) [.r [.str v0], .r [.int v1], .r [.bool v2], .r [.int v3], .r [.int v4], .r [.int v5], .r [.int v6], .r [.int v7], .r [.int v8], .r [.int v9], .r [.int v10], .r [.bool v11], .r [v12], .r [eM], .r uQ, .r fO]
noncomputable def jH (E:Env) (X:List UInt8→Int→Bool→Int→Int→Int→Int→Int→Int→Int→Int→Bool→C→C→Row→Row→Option (Nat×List PV)) (v0:List UInt8) (v1:Int) (v2:Bool) (v3:Int) (v4:Int) (v5:Int) (v6:Int) (v7:Int) (v8:Int) (v9:Int) (v10:Int) (v11:Bool) (v12:C) (eM:C) (uQ:Row) (fO:Row):Option (Nat×List PV):=
 ((E.ic iD [.r [.str v0], .r [.int v1], .r [.bool v2], .r [.int v3], .r [.int v4], .r [.int v5], .r [.int v6], .r [.int v7], .r [.int v8], .r [.int v9], .r [.int v10], .r [.bool v11], .r [v12], .r [eM]]).bind fun y2=>
 if (gB 0 y2)=true then
 (E.ic sB [.r [.str (gS 1 y2)], .r [.int (gI 2 y2)], .r [.bool (gB 3 y2)], .r [.int (gI 4 y2)], .r [.int (gI 5 y2)], .r [.int (gI 6 y2)], .r [.int (gI 7 y2)], .r [.int (gI 8 y2)], .r [.int (gI 9 y2)], .r [.int (gI 10 y2)], .r [.int (gI 11 y2)], .r [.bool (gB 12 y2)], .r [gC 13 y2], .r [gC 14 y2]]).bind fun y6=>
 some (0,[.r [.bool ((gI 0 y6)==124)], .r [.str (gS 1 y6)], .r [.int (gI 2 y6)], .r [.bool (gB 3 y6)], .r [.int (gI 4 y6)], .r [.int (gI 5 y6)], .r [.int (gI 6 y6)], .r [.int (gI 7 y6)], .r [.int (gI 8 y6)], .r [.int (gI 9 y6)], .r [.int (gI 10 y6)], .r [.int (gI 11 y6)], .r [.bool (gB 12 y6)], .r [gC 13 y6], .r [gC 14 y6], .r uQ, .r fO])
 else
 some (0,[.r [.bool false], .r [.str (gS 1 y2)], .r [.int (gI 2 y2)], .r [.bool (gB 3 y2)], .r [.int (gI 4 y2)], .r [.int (gI 5 y2)], .r [.int (gI 6 y2)], .r [.int (gI 7 y2)], .r [.int (gI 8 y2)], .r [.int (gI 9 y2)], .r [.int (gI 10 y2)], .r [.int (gI 11 y2)], .r [.bool (gB 12 y2)], .r [gC 13 y2], .r [gC 14 y2], .r uQ, .r fO])).bind fun x7=>
 if (gB 0 x7.2)=true then
 (E.ic lG [.r [.str (gS 1 x7.2)], .r [.int (Go.IntKind.i64.wrap ((gI 2 x7.2)+1))], .r [.bool (gB 3 x7.2)], .r [.int (gI 4 x7.2)], .r [.int (gI 5 x7.2)], .r [.int (gI 6 x7.2)], .r [.int (gI 7 x7.2)], .r [.int (gI 8 x7.2)], .r [.int (gI 9 x7.2)], .r [.int (gI 10 x7.2)], .r [.int (gI 11 x7.2)], .r [.bool (gB 12 x7.2)], .r [gC 13 x7.2], .r [gC 14 x7.2]]).bind fun y8=>
 let K9:Bool→Option (Nat×List PV):=fun q10=>
 (E.ic wH [.r [at_ (gR 0 y8) 1,at_ (gR 0 y8) 2,at_ (gR 0 y8) 3,at_ (gR 0 y8) 4], .r [.bool q10,at_ (gR 16 x7.2) 1,at_ (gR 16 x7.2) 2,at_ (gR 16 x7.2) 3,at_ (gR 16 x7.2) 4,at_ (gR 16 x7.2) 5,at_ (gR 16 x7.2) 6,at_ (gR 16 x7.2) 7,at_ (gR 16 x7.2) 8]]).bind fun y11=>
 (E.ic xH [.r [at_ (gR 0 y8) 5,at_ (gR 0 y8) 6,at_ (gR 0 y8) 7,at_ (gR 0 y8) 8], .r (gR 0 y11)]).bind fun y12=>
 X (gS 1 y8) (gI 2 y8) (gB 3 y8) (gI 4 y8) (gI 5 y8) (gI 6 y8) (gI 7 y8) (gI 8 y8) (gI 9 y8) (gI 10 y8) (gI 11 y8) (gB 12 y8) (gC 13 y8) (gC 14 y8) (gR 15 x7.2) (gR 0 y12)
 if (gB 16 x7.2)=true then
 K9 true
 else
 K9 (gB 0 y8)
 else
 some (0,[.r [.str (gS 1 x7.2)], .r [.int (gI 2 x7.2)], .r [.bool (gB 3 x7.2)], .r [.int (gI 4 x7.2)], .r [.int (gI 5 x7.2)], .r [.int (gI 6 x7.2)], .r [.int (gI 7 x7.2)], .r [.int (gI 8 x7.2)], .r [.int (gI 9 x7.2)], .r [.int (gI 10 x7.2)], .r [.int (gI 11 x7.2)], .r [.bool (gB 12 x7.2)], .r [gC 13 x7.2], .r [gC 14 x7.2], .r (gR 15 x7.2), .r (gR 16 x7.2)])
theorem aAP (E:Env) (X:List PV→Option (Nat×List PV)) (v0:List UInt8) (v1:Int) (v2:Bool) (v3:Int) (v4:Int) (v5:Int) (v6:Int) (v7:Int) (v8:Int) (v9:Int) (v10:Int) (v11:Bool) (v12:C) (eM:C) (uQ:Row) (fO:Row):stepOf E iH fH gH X [.r [.str v0], .r [.int v1], .r [.bool v2], .r [.int v3], .r [.int v4], .r [.int v5], .r [.int v6], .r [.int v7], .r [.int v8], .r [.int v9], .r [.int v10], .r [.bool v11], .r [v12], .r [eM], .r uQ, .r fO]=jH E (fun (v0:List UInt8) (v1:Int) (v2:Bool) (v3:Int) (v4:Int) (v5:Int) (v6:Int) (v7:Int) (v8:Int) (v9:Int) (v10:Int) (v11:Bool) (v12:C) (eM:C) (uQ:Row) (fO:Row)=>X [.r [.str v0], .r [.int v1], .r [.bool v2], .r [.int v3], .r [.int v4], .r [.int v5], .r [.int v6], .r [.int v7], .r [.int v8], .r [.int v9], .r [.int v10], .r [.bool v11], .r [v12], .r [eM], .r uQ, .r fO]) v0 v1 v2 v3 v4 v5 v6 v7 v8 v9 v10 v11 v12 eM uQ fO:=by kernel_rfl
def vE:rZ:={fn:=121,entry:=dH,res:=[.var 2 uS],exit:=eH,body:=(.seq (.region [] [oq 2 (.oB 0 uS [.bool false, .int 0, .int 0, .int 0, .int 0, .int 0, .int 0, .int 0, .int 0])] false 1)
 (.seq (.region [] [oq 5 (.mov (.t 0)),
 oq 6 (.nB 173 128 (eK) (fK) [0,1,2] 0 none [(.t 5)]),
 oq 3 (.oB 0 uS [.bool false, .int 0, .int 0, .int 0, .int 0, .int 0, .int 0, .int 0, .int 0]),
 ⟨none, .st uS (.t 3) (.t 6),none,[]⟩] false 1)
 (.seq (.block 0 (.loop fH gH iH))
 (.seq (.region [] [oq 38 (.ld uS 151 (.t 3)),
 ⟨none, .st uS (.t 2) (.t 38),none,[]⟩] false 0)
 .ret))))}
noncomputable def dJ (E:Env) (p0:List UInt8) (p1:Int) (p2:Bool) (p3:Int) (p4:Int) (p5:Int) (p6:Int) (p7:Int) (p8:Int) (p9:Int) (wL:Int) (xL:Bool) (yL:C) (mK:C):Option (List PV):=
 (E.ic lG [.r [.str p0], .r [.int p1], .r [.bool p2], .r [.int p3], .r [.int p4], .r [.int p5], .r [.int p6], .r [.int p7], .r [.int p8], .r [.int p9], .r [.int wL], .r [.bool xL], .r [yL], .r [mK]]).bind fun y1=>
 (yC E (gS 1 y1) (gI 2 y1) (gB 3 y1) (gI 4 y1) (gI 5 y1) (gI 6 y1) (gI 7 y1) (gI 8 y1) (gI 9 y1) (gI 10 y1) (gI 11 y1) (gB 12 y1) (gC 13 y1) (gC 14 y1) [.bool false, .int 0, .int 0, .int 0, .int 0, .int 0, .int 0, .int 0, .int 0] (gR 0 y1)).bind fun x13=>
 some [.r (gR 15 x13.2), .r [.str (gS 0 x13.2)], .r [.int (gI 1 x13.2)], .r [.bool (gB 2 x13.2)], .r [.int (gI 3 x13.2)], .r [.int (gI 4 x13.2)], .r [.int (gI 5 x13.2)], .r [.int (gI 6 x13.2)], .r [.int (gI 7 x13.2)], .r [.int (gI 8 x13.2)], .r [.int (gI 9 x13.2)], .r [.int (gI 10 x13.2)], .r [.bool (gB 11 x13.2)], .r [gC 12 x13.2], .r [gC 13 x13.2]]
theorem aAQ (E:Env) (p0:List UInt8) (p1:Int) (p2:Bool) (p3:Int) (p4:Int) (p5:Int) (p6:Int) (p7:Int) (p8:Int) (p9:Int) (wL:Int) (xL:Bool) (yL:C) (mK:C):j9 E vE [.r [.str p0], .r [.int p1], .r [.bool p2], .r [.int p3], .r [.int p4], .r [.int p5], .r [.int p6], .r [.int p7], .r [.int p8], .r [.int p9], .r [.int wL], .r [.bool xL], .r [yL], .r [mK]]=dJ E p0 p1 p2 p3 p4 p5 p6 p7 p8 p9 wL xL yL mK:=by kernel_rfl
def n7:aD:={ps:=[lS],rs:=[lA4,lI],res:=[(true,2,none),(false,3,none)],body:=(.seq (.region [] [oq 2 (.oB 0 lA4 [.fA, .fA, .bool false, .int 0, .int 0, .int 0, .int 0, .int 0, .int 0, .int 0, .int 0]),
 oq 3 (.mov (.c lI [.int 0]))] false 1)
 (.seq (.seq (.region [] [oq 6 (.mov (.t 0)),
 oq 7 (.aB3 (.t 6)),
 oq 8 (.dA .gtr (.t 7) (.c lI [.int 200]))] false 0)
 (.cond (.t 8) (.seq (.region [] [oq 9 (.bld lA4 [.fA, .fA, .bool false, .int 0, .int 0, .int 0, .int 0, .int 0, .int 0, .int 0, .int 0] []),
 ⟨none, .st lA4 (.t 2) (.t 9),none,[]⟩,
 oq 3 (.mov (.c lI [.int 2]))] false 0)
 .ret)
 .skip))
 (.seq (.region [] [oq 10 (.mov (.t 0)),
 oq 11 (.bld bE [.int 0, .int 0, .int 0, .int 0] []),
 oq 12 (.bslS 0 181 bE 1 [.int 0, .int 0, .int 0, .int 0] [(0,(.t 11))]),
 oq 13 (.bld bE [.int 0, .int 0, .int 0, .int 0] []),
 oq 14 (.bslO 1 149 bE 1 [.int 0, .int 0, .int 0, .int 0] [(0,(.t 13))]),
 oq 15 (.bldA [some ((.sl 181), .fA),some ((.sl 149), .fA),some ((.bool), .bool false),some ((.int .u64), .int 0),some ((.int .u64), .int 0),some ((.int .u64), .int 0),some ((.int .u64), .int 0),some ((.int .u64), .int 0),some ((.int .u64), .int 0),some ((.int .u64), .int 0),some ((.int .u64), .int 0)] [(0,1,(.t 12)),(1,1,(.t 14))]),
 oq 16 (.bldA [some ((.str), .str []),some ((.int .i64), .int 0),some ((.sl 181), .fA),some ((.sl 149), .fA),some ((.bool), .bool false),some ((.int .u64), .int 0),some ((.int .u64), .int 0),some ((.int .u64), .int 0),some ((.int .u64), .int 0),some ((.int .u64), .int 0),some ((.int .u64), .int 0),some ((.int .u64), .int 0),some ((.int .u64), .int 0),some ((.bool), .bool false)] [(0,1,(.t 10)),(2,11,(.t 15))]),
 oq 17 (.aU2 2 (.t 16)),
 oq 4 (.mov (.t 17))] false 3)
 (.seq (.region [] [oq 18 (.mov (.t 4)),
 oq 19 (.nB 172 121 (dH) (eH) [3,1,2] 0 none [(.t 18)]),
 oq 5 (.oB 0 uS [.bool false, .int 0, .int 0, .int 0, .int 0, .int 0, .int 0, .int 0, .int 0]),
 ⟨none, .st uS (.t 5) (.t 19),none,[]⟩] false 1)
 (.seq (.seq (.join [(.normal,{slots:=[(2, .ptr 0 0),(4, .ptr 1 0),(5, .ptr 2 0),(32, .d lB)],objs:=[.var lA4, .cells false [.d lS, .d lI, .sw 3, .whole 4, .d lB, .d lW, .d lW, .d lW, .d lW, .d lW, .d lW, .d lW, .d lW, .d lB], .var uS, .uA 181 bE, .arr bE]})] (.region [] [oq 20 (.mov (.t 4)),
 oq 21 (.eC (.t 20)),
 oq 22 (.xA 13 1 183 4 (.t 21)),
 oq 23 (.n3 (.t 22)),
 oq 24 (.mov (.t 23)),
 ⟨some 25, .mov (.t 4),some (24,false),[]⟩,
 ⟨some 26, .eC (.t 25),some (24,false),[]⟩,
 ⟨some 27, .xA 1 1 183 3 (.t 26),some (24,false),[]⟩,
 ⟨some 28, .n3 (.t 27),some (24,false),[]⟩,
 ⟨some 29, .mov (.t 0),some (24,false),[]⟩,
 ⟨some 30, .aB3 (.t 29),some (24,false),[]⟩,
 ⟨some 31, .dA .lss (.t 28) (.t 30),some (24,false),[]⟩,
 oq 32 (.pick (.t 24) (.c lB [.bool true]) (.t 31))] false 0))
 (.cond (.t 32) (.seq (.region [] [oq 33 (.bld lA4 [.fA, .fA, .bool false, .int 0, .int 0, .int 0, .int 0, .int 0, .int 0, .int 0, .int 0] []),
 ⟨none, .st lA4 (.t 2) (.t 33),none,[]⟩,
 oq 3 (.mov (.c lI [.int 14]))] false 0)
 .ret)
 .skip))
 (.seq (.region [] [oq 34 (.mov (.t 4)),
 oq 35 (.ld uS 151 (.t 5)),
 oq 36 (.eC (.t 34)),
 oq 37 (.xA 2 11 183 153 (.t 36)),
 oq 38 (.xA 2 9 153 151 (.t 37)),
 ⟨none, .stA 9 (.t 38) (.t 35),none,[]⟩] false 0)
 (.seq (.region [] [oq 39 (.mov (.t 4)),
 ⟨some 40, .eC (.t 39),none,[0]⟩,
 ⟨some 41, .xA 2 11 183 153 (.t 40),none,[0,1]⟩,
 ⟨some 42, .xA 1 1 153 147 (.t 41),none,[0,1,2]⟩,
 ⟨some 43, .n3 (.t 42),none,[0,1,2,3]⟩,
 oq 44 (.xA 1 4 151 149 (.t 5)),
 ⟨some 45, .ld bE 149 (.t 44),none,[5]⟩,
 ⟨some 46, .iad 149 bE (.t 43) (.c lI [.int 0]),none,[0,1,2,3,4,5,6]⟩,
 ⟨none, .st bE (.t 46) (.t 45),none,[0,1,2,3,4,5,6,7]⟩] true 0)
 (.seq (.ghost (.frz 4 3 149 bE) (.region [] [oq 47 (.mov (.t 4)),
 oq 48 (.eC (.t 47)),
 oq 49 (.xA 2 11 183 153 (.t 48)),
 oq 50 (.ldA 11 (.t 49)),
 ⟨none, .st lA4 (.t 2) (.t 50),none,[]⟩,
 oq 3 (.mov (.c lI [.int 0]))] false 0))
 .ret))))))))}
noncomputable def aGj (E:Env) (p0:List UInt8):Option (List Row):=
 if (decide ((p0.length:Int)>200))=true then
 some [[.fA, .fA, .bool false, .int 0, .int 0, .int 0, .int 0, .int 0, .int 0, .int 0, .int 0],[.int 2]]
 else
 (E.ic uE [.r [.str p0], .r [.int 0], .r [.bool false], .r [.int 0], .r [.int 0], .r [.int 0], .r [.int 0], .r [.int 0], .r [.int 0], .r [.int 0], .r [.int 0], .r [.bool false], .r [.sl ([[.int 0, .int 0, .int 0, .int 0]]:List Row)], .r [.sl ([[.int 0, .int 0, .int 0, .int 0]]:List Row)]]).bind fun y1=>
 (let K2:Bool→Option (Nat×List PV):=fun q3=>
 some (0,[.r [.bool q3], .r [.fA, .fA, .bool false, .int 0, .int 0, .int 0, .int 0, .int 0, .int 0, .int 0, .int 0], .r [.str (gS 1 y1)], .r [.int (gI 2 y1)], .r [.bool (gB 3 y1)], .r [.int (gI 4 y1)], .r [.int (gI 5 y1)], .r [.int (gI 6 y1)], .r [.int (gI 7 y1)], .r [.int (gI 8 y1)], .r [.int (gI 9 y1)], .r [.int (gI 10 y1)], .r [.int (gI 11 y1)], .r [.bool (gB 12 y1)], .r (gR 0 y1), .r [gC 13 y1], .r [gC 14 y1]])
 if (gB 12 y1)=true then
 K2 true
 else
 K2 (decide ((gI 2 y1)<(p0.length:Int)))).bind fun x4=>
 if (gB 0 x4.2)=true then
 some [[.fA, .fA, .bool false, .int 0, .int 0, .int 0, .int 0, .int 0, .int 0, .int 0, .int 0],[.int 14]]
 else
 if (0:Int)≤0∧0<(((gC 16 x4.2).rows).length:Int)then
 if 0<((gC 16 x4.2).rows).length then
 some [[gC 15 x4.2, .sl (((gC 16 x4.2).rows).set 0 [at_ (gR 14 x4.2) 1,at_ (gR 14 x4.2) 2,at_ (gR 14 x4.2) 3,at_ (gR 14 x4.2) 4]), .bool (gB 14 x4.2), .int ((at_ (gR 14 x4.2) 1).vA), .int ((at_ (gR 14 x4.2) 2).vA), .int ((at_ (gR 14 x4.2) 3).vA), .int ((at_ (gR 14 x4.2) 4).vA), .int ((at_ (gR 14 x4.2) 5).vA), .int ((at_ (gR 14 x4.2) 6).vA), .int ((at_ (gR 14 x4.2) 7).vA), .int ((at_ (gR 14 x4.2) 8).vA)],[.int 0]]
 else none
 else none
theorem aNo (E:Env) (p0:List UInt8):xE E n7 [[.str p0]]=aGj E p0:=by kernel_rfl
def aR:aD:={ps:=[(.one (.ref 181)),lU],rs:=[lB],res:=[(false,4,none)],body:=(.seq (.region [] [oq 4 (.mov (.c lB [.bool false]))] false 0)
 (.seq (.region [] [oq 5 (.mov (.t 0)),
 oq 6 (.mov (.t 1)),
 oq 7 (.idiv .quo (.t 6) (.c lU [.int 64])),
 oq 8 (.eC (.t 5)),
 oq 9 (.qF 4 181 86 lW (.t 8) (.t 7)),
 oq 10 (.ld lW 86 (.t 9)),
 oq 11 (.mov (.t 1)),
 oq 12 (.idiv .rem (.t 11) (.c lU [.int 64])),
 oq 13 (.shf .shr (.t 10) (.t 12)),
 oq 14 (.tB .and (.t 13) (.c lW [.int 1])),
 oq 15 (.dA .eql (.t 14) (.c lW [.int 1])),
 oq 4 (.mov (.t 15))] false 0)
 .ret))}
noncomputable def aBq (E:Env) (p0:C) (p1:Int):Option (List Row):=
 if p0.jB=true then
 if (0:Int)≤(Go.IntKind.u8.wrap (p1.tdiv 64))∧(Go.IntKind.u8.wrap (p1.tdiv 64))<(4:Int)∧p0.jB=true then
 if p1.tmod 64<0 then none else some [[.bool ((bitsOf .and .u64 (((at_ p0.cA (((Go.IntKind.u8.wrap (p1.tdiv 64)).toNat)*1)).vA).fdiv (2^(min ((p1.tmod 64).toNat) (Go.IntKind.bits .u64)))) 1)==1)]]
 else none
 else none
theorem aJx (E:Env) (p0:C) (p1:Int):xE E aR [[p0],[.int p1]]=aBq E p0 p1:=by kernel_rfl
def iO:rZ:={fn:=105,entry:=aBr,res:=[],exit:=aBs,body:=(.region [] [oq 4 (.mov (.t 0)),
 oq 5 (.mov (.t 1)),
 ⟨some 6, .idiv .quo (.t 5) (.c lI [.int 64]),none,[1]⟩,
 ⟨some 7, .eC (.t 4),none,[0]⟩,
 ⟨some 8, .qF 4 149 86 lW (.t 7) (.t 6),none,[0,1,2,3]⟩,
 ⟨some 9, .ld lW 86 (.t 8),none,[0,1,2,3,4]⟩,
 oq 10 (.mov (.t 1)),
 ⟨some 11, .idiv .rem (.t 10) (.c lI [.int 64]),none,[6]⟩,
 ⟨some 12, .shf .shl (.c lW [.int 1]) (.t 11),none,[6,7]⟩,
 ⟨some 13, .tB .or (.t 9) (.t 12),none,[0,1,2,3,4,5,6,7,8]⟩,
 ⟨some 14, .eC (.t 4),none,[0]⟩,
 ⟨some 15, .qF 4 149 86 lW (.t 14) (.t 6),none,[0,1,2,3,4,5,6,7,8,9,10]⟩,
 ⟨none, .st lW (.t 15) (.t 13),none,[0,1,2,3,4,5,6,7,8,9,10,11]⟩] true 0)}
noncomputable def jZ (E:Env) (p0:Int) (p1:Int) (p2:Row):Option (List PV):=
 if (0:Int)≤(Go.IntKind.i64.wrap (p1.tdiv 64))∧(Go.IntKind.i64.wrap (p1.tdiv 64))<(4:Int)then
 part lW (.agg (List.replicate 1024 (.int .u64))) (p0.toNat+(((Go.IntKind.i64.wrap (p1.tdiv 64)).toNat)*1)) p2 fun y1=>
 if p1.tmod 64<0 then none else if (0:Int)≤(Go.IntKind.i64.wrap (p1.tdiv 64))∧(Go.IntKind.i64.wrap (p1.tdiv 64))<(4:Int)then
 aA1 lW (.agg (List.replicate 1024 (.int .u64))) (p0.toNat+(((Go.IntKind.i64.wrap (p1.tdiv 64)).toNat)*1)) p2 [.int (bitsOf .or .u64 ((at_ y1 0).vA) (Go.IntKind.u64.wrap (1*2^(min ((p1.tmod 64).toNat) (Go.IntKind.bits .u64)))))] fun r2=>
 some [.r r2]
 else none
 else none
theorem aIi (E:Env) (p0:Int) (p1:Int) (p2:Row):j9 E iO [.r [.int p0], .r [.int p1], .r p2]=jZ E p0 p1 p2:=by kernel_rfl
end Go.Ev
