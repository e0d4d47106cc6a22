/-
  A part of the proof: what the functions of the program compute.
-/
import Derived.Test.YtfonaepdedbhhaaGreatDoorZNum
set_option linter.all false
set_option maxRecDepth 100000
namespace Go.Ev
def bM:Shape:={slots:=[(0, .ptr 0 0),(2, .ptr 3 0),(3, .ptr 4 0),(4, .d lB),(6, .d lU),(7, .d lI)],objs:=bS3,m:=3}
def cM:List (mB×Shape):=[(.exit 2,{slots:=[(0, .ptr 0 0),(2, .ptr 3 0),(3, .ptr 4 0),(4, .d lB)],objs:=bS3,m:=3})]
def dM:zB:=(.seq (.seq (.region [] [oq 71 (.mov (.t 7)),
 oq 72 (.mov (.t 6)),
 oq 73 (.i2i .i64 (.t 72)),
 oq 74 (.dA .leq (.t 71) (.t 73)),
 oq 75 (.mov (.t 74)),
 ⟨some 76, .mov (.t 0),some (75,true),[]⟩,
 ⟨some 77, .eC (.t 76),some (75,true),[]⟩,
 ⟨some 78, .xA 13 1 183 4 (.t 77),some (75,true),[]⟩,
 ⟨some 79, .n3 (.t 78),some (75,true),[]⟩,
 ⟨some 80, .not (.t 79),some (75,true),[]⟩,
 oq 81 (.pick (.t 75) (.t 80) (.c lB [.bool false]))] false 0)
 (.cond (.t 81) .skip
 (.exit 2)))
 (.seq (.block 3 (.region [] [oq 84 (.mov (.t 7)),
 oq 85 (.i2i .u8 (.t 84)),
 oq 86 (.nB 181 136 (jJ) (kJ) [4] 0 none [(.t 3),(.t 85)])] false 0))
 (.region [] [oq 82 (.mov (.t 7)),
 oq 83 (.tB .add (.t 82) (.c lI [.int 1])),
 oq 7 (.mov (.t 83))] false 0)))
noncomputable def tE (E:Env) (v0:Bool) (v1:Int) (v2:Int) (v3:List UInt8) (v4:Int) (v5:Bool) (v6:Int) (v7:Int) (v8:Int) (v9:Int) (v10:Int) (v11:Int) (v12:Int) (eM:Int) (uQ:Bool) (fO:C) (v16:C) (v17:Row) (v18:Row):Option (Nat×List PV):=E.fix (stepOf E dM bM cM) [.r [.bool v0], .r [.int v1], .r [.int v2], .r [.str v3], .r [.int v4], .r [.bool v5], .r [.int v6], .r [.int v7], .r [.int v8], .r [.int v9], .r [.int v10], .r [.int v11], .r [.int v12], .r [.int eM], .r [.bool uQ], .r [fO], .r [v16], .r v17, .r v18]
noncomputable def yG (E:Env) (X:Bool→Int→Int→List UInt8→Int→Bool→Int→Int→Int→Int→Int→Int→Int→Int→Bool→C→C→Row→Row→Option (Nat×List PV)) (v0:Bool) (v1:Int) (v2:Int) (v3:List UInt8) (v4:Int) (v5:Bool) (v6:Int) (v7:Int) (v8:Int) (v9:Int) (v10:Int) (v11:Int) (v12:Int) (eM:Int) (uQ:Bool) (fO:C) (v16:C) (v17:Row) (v18:Row):Option (Nat×List PV):=
 let K24:Bool→Option (Nat×List PV):=fun q25=>
 if q25=true then
 (E.ic yE [.r [.int (Go.IntKind.u8.wrap v2)], .r v18]).bind fun y26=>
 X v0 v1 (Go.IntKind.i64.wrap (v2+1)) v3 v4 v5 v6 v7 v8 v9 v10 v11 v12 eM uQ fO v16 v17 (gR 0 y26)
 else
 some (0,[.r [.bool v0], .r [.str v3], .r [.int v4], .r [.bool v5], .r [.int v6], .r [.int v7], .r [.int v8], .r [.int v9], .r [.int v10], .r [.int v11], .r [.int v12], .r [.int eM], .r [.bool uQ], .r [fO], .r [v16], .r v17, .r v18])
 if (decide (v2≤(Go.IntKind.i64.wrap v1)))=true then
 K24 (!uQ)
 else
 K24 false
theorem aEn (E:Env) (X:List PV→Option (Nat×List PV)) (v0:Bool) (v1:Int) (v2:Int) (v3:List UInt8) (v4:Int) (v5:Bool) (v6:Int) (v7:Int) (v8:Int) (v9:Int) (v10:Int) (v11:Int) (v12:Int) (eM:Int) (uQ:Bool) (fO:C) (v16:C) (v17:Row) (v18:Row):stepOf E dM bM cM X [.r [.bool v0], .r [.int v1], .r [.int v2], .r [.str v3], .r [.int v4], .r [.bool v5], .r [.int v6], .r [.int v7], .r [.int v8], .r [.int v9], .r [.int v10], .r [.int v11], .r [.int v12], .r [.int eM], .r [.bool uQ], .r [fO], .r [v16], .r v17, .r v18]=yG E (fun (v0:Bool) (v1:Int) (v2:Int) (v3:List UInt8) (v4:Int) (v5:Bool) (v6:Int) (v7:Int) (v8:Int) (v9:Int) (v10:Int) (v11:Int) (v12:Int) (eM:Int) (uQ:Bool) (fO:C) (v16:C) (v17:Row) (v18:Row)=>X [.r [.bool v0], .r [.int v1], .r [.int v2], .r [.str v3], .r [.int v4], .r [.bool v5], .r [.int v6], .r [.int v7], .r [.int v8], .r [.int v9], .r [.int v10], .r [.int v11], .r [.int v12], .r [.int eM], .r [.bool uQ], .r [fO], .r [v16], .r v17, .r v18]) v0 v1 v2 v3 v4 v5 v6 v7 v8 v9 v10 v11 v12 eM uQ fO v16 v17 v18:=by kernel_rfl
def fM:Shape:={slots:=[(0, .ptr 0 0),(2, .ptr 3 0),(3, .ptr 4 0),(4, .d lB)],objs:=bS3,m:=3}
def iM:List (mB×Shape):=[(.exit 0,{slots:=[(0, .ptr 0 0),(2, .ptr 3 0),(3, .ptr 4 0),(4, .d lB)],objs:=bS3,m:=3})]
def jM:zB:=(.seq (.seq (.join [(.normal,{slots:=[(0, .ptr 0 0),(2, .ptr 3 0),(3, .ptr 4 0),(4, .d lB),(37, .d lB)],objs:=bS3,m:=3})] (.region [] [oq 31 (.mov (.t 0)),
 oq 32 (.nB 174 129 (uD) (vD) [0,1,2] 0 none [(.t 31)]),
 oq 33 (.mov (.t 32)),
 ⟨some 34, .mov (.t 0),some (33,true),[]⟩,
 ⟨some 35, .nB 175 130 (uB) (wB) [0,1,2] 0 none [(.t 34)],some (33,true),[]⟩,
 ⟨some 36, .dA .neq (.t 35) (.c lU [.int 93]),some (33,true),[]⟩,
 oq 37 (.pick (.t 33) (.t 36) (.c lB [.bool false]))] false 0))
 (.cond (.t 37) .skip
 (.exit 0)))
 (.block 1 (.seq (.region [] [oq 38 (.mov (.t 0)),
 oq 39 (.nB 180 138 (qL) (rL) [0,1,2] 0 none [(.t 38)]),
 oq 5 (.mov (.t 39))] false 0)
 (.seq (.region [] [oq 40 (.mov (.t 5)),
 oq 6 (.mov (.t 40))] false 0)
 (.seq (.seq (.join [(.normal,{slots:=[(0, .ptr 0 0),(2, .ptr 3 0),(3, .ptr 4 0),(4, .d lB),(5, .d lU),(6, .d lU),(47, .d lB)],objs:=bS3,m:=3})] (.region [] [oq 41 (.mov (.t 0)),
 oq 42 (.nB 174 129 (uD) (vD) [0,1,2] 0 none [(.t 41)]),
 oq 43 (.mov (.t 42)),
 ⟨some 44, .mov (.t 0),some (43,true),[]⟩,
 ⟨some 45, .nB 175 130 (uB) (wB) [0,1,2] 0 none [(.t 44)],some (43,true),[]⟩,
 ⟨some 46, .dA .eql (.t 45) (.c lU [.int 45]),some (43,true),[]⟩,
 oq 47 (.pick (.t 43) (.t 46) (.c lB [.bool false]))] false 0))
 (.join [(.normal,{slots:=[(0, .ptr 0 0),(2, .ptr 3 0),(3, .ptr 4 0),(4, .d lB),(5, .d lU),(6, .d lU)],objs:=bS3,m:=3})] (.cond (.t 47) (.seq (.region [] [oq 48 (.mov (.t 0)),
 oq 49 (.eC (.t 48)),
 oq 50 (.xA 1 1 183 3 (.t 49)),
 oq 51 (.n3 (.t 50)),
 oq 52 (.tB .add (.t 51) (.c lI [.int 1])),
 oq 53 (.eC (.t 48)),
 oq 54 (.xA 1 1 183 3 (.t 53)),
 ⟨none, .stC (.t 54) (.t 52),none,[]⟩] false 0)
 (.region [] [oq 55 (.mov (.t 0)),
 oq 56 (.nB 180 138 (qL) (rL) [0,1,2] 0 none [(.t 55)]),
 oq 6 (.mov (.t 56))] false 0))
 .skip)))
 (.seq (.join [(.normal,{slots:=[(0, .ptr 0 0),(2, .ptr 3 0),(3, .ptr 4 0),(4, .d lB),(5, .d lU),(6, .d lU)],objs:=bS3,m:=3})] (.region [] [oq 57 (.mov (.t 0)),
 oq 58 (.mov (.t 0)),
 oq 59 (.eC (.t 58)),
 oq 60 (.xA 13 1 183 4 (.t 59)),
 oq 61 (.n3 (.t 60)),
 oq 62 (.mov (.t 61)),
 ⟨some 63, .mov (.t 6),some (62,false),[]⟩,
 ⟨some 64, .mov (.t 5),some (62,false),[]⟩,
 ⟨some 65, .dA .lss (.t 63) (.t 64),some (62,false),[]⟩,
 oq 66 (.pick (.t 62) (.c lB [.bool true]) (.t 65)),
 oq 67 (.eC (.t 57)),
 oq 68 (.xA 13 1 183 4 (.t 67)),
 ⟨none, .stC (.t 68) (.t 66),none,[]⟩] false 0))
 (.seq (.region [] [oq 69 (.mov (.t 5)),
 oq 70 (.i2i .i64 (.t 69)),
 oq 7 (.mov (.t 70))] false 0)
 (.block 2 (.loop bM cM dM)))))))))
noncomputable def zG (E:Env) (v0:Bool) (v1:List UInt8) (v2:Int) (v3:Bool) (v4:Int) (v5:Int) (v6:Int) (v7:Int) (v8:Int) (v9:Int) (v10:Int) (v11:Int) (v12:Bool) (eM:C) (uQ:C) (fO:Row) (v16:Row):Option (Nat×List PV):=E.fix (stepOf E jM fM iM) [.r [.bool v0], .r [.str v1], .r [.int v2], .r [.bool v3], .r [.int v4], .r [.int v5], .r [.int v6], .r [.int v7], .r [.int v8], .r [.int v9], .r [.int v10], .r [.int v11], .r [.bool v12], .r [eM], .r [uQ], .r fO, .r v16]
noncomputable def kM (E:Env) (X:Bool→List UInt8→Int→Bool→Int→Int→Int→Int→Int→Int→Int→Int→Bool→C→C→Row→Row→Option (Nat×List PV)) (v0:Bool) (v1:List UInt8) (v2:Int) (v3:Bool) (v4:Int) (v5:Int) (v6:Int) (v7:Int) (v8:Int) (v9:Int) (v10:Int) (v11:Int) (v12:Bool) (eM:C) (uQ:C) (fO:Row) (v16:Row):Option (Nat×List PV):=
 ((E.ic iD [.r [.str v1], .r [.int v2], .r [.bool v3], .r [.int v4], .r [.int v5], .r [.int v6], .r [.int v7], .r [.int v8], .r [.int v9], .r [.int v10], .r [.int v11], .r [.bool v12], .r [eM], .r [uQ]]).bind fun y6=>
 if (gB 0 y6)=true then
 (E.ic sB [.r [.str (gS 1 y6)], .r [.int (gI 2 y6)], .r [.bool (gB 3 y6)], .r [.int (gI 4 y6)], .r [.int (gI 5 y6)], .r [.int (gI 6 y6)], .r [.int (gI 7 y6)], .r [.int (gI 8 y6)], .r [.int (gI 9 y6)], .r [.int (gI 10 y6)], .r [.int (gI 11 y6)], .r [.bool (gB 12 y6)], .r [gC 13 y6], .r [gC 14 y6]]).bind fun y10=>
 some (0,[.r [.bool v0], .r [.bool ((gI 0 y10) !=93)], .r [.str (gS 1 y10)], .r [.int (gI 2 y10)], .r [.bool (gB 3 y10)], .r [.int (gI 4 y10)], .r [.int (gI 5 y10)], .r [.int (gI 6 y10)], .r [.int (gI 7 y10)], .r [.int (gI 8 y10)], .r [.int (gI 9 y10)], .r [.int (gI 10 y10)], .r [.int (gI 11 y10)], .r [.bool (gB 12 y10)], .r [gC 13 y10], .r [gC 14 y10], .r fO, .r v16])
 else
 some (0,[.r [.bool v0], .r [.bool false], .r [.str (gS 1 y6)], .r [.int (gI 2 y6)], .r [.bool (gB 3 y6)], .r [.int (gI 4 y6)], .r [.int (gI 5 y6)], .r [.int (gI 6 y6)], .r [.int (gI 7 y6)], .r [.int (gI 8 y6)], .r [.int (gI 9 y6)], .r [.int (gI 10 y6)], .r [.int (gI 11 y6)], .r [.bool (gB 12 y6)], .r [gC 13 y6], .r [gC 14 y6], .r fO, .r v16])).bind fun eJ=>
 if (gB 1 eJ.2)=true then
 (E.ic aH [.r [.str (gS 2 eJ.2)], .r [.int (gI 3 eJ.2)], .r [.bool (gB 4 eJ.2)], .r [.int (gI 5 eJ.2)], .r [.int (gI 6 eJ.2)], .r [.int (gI 7 eJ.2)], .r [.int (gI 8 eJ.2)], .r [.int (gI 9 eJ.2)], .r [.int (gI 10 eJ.2)], .r [.int (gI 11 eJ.2)], .r [.int (gI 12 eJ.2)], .r [.bool (gB 13 eJ.2)], .r [gC 14 eJ.2], .r [gC 15 eJ.2]]).bind fun y12=>
 ((E.ic iD [.r [.str (gS 1 y12)], .r [.int (gI 2 y12)], .r [.bool (gB 3 y12)], .r [.int (gI 4 y12)], .r [.int (gI 5 y12)], .r [.int (gI 6 y12)], .r [.int (gI 7 y12)], .r [.int (gI 8 y12)], .r [.int (gI 9 y12)], .r [.int (gI 10 y12)], .r [.int (gI 11 y12)], .r [.bool (gB 12 y12)], .r [gC 13 y12], .r [gC 14 y12]]).bind fun pW=>
 if (gB 0 pW)=true then
 (E.ic sB [.r [.str (gS 1 pW)], .r [.int (gI 2 pW)], .r [.bool (gB 3 pW)], .r [.int (gI 4 pW)], .r [.int (gI 5 pW)], .r [.int (gI 6 pW)], .r [.int (gI 7 pW)], .r [.int (gI 8 pW)], .r [.int (gI 9 pW)], .r [.int (gI 10 pW)], .r [.int (gI 11 pW)], .r [.bool (gB 12 pW)], .r [gC 13 pW], .r [gC 14 pW]]).bind fun y17=>
 some (0,[.r [.bool (gB 0 eJ.2)], .r [.int (gI 0 y12)], .r [.int (gI 0 y12)], .r [.bool ((gI 0 y17)==45)], .r [.str (gS 1 y17)], .r [.int (gI 2 y17)], .r [.bool (gB 3 y17)], .r [.int (gI 4 y17)], .r [.int (gI 5 y17)], .r [.int (gI 6 y17)], .r [.int (gI 7 y17)], .r [.int (gI 8 y17)], .r [.int (gI 9 y17)], .r [.int (gI 10 y17)], .r [.int (gI 11 y17)], .r [.bool (gB 12 y17)], .r [gC 13 y17], .r [gC 14 y17], .r (gR 16 eJ.2), .r (gR 17 eJ.2)])
 else
 some (0,[.r [.bool (gB 0 eJ.2)], .r [.int (gI 0 y12)], .r [.int (gI 0 y12)], .r [.bool false], .r [.str (gS 1 pW)], .r [.int (gI 2 pW)], .r [.bool (gB 3 pW)], .r [.int (gI 4 pW)], .r [.int (gI 5 pW)], .r [.int (gI 6 pW)], .r [.int (gI 7 pW)], .r [.int (gI 8 pW)], .r [.int (gI 9 pW)], .r [.int (gI 10 pW)], .r [.int (gI 11 pW)], .r [.bool (gB 12 pW)], .r [gC 13 pW], .r [gC 14 pW], .r (gR 16 eJ.2), .r (gR 17 eJ.2)])).bind fun qK=>
 (if (gB 3 qK.2)=true then
 (E.ic aH [.r [.str (gS 4 qK.2)], .r [.int (Go.IntKind.i64.wrap ((gI 5 qK.2)+1))], .r [.bool (gB 6 qK.2)], .r [.int (gI 7 qK.2)], .r [.int (gI 8 qK.2)], .r [.int (gI 9 qK.2)], .r [.int (gI 10 qK.2)], .r [.int (gI 11 qK.2)], .r [.int (gI 12 qK.2)], .r [.int (gI 13 qK.2)], .r [.int (gI 14 qK.2)], .r [.bool (gB 15 qK.2)], .r [gC 16 qK.2], .r [gC 17 qK.2]]).bind fun y19=>
 some (0,[.r [.bool (gB 0 qK.2)], .r [.int (gI 1 qK.2)], .r [.int (gI 0 y19)], .r [.str (gS 1 y19)], .r [.int (gI 2 y19)], .r [.bool (gB 3 y19)], .r [.int (gI 4 y19)], .r [.int (gI 5 y19)], .r [.int (gI 6 y19)], .r [.int (gI 7 y19)], .r [.int (gI 8 y19)], .r [.int (gI 9 y19)], .r [.int (gI 10 y19)], .r [.int (gI 11 y19)], .r [.bool (gB 12 y19)], .r [gC 13 y19], .r [gC 14 y19], .r (gR 18 qK.2), .r (gR 19 qK.2)])
 else
 some (0,[.r [.bool (gB 0 qK.2)], .r [.int (gI 1 qK.2)], .r [.int (gI 2 qK.2)], .r [.str (gS 4 qK.2)], .r [.int (gI 5 qK.2)], .r [.bool (gB 6 qK.2)], .r [.int (gI 7 qK.2)], .r [.int (gI 8 qK.2)], .r [.int (gI 9 qK.2)], .r [.int (gI 10 qK.2)], .r [.int (gI 11 qK.2)], .r [.int (gI 12 qK.2)], .r [.int (gI 13 qK.2)], .r [.int (gI 14 qK.2)], .r [.bool (gB 15 qK.2)], .r [gC 16 qK.2], .r [gC 17 qK.2], .r (gR 18 qK.2), .r (gR 19 qK.2)])).bind fun x20=>
 (let K21:Bool→Option (Nat×List PV):=fun q22=>
 some (0,[.r [.bool (gB 0 x20.2)], .r [.int (gI 1 x20.2)], .r [.int (gI 2 x20.2)], .r [.str (gS 3 x20.2)], .r [.int (gI 4 x20.2)], .r [.bool (gB 5 x20.2)], .r [.int (gI 6 x20.2)], .r [.int (gI 7 x20.2)], .r [.int (gI 8 x20.2)], .r [.int (gI 9 x20.2)], .r [.int (gI 10 x20.2)], .r [.int (gI 11 x20.2)], .r [.int (gI 12 x20.2)], .r [.int (gI 13 x20.2)], .r [.bool q22], .r [gC 15 x20.2], .r [gC 16 x20.2], .r (gR 17 x20.2), .r (gR 18 x20.2)])
 if (gB 14 x20.2)=true then
 K21 true
 else
 K21 (decide ((gI 2 x20.2)<(gI 1 x20.2)))).bind fun x23=>
 (tE E (gB 0 x23.2) (gI 2 x23.2) (Go.IntKind.i64.wrap (gI 1 x23.2)) (gS 3 x23.2) (gI 4 x23.2) (gB 5 x23.2) (gI 6 x23.2) (gI 7 x23.2) (gI 8 x23.2) (gI 9 x23.2) (gI 10 x23.2) (gI 11 x23.2) (gI 12 x23.2) (gI 13 x23.2) (gB 14 x23.2) (gC 15 x23.2) (gC 16 x23.2) (gR 17 x23.2) (gR 18 x23.2)).bind fun x27=>
 X (gB 0 x27.2) (gS 1 x27.2) (gI 2 x27.2) (gB 3 x27.2) (gI 4 x27.2) (gI 5 x27.2) (gI 6 x27.2) (gI 7 x27.2) (gI 8 x27.2) (gI 9 x27.2) (gI 10 x27.2) (gI 11 x27.2) (gB 12 x27.2) (gC 13 x27.2) (gC 14 x27.2) (gR 15 x27.2) (gR 16 x27.2)
 else
 some (0,[.r [.bool (gB 0 eJ.2)], .r [.str (gS 2 eJ.2)], .r [.int (gI 3 eJ.2)], .r [.bool (gB 4 eJ.2)], .r [.int (gI 5 eJ.2)], .r [.int (gI 6 eJ.2)], .r [.int (gI 7 eJ.2)], .r [.int (gI 8 eJ.2)], .r [.int (gI 9 eJ.2)], .r [.int (gI 10 eJ.2)], .r [.int (gI 11 eJ.2)], .r [.int (gI 12 eJ.2)], .r [.bool (gB 13 eJ.2)], .r [gC 14 eJ.2], .r [gC 15 eJ.2], .r (gR 16 eJ.2), .r (gR 17 eJ.2)])
theorem aEo (E:Env) (X:List PV→Option (Nat×List PV)) (v0:Bool) (v1:List UInt8) (v2:Int) (v3:Bool) (v4:Int) (v5:Int) (v6:Int) (v7:Int) (v8:Int) (v9:Int) (v10:Int) (v11:Int) (v12:Bool) (eM:C) (uQ:C) (fO:Row) (v16:Row):stepOf E jM fM iM X [.r [.bool v0], .r [.str v1], .r [.int v2], .r [.bool v3], .r [.int v4], .r [.int v5], .r [.int v6], .r [.int v7], .r [.int v8], .r [.int v9], .r [.int v10], .r [.int v11], .r [.bool v12], .r [eM], .r [uQ], .r fO, .r v16]=kM E (fun (v0:Bool) (v1:List UInt8) (v2:Int) (v3:Bool) (v4:Int) (v5:Int) (v6:Int) (v7:Int) (v8:Int) (v9:Int) (v10:Int) (v11:Int) (v12:Bool) (eM:C) (uQ:C) (fO:Row) (v16:Row)=>X [.r [.bool v0], .r [.str v1], .r [.int v2], .r [.bool v3], .r [.int v4], .r [.int v5], .r [.int v6], .r [.int v7], .r [.int v8], .r [.int v9], .r [.int v10], .r [.int v11], .r [.bool v12], .r [eM], .r [uQ], .r fO, .r v16]) v0 v1 v2 v3 v4 v5 v6 v7 v8 v9 v10 v11 v12 eM uQ fO v16:=by kernel_rfl
def tH:rZ:={fn:=135,entry:=pV,res:=[.var 2 bE],exit:=qV,body:=(.seq (.region [] [oq 2 (.oB 0 bE [.int 0, .int 0, .int 0, .int 0])] false 1)
 (.seq (.region [] [oq 3 (.oB 0 bE [.int 0, .int 0, .int 0, .int 0])] false 1)
 (.seq (.join [(.normal,{slots:=[(0, .ptr 0 0),(2, .ptr 3 0),(3, .ptr 4 0),(4, .d lB)],objs:=bS3,m:=3})] (.region [] [oq 8 (.mov (.t 0)),
 ⟨some 9, .nB 175 130 (uB) (wB) [0,1,2] 0 none [(.t 8)],none,[0]⟩,
 ⟨some 10, .dA .eql (.t 9) (.c lU [.int 94]),none,[0,1]⟩,
 ⟨some 11, .mov (.t 10),none,[0,1,2]⟩,
 ⟨some 12, .mov (.t 0),some (11,true),[0,1,2,3]⟩,
 ⟨some 13, .eC (.t 12),some (11,true),[0,1,2,3,4]⟩,
 ⟨some 14, .xA 1 1 183 3 (.t 13),some (11,true),[0,1,2,3,4,5]⟩,
 ⟨some 15, .n3 (.t 14),some (11,true),[0,1,2,3,4,5,6]⟩,
 ⟨some 16, .mov (.t 0),some (11,true),[0,1,2,3]⟩,
 ⟨some 17, .eC (.t 16),some (11,true),[0,1,2,3,8]⟩,
 ⟨some 18, .xA 0 1 183 9 (.t 17),some (11,true),[0,1,2,3,8,9]⟩,
 ⟨some 19, .n3 (.t 18),some (11,true),[0,1,2,3,8,9,10]⟩,
 ⟨some 20, .aB3 (.t 19),some (11,true),[0,1,2,3,8,9,10,11]⟩,
 ⟨some 21, .dA .lss (.t 15) (.t 20),some (11,true),[0,1,2,3,4,5,6,7,8,9,10,11,12]⟩,
 ⟨some 22, .pick (.t 11) (.t 21) (.c lB [.bool false]),none,[0,1,2,3,4,5,6,7,8,9,10,11,12,13]⟩,
 ⟨some 4, .mov (.t 22),none,[0,1,2,3,4,5,6,7,8,9,10,11,12,13,14]⟩] true 0))
 (.seq (.seq (.region [] [oq 23 (.mov (.t 4))] false 0)
 (.join [(.normal,{slots:=[(0, .ptr 0 0),(2, .ptr 3 0),(3, .ptr 4 0),(4, .d lB)],objs:=bS3,m:=3})] (.cond (.t 23) (.region [] [oq 24 (.mov (.t 0)),
 oq 25 (.eC (.t 24)),
 oq 26 (.xA 1 1 183 3 (.t 25)),
 oq 27 (.n3 (.t 26)),
 oq 28 (.tB .add (.t 27) (.c lI [.int 1])),
 oq 29 (.eC (.t 24)),
 oq 30 (.xA 1 1 183 3 (.t 29)),
 ⟨none, .stC (.t 30) (.t 28),none,[]⟩] false 0)
 .skip)))
 (.seq (.block 0 (.loop fM iM jM))
 (.seq (.seq (.join [(.normal,{slots:=[(0, .ptr 0 0),(2, .ptr 3 0),(3, .ptr 4 0),(4, .d lB)],objs:=bS3,m:=3})] (.region [] [oq 87 (.mov (.t 0)),
 oq 88 (.mov (.t 0)),
 ⟨some 89, .eC (.t 88),none,[1]⟩,
 ⟨some 90, .xA 13 1 183 4 (.t 89),none,[1,2]⟩,
 ⟨some 91, .n3 (.t 90),none,[1,2,3]⟩,
 ⟨some 92, .mov (.t 91),none,[1,2,3,4]⟩,
 ⟨some 93, .mov (.t 0),some (92,false),[1,2,3,4,5]⟩,
 ⟨some 94, .eC (.t 93),some (92,false),[1,2,3,4,5,6]⟩,
 ⟨some 95, .xA 1 1 183 3 (.t 94),some (92,false),[1,2,3,4,5,6,7]⟩,
 ⟨some 96, .n3 (.t 95),some (92,false),[1,2,3,4,5,6,7,8]⟩,
 ⟨some 97, .mov (.t 0),some (92,false),[1,2,3,4,5]⟩,
 ⟨some 98, .eC (.t 97),some (92,false),[1,2,3,4,5,10]⟩,
 ⟨some 99, .xA 0 1 183 9 (.t 98),some (92,false),[1,2,3,4,5,10,11]⟩,
 ⟨some 100, .n3 (.t 99),some (92,false),[1,2,3,4,5,10,11,12]⟩,
 ⟨some 101, .aB3 (.t 100),some (92,false),[1,2,3,4,5,10,11,12,13]⟩,
 ⟨some 102, .dA .geq (.t 96) (.t 101),some (92,false),[1,2,3,4,5,6,7,8,9,10,11,12,13,14]⟩,
 ⟨some 103, .pick (.t 92) (.c lB [.bool true]) (.t 102),none,[1,2,3,4,5,6,7,8,9,10,11,12,13,14,15]⟩,
 ⟨some 104, .eC (.t 87),none,[0,1,2,3,4,5,6,7,8,9,10,11,12,13,14,15,16]⟩,
 ⟨some 105, .xA 13 1 183 4 (.t 104),none,[0,1,2,3,4,5,6,7,8,9,10,11,12,13,14,15,16,17]⟩,
 ⟨none, .stC (.t 105) (.t 103),none,[0,1,2,3,4,5,6,7,8,9,10,11,12,13,14,15,16,17,18]⟩] true 0))
 (.seq (.region [] [oq 106 (.mov (.t 0)),
 oq 107 (.eC (.t 106)),
 oq 108 (.xA 13 1 183 4 (.t 107)),
 oq 109 (.n3 (.t 108))] false 0)
 (.cond (.t 109) (.seq (.region [] [oq 110 (.ld bE 181 (.t 3)),
 ⟨none, .st bE (.t 2) (.t 110),none,[]⟩] false 0)
 .ret)
 .skip)))
 (.seq (.region [] [oq 111 (.mov (.t 0)),
 oq 112 (.eC (.t 111)),
 oq 113 (.xA 1 1 183 3 (.t 112)),
 oq 114 (.n3 (.t 113)),
 oq 115 (.tB .add (.t 114) (.c lI [.int 1])),
 oq 116 (.eC (.t 111)),
 oq 117 (.xA 1 1 183 3 (.t 116)),
 ⟨none, .stC (.t 117) (.t 115),none,[]⟩] false 0)
 (.seq (.seq (.region [] [oq 118 (.mov (.t 4))] false 0)
 (.cond (.t 118) (.region [] [oq 119 (.nB 178 134 (zO) (aP) [4] 0 none [(.t 3)])] false 0)
 .skip))
 (.seq (.region [] [oq 120 (.mov (.t 0)),
 oq 121 (.ld bE 181 (.t 3)),
 oq 122 (.bld bE [.int 0, .int 0, .int 0, .int 0] []),
 oq 123 (.aeq false bE (.t 121) (.t 122)),
 oq 124 (.eC (.t 120)),
 oq 125 (.xA 13 1 183 4 (.t 124)),
 ⟨none, .stC (.t 125) (.t 123),none,[]⟩] false 0)
 (.seq (.region [] [oq 126 (.ld bE 181 (.t 3)),
 ⟨none, .st bE (.t 2) (.t 126),none,[]⟩] false 0)
 .ret))))))))))}
noncomputable def gQ (E:Env) (p0:List UInt8) (p1:Int) (p2:Bool) (p3:Int) (p4:Int) (p5:Int) (p6:Int) (p7:Int) (p8:Int) (p9:Int) (wL:Int) (xL:Bool) (yL:C) (mK:C):Option (List PV):=
 ((E.ic sB [.r [.str p0], .r [.int p1], .r [.bool p2], .r [.int p3], .r [.int p4], .r [.int p5], .r [.int p6], .r [.int p7], .r [.int p8], .r [.int p9], .r [.int wL], .r [.bool xL], .r [yL], .r [mK]]).bind fun y1=>
 let K2:Bool→Option (Nat×List PV):=fun q3=>
 some (0,[.r [.bool q3], .r [.str (gS 1 y1)], .r [.int (gI 2 y1)], .r [.bool (gB 3 y1)], .r [.int (gI 4 y1)], .r [.int (gI 5 y1)], .r [.int (gI 6 y1)], .r [.int (gI 7 y1)], .r [.int (gI 8 y1)], .r [.int (gI 9 y1)], .r [.int (gI 10 y1)], .r [.int (gI 11 y1)], .r [.bool (gB 12 y1)], .r [gC 13 y1], .r [gC 14 y1], .r [.int 0, .int 0, .int 0, .int 0], .r [.int 0, .int 0, .int 0, .int 0]])
 if ((gI 0 y1)==94)=true then
 K2 (decide ((gI 2 y1)<((gS 1 y1).length:Int)))
 else
 K2 false).bind fun x4=>
 (if (gB 0 x4.2)=true then
 some (0,[.r [.bool (gB 0 x4.2)], .r [.str (gS 1 x4.2)], .r [.int (Go.IntKind.i64.wrap ((gI 2 x4.2)+1))], .r [.bool (gB 3 x4.2)], .r [.int (gI 4 x4.2)], .r [.int (gI 5 x4.2)], .r [.int (gI 6 x4.2)], .r [.int (gI 7 x4.2)], .r [.int (gI 8 x4.2)], .r [.int (gI 9 x4.2)], .r [.int (gI 10 x4.2)], .r [.int (gI 11 x4.2)], .r [.bool (gB 12 x4.2)], .r [gC 13 x4.2], .r [gC 14 x4.2], .r (gR 15 x4.2), .r (gR 16 x4.2)])
 else
 some (0,[.r [.bool (gB 0 x4.2)], .r [.str (gS 1 x4.2)], .r [.int (gI 2 x4.2)], .r [.bool (gB 3 x4.2)], .r [.int (gI 4 x4.2)], .r [.int (gI 5 x4.2)], .r [.int (gI 6 x4.2)], .r [.int (gI 7 x4.2)], .r [.int (gI 8 x4.2)], .r [.int (gI 9 x4.2)], .r [.int (gI 10 x4.2)], .r [.int (gI 11 x4.2)], .r [.bool (gB 12 x4.2)], .r [gC 13 x4.2], .r [gC 14 x4.2], .r (gR 15 x4.2), .r (gR 16 x4.2)])).bind fun x5=>
 (zG E (gB 0 x5.2) (gS 1 x5.2) (gI 2 x5.2) (gB 3 x5.2) (gI 4 x5.2) (gI 5 x5.2) (gI 6 x5.2) (gI 7 x5.2) (gI 8 x5.2) (gI 9 x5.2) (gI 10 x5.2) (gI 11 x5.2) (gB 12 x5.2) (gC 13 x5.2) (gC 14 x5.2) (gR 15 x5.2) (gR 16 x5.2)).bind fun x28=>
 (let K29:Bool→Option (Nat×List PV):=fun q30=>
 some (0,[.r [.bool (gB 0 x28.2)], .r [.str (gS 1 x28.2)], .r [.int (gI 2 x28.2)], .r [.bool (gB 3 x28.2)], .r [.int (gI 4 x28.2)], .r [.int (gI 5 x28.2)], .r [.int (gI 6 x28.2)], .r [.int (gI 7 x28.2)], .r [.int (gI 8 x28.2)], .r [.int (gI 9 x28.2)], .r [.int (gI 10 x28.2)], .r [.int (gI 11 x28.2)], .r [.bool q30], .r [gC 13 x28.2], .r [gC 14 x28.2], .r (gR 15 x28.2), .r (gR 16 x28.2)])
 if (gB 12 x28.2)=true then
 K29 true
 else
 K29 (decide ((gI 2 x28.2)≥((gS 1 x28.2).length:Int)))).bind fun x31=>
 if (gB 12 x31.2)=true then
 some [.r (gR 16 x31.2), .r [.str (gS 1 x31.2)], .r [.int (gI 2 x31.2)], .r [.bool (gB 3 x31.2)], .r [.int (gI 4 x31.2)], .r [.int (gI 5 x31.2)], .r [.int (gI 6 x31.2)], .r [.int (gI 7 x31.2)], .r [.int (gI 8 x31.2)], .r [.int (gI 9 x31.2)], .r [.int (gI 10 x31.2)], .r [.int (gI 11 x31.2)], .r [.bool (gB 12 x31.2)], .r [gC 13 x31.2], .r [gC 14 x31.2]]
 else
 if (gB 0 x31.2)=true then
 (E.ic lJ [.r (gR 16 x31.2)]).bind fun y32=>
 some [.r (gR 0 y32), .r [.str (gS 1 x31.2)], .r [.int (Go.IntKind.i64.wrap ((gI 2 x31.2)+1))], .r [.bool (gB 3 x31.2)], .r [.int (gI 4 x31.2)], .r [.int (gI 5 x31.2)], .r [.int (gI 6 x31.2)], .r [.int (gI 7 x31.2)], .r [.int (gI 8 x31.2)], .r [.int (gI 9 x31.2)], .r [.int (gI 10 x31.2)], .r [.int (gI 11 x31.2)], .r [.bool (ceq [.int .u64, .int .u64, .int .u64, .int .u64] (gR 0 y32) [.int 0, .int 0, .int 0, .int 0])], .r [gC 13 x31.2], .r [gC 14 x31.2]]
 else
 some [.r (gR 16 x31.2), .r [.str (gS 1 x31.2)], .r [.int (Go.IntKind.i64.wrap ((gI 2 x31.2)+1))], .r [.bool (gB 3 x31.2)], .r [.int (gI 4 x31.2)], .r [.int (gI 5 x31.2)], .r [.int (gI 6 x31.2)], .r [.int (gI 7 x31.2)], .r [.int (gI 8 x31.2)], .r [.int (gI 9 x31.2)], .r [.int (gI 10 x31.2)], .r [.int (gI 11 x31.2)], .r [.bool (ceq [.int .u64, .int .u64, .int .u64, .int .u64] (gR 16 x31.2) [.int 0, .int 0, .int 0, .int 0])], .r [gC 13 x31.2], .r [gC 14 x31.2]]
theorem aEp (E:Env) (p0:List UInt8) (p1:Int) (p2:Bool) (p3:Int) (p4:Int) (p5:Int) (p6:Int) (p7:Int) (p8:Int) (p9:Int) (wL:Int) (xL:Bool) (yL:C) (mK:C):j9 E tH [.r [.str p0], .r [.int p1], .r [.bool p2], .r [.int p3], .r [.int p4], .r [.int p5], .r [.int p6], .r [.int p7], .r [.int p8], .r [.int p9], .r [.int wL], .r [.bool xL], .r [yL], .r [mK]]=gQ E p0 p1 p2 p3 p4 p5 p6 p7 p8 p9 wL xL yL mK:=by kernel_rfl
def gO:rZ:={fn:=105,entry:=aBm,res:=[],exit:=aBn,body:=(.region [] [oq 4 (.mov (.t 0)),
 oq 5 (.mov (.t 1)),
 ⟨some 6, .idiv .quo (.t 5) (.c lI [.int 64]),none,[1]⟩,
 ⟨some 7, .eC (.t 4),none,[0]⟩,
 ⟨some 8, .qF 4 149 86 lW (.t 7) (.t 6),none,[0,1,2,3]⟩,
 ⟨some 9, .ld lW 86 (.t 8),none,[0,1,2,3,4]⟩,
 oq 10 (.mov (.t 1)),
 ⟨some 11, .idiv .rem (.t 10) (.c lI [.int 64]),none,[6]⟩,
 ⟨some 12, .shf .shl (.c lW [.int 1]) (.t 11),none,[6,7]⟩,
 ⟨some 13, .tB .or (.t 9) (.t 12),none,[0,1,2,3,4,5,6,7,8]⟩,
 ⟨some 14, .eC (.t 4),none,[0]⟩,
 ⟨some 15, .qF 4 149 86 lW (.t 14) (.t 6),none,[0,1,2,3,4,5,6,7,8,9,10]⟩,
 ⟨none, .st lW (.t 15) (.t 13),none,[0,1,2,3,4,5,6,7,8,9,10,11]⟩] true 0)}
noncomputable def gZ (E:Env) (p0:Int) (p1:Row):Option (List PV):=
 if (0:Int)≤(Go.IntKind.i64.wrap (p0.tdiv 64))∧(Go.IntKind.i64.wrap (p0.tdiv 64))<(4:Int)then
 part lW uS (1+(((Go.IntKind.i64.wrap (p0.tdiv 64)).toNat)*1)) p1 fun y1=>
 if p0.tmod 64<0 then none else if (0:Int)≤(Go.IntKind.i64.wrap (p0.tdiv 64))∧(Go.IntKind.i64.wrap (p0.tdiv 64))<(4:Int)then
 aA1 lW uS (1+(((Go.IntKind.i64.wrap (p0.tdiv 64)).toNat)*1)) p1 [.int (bitsOf .or .u64 ((at_ y1 0).vA) (Go.IntKind.u64.wrap (1*2^(min ((p0.tmod 64).toNat) (Go.IntKind.bits .u64)))))] fun r2=>
 some [.r r2]
 else none
 else none
theorem aIg (E:Env) (p0:Int) (p1:Row):j9 E gO [.r [.int p0], .r p1]=gZ E p0 p1:=by kernel_rfl
def hO:rZ:={fn:=105,entry:=aBo,res:=[],exit:=aBp,body:=(.region [] [oq 4 (.mov (.t 0)),
 oq 5 (.mov (.t 1)),
 ⟨some 6, .idiv .quo (.t 5) (.c lI [.int 64]),none,[1]⟩,
 ⟨some 7, .eC (.t 4),none,[0]⟩,
 ⟨some 8, .qF 4 149 86 lW (.t 7) (.t 6),none,[0,1,2,3]⟩,
 ⟨some 9, .ld lW 86 (.t 8),none,[0,1,2,3,4]⟩,
 oq 10 (.mov (.t 1)),
 ⟨some 11, .idiv .rem (.t 10) (.c lI [.int 64]),none,[6]⟩,
 ⟨some 12, .shf .shl (.c lW [.int 1]) (.t 11),none,[6,7]⟩,
 ⟨some 13, .tB .or (.t 9) (.t 12),none,[0,1,2,3,4,5,6,7,8]⟩,
 ⟨some 14, .eC (.t 4),none,[0]⟩,
 ⟨some 15, .qF 4 149 86 lW (.t 14) (.t 6),none,[0,1,2,3,4,5,6,7,8,9,10]⟩,
 ⟨none, .st lW (.t 15) (.t 13),none,[0,1,2,3,4,5,6,7,8,9,10,11]⟩] true 0)}
noncomputable def iZ (E:Env) (p0:Int) (p1:Row):Option (List PV):=
 if (0:Int)≤(Go.IntKind.i64.wrap (p0.tdiv 64))∧(Go.IntKind.i64.wrap (p0.tdiv 64))<(4:Int)then
 part lW uS (5+(((Go.IntKind.i64.wrap (p0.tdiv 64)).toNat)*1)) p1 fun y1=>
 if p0.tmod 64<0 then none else if (0:Int)≤(Go.IntKind.i64.wrap (p0.tdiv 64))∧(Go.IntKind.i64.wrap (p0.tdiv 64))<(4:Int)then
 aA1 lW uS (5+(((Go.IntKind.i64.wrap (p0.tdiv 64)).toNat)*1)) p1 [.int (bitsOf .or .u64 ((at_ y1 0).vA) (Go.IntKind.u64.wrap (1*2^(min ((p0.tmod 64).toNat) (Go.IntKind.bits .u64)))))] fun r2=>
 some [.r r2]
 else none
 else none
theorem aIh (E:Env) (p0:Int) (p1:Row):j9 E hO [.r [.int p0], .r p1]=iZ E p0 p1:=by kernel_rfl
def uF:rZ:={fn:=137,entry:=jR,res:=[.var 4 uS],exit:=kR,body:=(.seq (.region [] [oq 3 (.vL bE 181 (.t 1)),
 oq 4 (.oB 0 uS [.bool false, .int 0, .int 0, .int 0, .int 0, .int 0, .int 0, .int 0, .int 0])] false 1)
 (.seq (.region [] [oq 7 (.mov (.t 0)),
 oq 8 (.eC (.t 7)),
 oq 9 (.xA 2 11 183 153 (.t 8)),
 oq 10 (.xA 0 1 153 146 (.t 9)),
 oq 11 (.n3 (.t 10)),
 oq 12 (.gE (.t 11)),
 oq 5 (.mov (.t 12))] false 0)
 (.seq (.seq (.region [] [oq 13 (.mov (.t 5)),
 oq 14 (.dA .gtr (.t 13) (.c lI [.int 255]))] false 0)
 (.cond (.t 14) (.seq (.region [] [oq 15 (.mov (.t 0)),
 oq 16 (.eC (.t 15)),
 oq 17 (.xA 13 1 183 4 (.t 16)),
 ⟨none, .stC (.t 17) (.c lB [.bool true]),none,[]⟩] false 0)
 (.seq (.region [] [oq 18 (.bld uS [.bool false, .int 0, .int 0, .int 0, .int 0, .int 0, .int 0, .int 0, .int 0] []),
 ⟨none, .st uS (.t 4) (.t 18),none,[]⟩] false 0)
 .ret))
 .skip))
 (.seq (.region [] [oq 19 (.mov (.t 0)),
 oq 20 (.mov (.t 0)),
 ⟨some 21, .eC (.t 20),none,[1]⟩,
 ⟨some 22, .xA 2 11 183 153 (.t 21),none,[1,2]⟩,
 ⟨some 23, .xA 0 1 153 146 (.t 22),none,[1,2,3]⟩,
 ⟨some 24, .n3 (.t 23),none,[1,2,3,4]⟩,
 oq 25 (.ld bE 181 (.t 3)),
 ⟨some 26, .bsl 181 bE 1 [.int 0, .int 0, .int 0, .int 0] [(0,(.t 25))],none,[6]⟩,
 ⟨some 27, .eU 0 181 bE 32 (.t 24) (.t 26),none,[1,2,3,4,5,6,7]⟩,
 ⟨some 28, .eC (.t 19),none,[0,1,2,3,4,5,6,7,8]⟩,
 ⟨some 29, .xA 2 11 183 153 (.t 28),none,[0,1,2,3,4,5,6,7,8,9]⟩,
 ⟨some 30, .xA 0 1 153 146 (.t 29),none,[0,1,2,3,4,5,6,7,8,9,10]⟩,
 ⟨none, .stC (.t 30) (.t 27),none,[0,1,2,3,4,5,6,7,8,9,10,11]⟩] true 1)
 (.seq (.region [] [oq 31 (.mov (.t 0)),
 oq 32 (.mov (.t 0)),
 oq 33 (.eC (.t 32)),
 oq 34 (.xA 2 11 183 153 (.t 33)),
 oq 35 (.xA 1 1 153 147 (.t 34)),
 oq 36 (.n3 (.t 35)),
 oq 37 (.bld bE [.int 0, .int 0, .int 0, .int 0] []),
 oq 38 (.bsl 149 bE 1 [.int 0, .int 0, .int 0, .int 0] [(0,(.t 37))]),
 oq 39 (.app 0 149 bE 32 (.t 36) (.t 38)),
 oq 40 (.eC (.t 31)),
 oq 41 (.xA 2 11 183 153 (.t 40)),
 oq 42 (.xA 1 1 153 147 (.t 41)),
 ⟨none, .stC (.t 42) (.t 39),none,[]⟩] false 1)
 (.seq (.region [] [oq 6 (.oB 0 uS [.bool false, .int 0, .int 0, .int 0, .int 0, .int 0, .int 0, .int 0, .int 0])] false 1)
 (.seq (.region [] [oq 43 (.xA 1 4 151 149 (.t 6)),
 oq 44 (.mov (.t 5)),
 oq 45 (.nB 183 105 (aBm) (aBn) [6] 0 none [(.t 43),(.t 44)])] false 0)
 (.seq (.region [] [oq 46 (.xA 5 4 151 149 (.t 6)),
 oq 47 (.mov (.t 5)),
 oq 48 (.nB 184 105 (aBo) (aBp) [6] 0 none [(.t 46),(.t 47)])] false 0)
 (.seq (.region [] [oq 49 (.ld uS 151 (.t 6)),
 ⟨none, .st uS (.t 4) (.t 49),none,[]⟩] false 0)
 .ret)))))))))}
noncomputable def lM (E:Env) (p0:Row) (p1:List UInt8) (p2:Int) (p3:Bool) (p4:Int) (p5:Int) (p6:Int) (p7:Int) (p8:Int) (p9:Int) (wL:Int) (xL:Int) (yL:Bool) (mK:C) (p14:C):Option (List PV):=
 if (decide ((mK.rows.length:Int)>255))=true then
 some [.r [.bool false, .int 0, .int 0, .int 0, .int 0, .int 0, .int 0, .int 0, .int 0], .r [.str p1], .r [.int p2], .r [.bool p3], .r [.int p4], .r [.int p5], .r [.int p6], .r [.int p7], .r [.int p8], .r [.int p9], .r [.int wL], .r [.int xL], .r [.bool true], .r [mK], .r [p14]]
 else
 if (mK.rows.length+([p0]:List Row).length)*32≤140737488355328 then
 if (p14.rows.length+([[.int 0, .int 0, .int 0, .int 0]]:List Row).length)*32≤140737488355328 then
 (E.ic yU [.r [.int (mK.rows.length:Int)], .r [.bool false, .int 0, .int 0, .int 0, .int 0, .int 0, .int 0, .int 0, .int 0]]).bind fun y1=>
 (E.ic zU [.r [.int (mK.rows.length:Int)], .r (gR 0 y1)]).bind fun y2=>
 some [.r (gR 0 y2), .r [.str p1], .r [.int p2], .r [.bool p3], .r [.int p4], .r [.int p5], .r [.int p6], .r [.int p7], .r [.int p8], .r [.int p9], .r [.int wL], .r [.int xL], .r [.bool yL], .r [pE mK ([p0]:List Row)], .r [pE p14 ([[.int 0, .int 0, .int 0, .int 0]]:List Row)]]
 else none
 else none
theorem aCp (E:Env) (p0:Row) (p1:List UInt8) (p2:Int) (p3:Bool) (p4:Int) (p5:Int) (p6:Int) (p7:Int) (p8:Int) (p9:Int) (wL:Int) (xL:Int) (yL:Bool) (mK:C) (p14:C):j9 E uF [.r p0, .r [.str p1], .r [.int p2], .r [.bool p3], .r [.int p4], .r [.int p5], .r [.int p6], .r [.int p7], .r [.int p8], .r [.int p9], .r [.int wL], .r [.int xL], .r [.bool yL], .r [mK], .r [p14]]=lM E p0 p1 p2 p3 p4 p5 p6 p7 p8 p9 wL xL yL mK p14:=by kernel_rfl
def oI:rZ:={fn:=133,entry:=tW,res:=[.var 2 uS],exit:=uW,body:=(.seq (.region [] [oq 2 (.oB 0 uS [.bool false, .int 0, .int 0, .int 0, .int 0, .int 0, .int 0, .int 0, .int 0])] false 1)
 (.seq (.region [] [oq 6 (.mov (.t 0)),
 oq 7 (.nB 175 130 (uB) (wB) [0,1,2] 0 none [(.t 6)]),
 oq 3 (.mov (.t 7))] false 0)
 (.seq (.region [] [oq 8 (.mov (.t 0)),
 oq 9 (.eC (.t 8)),
 oq 10 (.xA 1 1 183 3 (.t 9)),
 oq 11 (.n3 (.t 10)),
 oq 12 (.tB .add (.t 11) (.c lI [.int 1])),
 oq 13 (.eC (.t 8)),
 oq 14 (.xA 1 1 183 3 (.t 13)),
 ⟨none, .stC (.t 14) (.t 12),none,[]⟩] false 0)
 (.seq (.region [] [oq 4 (.oB 0 bE [.int 0, .int 0, .int 0, .int 0])] false 1)
 (.seq (.join [(.normal,{slots:=[(0, .ptr 0 0),(2, .ptr 3 0),(4, .ptr 4 0)],objs:=[oS0, .uA 181 bE, .arr bE, .var uS, .var bE],m:=3}),(.ret,{slots:=[(2, .ptr 3 0)],objs:=[oS0, .uA 181 bE, .arr bE, .var uS],m:=3})] (.block 0 (.seq (.region [] [oq 18 (.mov (.t 3)),
 oq 19 (.dA .eql (.t 18) (.c lU [.int 40])),
 oq 17 (.mov (.t 19))] false 0)
 (.cond (.t 17) (.seq (.region [] [oq 20 (.mov (.t 0)),
 oq 21 (.nB 172 121 (dH) (eH) [0,1,2] 0 none [(.t 20)]),
 oq 5 (.oB 0 uS [.bool false, .int 0, .int 0, .int 0, .int 0, .int 0, .int 0, .int 0, .int 0]),
 ⟨none, .st uS (.t 5) (.t 21),none,[]⟩] false 1)
 (.seq (.seq (.join [(.normal,{slots:=[(0, .ptr 0 0),(2, .ptr 3 0),(5, .ptr 4 0)],objs:=bS4,m:=3})] (.region [] [oq 22 (.mov (.t 0)),
 oq 23 (.mov (.t 0)),
 ⟨some 24, .eC (.t 23),none,[1]⟩,
 ⟨some 25, .xA 13 1 183 4 (.t 24),none,[1,2]⟩,
 ⟨some 26, .n3 (.t 25),none,[1,2,3]⟩,
 ⟨some 27, .mov (.t 26),none,[1,2,3,4]⟩,
 ⟨some 28, .mov (.t 0),some (27,false),[1,2,3,4,5]⟩,
 ⟨some 29, .nB 175 130 (uB) (wB) [0,1,2] 0 none [(.t 28)],some (27,false),[1,2,3,4,5,6]⟩,
 ⟨some 30, .dA .neq (.t 29) (.c lU [.int 41]),some (27,false),[1,2,3,4,5,6,7]⟩,
 ⟨some 31, .pick (.t 27) (.c lB [.bool true]) (.t 30),none,[1,2,3,4,5,6,7,8]⟩,
 ⟨some 32, .mov (.t 31),none,[1,2,3,4,5,6,7,8,9]⟩,
 ⟨some 33, .mov (.t 0),some (32,false),[1,2,3,4,5,6,7,8,9,10]⟩,
 ⟨some 34, .eC (.t 33),some (32,false),[1,2,3,4,5,6,7,8,9,10,11]⟩,
 ⟨some 35, .xA 1 1 183 3 (.t 34),some (32,false),[1,2,3,4,5,6,7,8,9,10,11,12]⟩,
 ⟨some 36, .n3 (.t 35),some (32,false),[1,2,3,4,5,6,7,8,9,10,11,12,13]⟩,
 ⟨some 37, .mov (.t 0),some (32,false),[1,2,3,4,5,6,7,8,9,10]⟩,
 ⟨some 38, .eC (.t 37),some (32,false),[1,2,3,4,5,6,7,8,9,10,15]⟩,
 ⟨some 39, .xA 0 1 183 9 (.t 38),some (32,false),[1,2,3,4,5,6,7,8,9,10,15,16]⟩,
 ⟨some 40, .n3 (.t 39),some (32,false),[1,2,3,4,5,6,7,8,9,10,15,16,17]⟩,
 ⟨some 41, .aB3 (.t 40),some (32,false),[1,2,3,4,5,6,7,8,9,10,15,16,17,18]⟩,
 ⟨some 42, .dA .geq (.t 36) (.t 41),some (32,false),[1,2,3,4,5,6,7,8,9,10,11,12,13,14,15,16,17,18,19]⟩,
 ⟨some 43, .pick (.t 32) (.c lB [.bool true]) (.t 42),none,[1,2,3,4,5,6,7,8,9,10,11,12,13,14,15,16,17,18,19,20]⟩,
 ⟨some 44, .eC (.t 22),none,[0,1,2,3,4,5,6,7,8,9,10,11,12,13,14,15,16,17,18,19,20,21]⟩,
 ⟨some 45, .xA 13 1 183 4 (.t 44),none,[0,1,2,3,4,5,6,7,8,9,10,11,12,13,14,15,16,17,18,19,20,21,22]⟩,
 ⟨none, .stC (.t 45) (.t 43),none,[0,1,2,3,4,5,6,7,8,9,10,11,12,13,14,15,16,17,18,19,20,21,22,23]⟩] true 0))
 (.seq (.region [] [oq 46 (.mov (.t 0)),
 oq 47 (.eC (.t 46)),
 oq 48 (.xA 13 1 183 4 (.t 47)),
 oq 49 (.n3 (.t 48)),
 oq 50 (.not (.t 49))] false 0)
 (.cond (.t 50) (.region [] [oq 51 (.mov (.t 0)),
 oq 52 (.eC (.t 51)),
 oq 53 (.xA 1 1 183 3 (.t 52)),
 oq 54 (.n3 (.t 53)),
 oq 55 (.tB .add (.t 54) (.c lI [.int 1])),
 oq 56 (.eC (.t 51)),
 oq 57 (.xA 1 1 183 3 (.t 56)),
 ⟨none, .stC (.t 57) (.t 55),none,[]⟩] false 0)
 .skip)))
 (.seq (.region [] [oq 58 (.ld uS 151 (.t 5)),
 ⟨none, .st uS (.t 2) (.t 58),none,[]⟩] false 0)
 .ret)))
 (.seq (.region [] [oq 60 (.mov (.t 3)),
 oq 61 (.dA .eql (.t 60) (.c lU [.int 46])),
 oq 59 (.mov (.t 61))] false 0)
 (.cond (.t 59) (.region [] [oq 62 (.nB 178 134 (zO) (aP) [4] 0 none [(.t 4)])] false 0)
 (.seq (.region [] [oq 64 (.mov (.t 3)),
 oq 65 (.dA .eql (.t 64) (.c lU [.int 91])),
 oq 63 (.mov (.t 65))] false 0)
 (.cond (.t 63) (.region [] [oq 66 (.mov (.t 0)),
 oq 67 (.nB 179 135 (pV) (qV) [0,1,2] 0 none [(.t 66)]),
 ⟨none, .st bE (.t 4) (.t 67),none,[]⟩] false 0)
 (.seq (.region [] [oq 69 (.mov (.t 3)),
 oq 70 (.dA .eql (.t 69) (.c lU [.int 92])),
 oq 68 (.mov (.t 70))] false 0)
 (.cond (.t 68) (.seq (.seq (.region [] [oq 71 (.mov (.t 0)),
 ⟨some 72, .eC (.t 71),none,[0]⟩,
 ⟨some 73, .xA 1 1 183 3 (.t 72),none,[0,1]⟩,
 ⟨some 74, .n3 (.t 73),none,[0,1,2]⟩,
 oq 75 (.mov (.t 0)),
 ⟨some 76, .eC (.t 75),none,[4]⟩,
 ⟨some 77, .xA 0 1 183 9 (.t 76),none,[4,5]⟩,
 ⟨some 78, .n3 (.t 77),none,[4,5,6]⟩,
 ⟨some 79, .aB3 (.t 78),none,[4,5,6,7]⟩,
 ⟨some 80, .dA .geq (.t 74) (.t 79),none,[0,1,2,3,4,5,6,7,8]⟩] true 0)
 (.cond (.t 80) (.seq (.region [] [oq 81 (.mov (.t 0)),
 oq 82 (.eC (.t 81)),
 oq 83 (.xA 13 1 183 4 (.t 82)),
 ⟨none, .stC (.t 83) (.c lB [.bool true]),none,[]⟩] false 0)
 (.seq (.region [] [oq 84 (.bld uS [.bool false, .int 0, .int 0, .int 0, .int 0, .int 0, .int 0, .int 0, .int 0] []),
 ⟨none, .st uS (.t 2) (.t 84),none,[]⟩] false 0)
 .ret))
 .skip))
 (.seq (.region [] [oq 85 (.mov (.t 0)),
 ⟨some 86, .eC (.t 85),none,[0]⟩,
 ⟨some 87, .xA 0 1 183 9 (.t 86),none,[0,1]⟩,
 ⟨some 88, .n3 (.t 87),none,[0,1,2]⟩,
 oq 89 (.mov (.t 0)),
 ⟨some 90, .eC (.t 89),none,[4]⟩,
 ⟨some 91, .xA 1 1 183 3 (.t 90),none,[4,5]⟩,
 ⟨some 92, .n3 (.t 91),none,[4,5,6]⟩,
 ⟨some 93, .aB2 (.t 88) (.t 92),none,[0,1,2,3,4,5,6,7]⟩,
 ⟨some 94, .nB 181 136 (jJ) (kJ) [4] 0 none [(.t 4),(.t 93)],none,[0,1,2,3,4,5,6,7,8]⟩] true 0)
 (.region [] [oq 95 (.mov (.t 0)),
 oq 96 (.eC (.t 95)),
 oq 97 (.xA 1 1 183 3 (.t 96)),
 oq 98 (.n3 (.t 97)),
 oq 99 (.tB .add (.t 98) (.c lI [.int 1])),
 oq 100 (.eC (.t 95)),
 oq 101 (.xA 1 1 183 3 (.t 100)),
 ⟨none, .stC (.t 101) (.t 99),none,[]⟩] false 0)))
 (.seq (.region [] [oq 103 (.mov (.t 3)),
 oq 104 (.call 47 [lS,lU] [lI] [(.c lS [.str ([124,42,43,63,40,41,91,93]:List UInt8)]),(.t 103)]),
 oq 105 (.dA .geq (.t 104) (.c lI [.int 0])),
 oq 102 (.mov (.t 105))] false 0)
 (.cond (.t 102) (.seq (.region [] [oq 106 (.mov (.t 0)),
 oq 107 (.eC (.t 106)),
 oq 108 (.xA 13 1 183 4 (.t 107)),
 ⟨none, .stC (.t 108) (.c lB [.bool true]),none,[]⟩] false 0)
 (.seq (.region [] [oq 109 (.bld uS [.bool false, .int 0, .int 0, .int 0, .int 0, .int 0, .int 0, .int 0, .int 0] []),
 ⟨none, .st uS (.t 2) (.t 109),none,[]⟩] false 0)
 .ret))
 (.region [] [oq 15 (.mov (.t 3)),
 oq 16 (.nB 181 136 (jJ) (kJ) [4] 0 none [(.t 4),(.t 15)])] false 0)))))))))))))
 (.seq (.region [] [oq 110 (.mov (.t 0)),
 oq 111 (.ld bE 181 (.t 4)),
 oq 112 (.nB 182 137 (jR) (kR) [0,1,2] 0 none [(.t 110),(.t 111)]),
 ⟨none, .st uS (.t 2) (.t 112),none,[]⟩] false 0)
 .ret))))))}
noncomputable def lR (E:Env) (p0:List UInt8) (p1:Int) (p2:Bool) (p3:Int) (p4:Int) (p5:Int) (p6:Int) (p7:Int) (p8:Int) (p9:Int) (wL:Int) (xL:Bool) (yL:C) (mK:C):Option (List PV):=
 (E.ic sB [.r [.str p0], .r [.int p1], .r [.bool p2], .r [.int p3], .r [.int p4], .r [.int p5], .r [.int p6], .r [.int p7], .r [.int p8], .r [.int p9], .r [.int wL], .r [.bool xL], .r [yL], .r [mK]]).bind fun y1=>
 (if ((gI 0 y1)==40)=true then
 (E.ic uE [.r [.str (gS 1 y1)], .r [.int (Go.IntKind.i64.wrap ((gI 2 y1)+1))], .r [.bool (gB 3 y1)], .r [.int (gI 4 y1)], .r [.int (gI 5 y1)], .r [.int (gI 6 y1)], .r [.int (gI 7 y1)], .r [.int (gI 8 y1)], .r [.int (gI 9 y1)], .r [.int (gI 10 y1)], .r [.int (gI 11 y1)], .r [.bool (gB 12 y1)], .r [gC 13 y1], .r [gC 14 y1]]).bind fun y2=>
 (if (gB 12 y2)=true then
 some (0,[.r [.str (gS 1 y2)], .r [.int (gI 2 y2)], .r [.bool (gB 3 y2)], .r [.int (gI 4 y2)], .r [.int (gI 5 y2)], .r [.int (gI 6 y2)], .r [.int (gI 7 y2)], .r [.int (gI 8 y2)], .r [.int (gI 9 y2)], .r [.int (gI 10 y2)], .r [.int (gI 11 y2)], .r [.bool true], .r [gC 13 y2], .r [gC 14 y2], .r [.bool false, .int 0, .int 0, .int 0, .int 0, .int 0, .int 0, .int 0, .int 0], .r (gR 0 y2)])
 else
 (E.ic sB [.r [.str (gS 1 y2)], .r [.int (gI 2 y2)], .r [.bool (gB 3 y2)], .r [.int (gI 4 y2)], .r [.int (gI 5 y2)], .r [.int (gI 6 y2)], .r [.int (gI 7 y2)], .r [.int (gI 8 y2)], .r [.int (gI 9 y2)], .r [.int (gI 10 y2)], .r [.int (gI 11 y2)], .r [.bool (gB 12 y2)], .r [gC 13 y2], .r [gC 14 y2]]).bind fun y8=>
 let K9:Bool→Option (Nat×List PV):=fun q10=>
 some (0,[.r [.str (gS 1 y8)], .r [.int (gI 2 y8)], .r [.bool (gB 3 y8)], .r [.int (gI 4 y8)], .r [.int (gI 5 y8)], .r [.int (gI 6 y8)], .r [.int (gI 7 y8)], .r [.int (gI 8 y8)], .r [.int (gI 9 y8)], .r [.int (gI 10 y8)], .r [.int (gI 11 y8)], .r [.bool q10], .r [gC 13 y8], .r [gC 14 y8], .r [.bool false, .int 0, .int 0, .int 0, .int 0, .int 0, .int 0, .int 0, .int 0], .r (gR 0 y2)])
 if ((gI 0 y8) !=41)=true then
 K9 true
 else
 K9 (decide ((gI 2 y8)≥((gS 1 y8).length:Int)))).bind fun eJ=>
 if (!(gB 11 eJ.2))=true then
 some (1,[.r [.str (gS 0 eJ.2)], .r [.int (Go.IntKind.i64.wrap ((gI 1 eJ.2)+1))], .r [.bool (gB 2 eJ.2)], .r [.int (gI 3 eJ.2)], .r [.int (gI 4 eJ.2)], .r [.int (gI 5 eJ.2)], .r [.int (gI 6 eJ.2)], .r [.int (gI 7 eJ.2)], .r [.int (gI 8 eJ.2)], .r [.int (gI 9 eJ.2)], .r [.int (gI 10 eJ.2)], .r [.bool (gB 11 eJ.2)], .r [gC 12 eJ.2], .r [gC 13 eJ.2], .r (gR 15 eJ.2)])
 else
 some (1,[.r [.str (gS 0 eJ.2)], .r [.int (gI 1 eJ.2)], .r [.bool (gB 2 eJ.2)], .r [.int (gI 3 eJ.2)], .r [.int (gI 4 eJ.2)], .r [.int (gI 5 eJ.2)], .r [.int (gI 6 eJ.2)], .r [.int (gI 7 eJ.2)], .r [.int (gI 8 eJ.2)], .r [.int (gI 9 eJ.2)], .r [.int (gI 10 eJ.2)], .r [.bool (gB 11 eJ.2)], .r [gC 12 eJ.2], .r [gC 13 eJ.2], .r (gR 15 eJ.2)])
 else
 if ((gI 0 y1)==46)=true then
 (E.ic lJ [.r [.int 0, .int 0, .int 0, .int 0]]).bind fun y12=>
 some (0,[.r [.str (gS 1 y1)], .r [.int (Go.IntKind.i64.wrap ((gI 2 y1)+1))], .r [.bool (gB 3 y1)], .r [.int (gI 4 y1)], .r [.int (gI 5 y1)], .r [.int (gI 6 y1)], .r [.int (gI 7 y1)], .r [.int (gI 8 y1)], .r [.int (gI 9 y1)], .r [.int (gI 10 y1)], .r [.int (gI 11 y1)], .r [.bool (gB 12 y1)], .r [gC 13 y1], .r [gC 14 y1], .r [.bool false, .int 0, .int 0, .int 0, .int 0, .int 0, .int 0, .int 0, .int 0], .r (gR 0 y12)])
 else
 if ((gI 0 y1)==91)=true then
 (E.ic rN [.r [.str (gS 1 y1)], .r [.int (Go.IntKind.i64.wrap ((gI 2 y1)+1))], .r [.bool (gB 3 y1)], .r [.int (gI 4 y1)], .r [.int (gI 5 y1)], .r [.int (gI 6 y1)], .r [.int (gI 7 y1)], .r [.int (gI 8 y1)], .r [.int (gI 9 y1)], .r [.int (gI 10 y1)], .r [.int (gI 11 y1)], .r [.bool (gB 12 y1)], .r [gC 13 y1], .r [gC 14 y1]]).bind fun pW=>
 some (0,[.r [.str (gS 1 pW)], .r [.int (gI 2 pW)], .r [.bool (gB 3 pW)], .r [.int (gI 4 pW)], .r [.int (gI 5 pW)], .r [.int (gI 6 pW)], .r [.int (gI 7 pW)], .r [.int (gI 8 pW)], .r [.int (gI 9 pW)], .r [.int (gI 10 pW)], .r [.int (gI 11 pW)], .r [.bool (gB 12 pW)], .r [gC 13 pW], .r [gC 14 pW], .r [.bool false, .int 0, .int 0, .int 0, .int 0, .int 0, .int 0, .int 0, .int 0], .r (gR 0 pW)])
 else
 if ((gI 0 y1)==92)=true then
 if (decide ((Go.IntKind.i64.wrap ((gI 2 y1)+1))≥((gS 1 y1).length:Int)))=true then
 some (1,[.r [.str (gS 1 y1)], .r [.int (Go.IntKind.i64.wrap ((gI 2 y1)+1))], .r [.bool (gB 3 y1)], .r [.int (gI 4 y1)], .r [.int (gI 5 y1)], .r [.int (gI 6 y1)], .r [.int (gI 7 y1)], .r [.int (gI 8 y1)], .r [.int (gI 9 y1)], .r [.int (gI 10 y1)], .r [.int (gI 11 y1)], .r [.bool true], .r [gC 13 y1], .r [gC 14 y1], .r [.bool false, .int 0, .int 0, .int 0, .int 0, .int 0, .int 0, .int 0, .int 0]])
 else
 if (0:Int)≤(Go.IntKind.i64.wrap ((gI 2 y1)+1))∧(Go.IntKind.i64.wrap ((gI 2 y1)+1))<((gS 1 y1).length:Int)then
 (E.ic yE [.r [.int (((gS 1 y1).getD ((Go.IntKind.i64.wrap ((gI 2 y1)+1)).toNat) 0).toNat:Int)], .r [.int 0, .int 0, .int 0, .int 0]]).bind fun y14=>
 some (0,[.r [.str (gS 1 y1)], .r [.int (Go.IntKind.i64.wrap ((Go.IntKind.i64.wrap ((gI 2 y1)+1))+1))], .r [.bool (gB 3 y1)], .r [.int (gI 4 y1)], .r [.int (gI 5 y1)], .r [.int (gI 6 y1)], .r [.int (gI 7 y1)], .r [.int (gI 8 y1)], .r [.int (gI 9 y1)], .r [.int (gI 10 y1)], .r [.int (gI 11 y1)], .r [.bool (gB 12 y1)], .r [gC 13 y1], .r [gC 14 y1], .r [.bool false, .int 0, .int 0, .int 0, .int 0, .int 0, .int 0, .int 0, .int 0], .r (gR 0 y14)])
 else none
 else
 (E.pc zQ [[.str ([124,42,43,63,40,41,91,93]:List UInt8)],[.int (gI 0 y1)]]).bind fun y15=>
 if (decide (((at_ (aA y15 0) 0).vA)≥0))=true then
 some (1,[.r [.str (gS 1 y1)], .r [.int (Go.IntKind.i64.wrap ((gI 2 y1)+1))], .r [.bool (gB 3 y1)], .r [.int (gI 4 y1)], .r [.int (gI 5 y1)], .r [.int (gI 6 y1)], .r [.int (gI 7 y1)], .r [.int (gI 8 y1)], .r [.int (gI 9 y1)], .r [.int (gI 10 y1)], .r [.int (gI 11 y1)], .r [.bool true], .r [gC 13 y1], .r [gC 14 y1], .r [.bool false, .int 0, .int 0, .int 0, .int 0, .int 0, .int 0, .int 0, .int 0]])
 else
 (E.ic yE [.r [.int (gI 0 y1)], .r [.int 0, .int 0, .int 0, .int 0]]).bind fun y16=>
 some (0,[.r [.str (gS 1 y1)], .r [.int (Go.IntKind.i64.wrap ((gI 2 y1)+1))], .r [.bool (gB 3 y1)], .r [.int (gI 4 y1)], .r [.int (gI 5 y1)], .r [.int (gI 6 y1)], .r [.int (gI 7 y1)], .r [.int (gI 8 y1)], .r [.int (gI 9 y1)], .r [.int (gI 10 y1)], .r [.int (gI 11 y1)], .r [.bool (gB 12 y1)], .r [gC 13 y1], .r [gC 14 y1], .r [.bool false, .int 0, .int 0, .int 0, .int 0, .int 0, .int 0, .int 0, .int 0], .r (gR 0 y16)])).bind fun x17=>
 match x17.1 with
 |0=>
 (E.ic zJ [.r (gR 15 x17.2), .r [.str (gS 0 x17.2)], .r [.int (gI 1 x17.2)], .r [.bool (gB 2 x17.2)], .r [.int (gI 3 x17.2)], .r [.int (gI 4 x17.2)], .r [.int (gI 5 x17.2)], .r [.int (gI 6 x17.2)], .r [.int (gI 7 x17.2)], .r [.int (gI 8 x17.2)], .r [.int (gI 9 x17.2)], .r [.int (gI 10 x17.2)], .r [.bool (gB 11 x17.2)], .r [gC 12 x17.2], .r [gC 13 x17.2]]).bind fun y19=>
 some [.r (gR 0 y19), .r [.str (gS 1 y19)], .r [.int (gI 2 y19)], .r [.bool (gB 3 y19)], .r [.int (gI 4 y19)], .r [.int (gI 5 y19)], .r [.int (gI 6 y19)], .r [.int (gI 7 y19)], .r [.int (gI 8 y19)], .r [.int (gI 9 y19)], .r [.int (gI 10 y19)], .r [.int (gI 11 y19)], .r [.bool (gB 12 y19)], .r [gC 13 y19], .r [gC 14 y19]]
 |i18+1=>
 some [.r (gR 14 x17.2), .r [.str (gS 0 x17.2)], .r [.int (gI 1 x17.2)], .r [.bool (gB 2 x17.2)], .r [.int (gI 3 x17.2)], .r [.int (gI 4 x17.2)], .r [.int (gI 5 x17.2)], .r [.int (gI 6 x17.2)], .r [.int (gI 7 x17.2)], .r [.int (gI 8 x17.2)], .r [.int (gI 9 x17.2)], .r [.int (gI 10 x17.2)], .r [.bool (gB 11 x17.2)], .r [gC 12 x17.2], .r [gC 13 x17.2]]
theorem aE0 (E:Env) (p0:List UInt8) (p1:Int) (p2:Bool) (p3:Int) (p4:Int) (p5:Int) (p6:Int) (p7:Int) (p8:Int) (p9:Int) (wL:Int) (xL:Bool) (yL:C) (mK:C):j9 E oI [.r [.str p0], .r [.int p1], .r [.bool p2], .r [.int p3], .r [.int p4], .r [.int p5], .r [.int p6], .r [.int p7], .r [.int p8], .r [.int p9], .r [.int wL], .r [.bool xL], .r [yL], .r [mK]]=lR E p0 p1 p2 p3 p4 p5 p6 p7 p8 p9 wL xL yL mK:=by kernel_rfl
def rV:aD:={ps:=[(.one (.ref 149)),lI],rs:=[lB],res:=[(false,4,none)],body:=(.seq (.region [] [oq 4 (.mov (.c lB [.bool false]))] false 0)
 (.seq (.region [] [oq 5 (.mov (.t 0)),
 oq 6 (.mov (.t 1)),
 oq 7 (.idiv .quo (.t 6) (.c lI [.int 64])),
 oq 8 (.eC (.t 5)),
 oq 9 (.qF 4 149 86 lW (.t 8) (.t 7)),
 oq 10 (.ld lW 86 (.t 9)),
 oq 11 (.mov (.t 1)),
 oq 12 (.idiv .rem (.t 11) (.c lI [.int 64])),
 oq 13 (.shf .shr (.t 10) (.t 12)),
 oq 14 (.tB .and (.t 13) (.c lW [.int 1])),
 oq 15 (.dA .eql (.t 14) (.c lW [.int 1])),
 oq 4 (.mov (.t 15))] false 0)
 .ret))}
noncomputable def aDL (E:Env) (p0:C) (p1:Int):Option (List Row):=
 if p0.jB=true then
 if (0:Int)≤(Go.IntKind.i64.wrap (p1.tdiv 64))∧(Go.IntKind.i64.wrap (p1.tdiv 64))<(4:Int)∧p0.jB=true then
 if p1.tmod 64<0 then none else some [[.bool ((bitsOf .and .u64 (((at_ p0.cA (((Go.IntKind.i64.wrap (p1.tdiv 64)).toNat)*1)).vA).fdiv (2^(min ((p1.tmod 64).toNat) (Go.IntKind.bits .u64)))) 1)==1)]]
 else none
 else none
theorem aK8 (E:Env) (p0:C) (p1:Int):xE E rV [[p0],[.int p1]]=aDL E p0 p1:=by kernel_rfl
def mR:Shape:={slots:=[(0, .uL 0),(3, .d (.one (.ref 149))),(5, .d lI)],objs:=bS5,m:=3}
def nR:List (mB×Shape):=[(.exit 0,{slots:=[],objs:=bS5,m:=3})]
def oR:zB:=(.seq (.region [] [oq 6 (.dA .lss (.t 5) (.c lI [.int 4]))] false 0)
 (.seq (.cond (.t 6) .skip
 (.exit 0))
 (.seq (.block 1 (.seq (.region [] [oq 7 (.mov (.t 5)),
 oq 4 (.mov (.t 7))] false 0)
 (.region [] [oq 8 (.mov (.t 0)),
 oq 9 (.mov (.t 4)),
 ⟨some 10, .eC (.t 8),none,[0]⟩,
 ⟨some 11, .qF 4 149 86 lW (.t 10) (.t 9),none,[0,1,2]⟩,
 ⟨some 12, .ld lW 86 (.t 11),none,[0,1,2,3]⟩,
 oq 13 (.mov (.t 4)),
 ⟨some 14, .qF 4 149 86 lW (.t 3) (.t 13),none,[5]⟩,
 ⟨some 15, .ld lW 86 (.t 14),none,[5,6]⟩,
 ⟨some 16, .tB .or (.t 12) (.t 15),none,[0,1,2,3,4,5,6,7]⟩,
 ⟨some 17, .eC (.t 8),none,[0]⟩,
 ⟨some 18, .qF 4 149 86 lW (.t 17) (.t 9),none,[0,1,2,3,4,5,6,7,8,9]⟩,
 ⟨none, .st lW (.t 18) (.t 16),none,[0,1,2,3,4,5,6,7,8,9,10]⟩] true 0)))
 (.region [] [oq 19 (.tB .add (.t 5) (.c lI [.int 1])),
 oq 5 (.mov (.t 19))] false 0))))
noncomputable def sK (E:Env) (v0:Row) (v1:C) (v2:Int) (v3:C) (v4:List UInt8) (v5:Int) (v6:Bool) (v7:Int) (v8:Int) (v9:Int) (v10:Int) (v11:Int) (v12:Int) (eM:Int) (uQ:Int) (fO:Bool) (v16:C):Option (Nat×List PV):=E.fix (stepOf E oR mR nR) [.r v0, .r [v1], .r [.int v2], .r [v3], .r [.str v4], .r [.int v5], .r [.bool v6], .r [.int v7], .r [.int v8], .r [.int v9], .r [.int v10], .r [.int v11], .r [.int v12], .r [.int eM], .r [.int uQ], .r [.bool fO], .r [v16]]
noncomputable def tK (E:Env) (X:Row→C→Int→C→List UInt8→Int→Bool→Int→Int→Int→Int→Int→Int→Int→Int→Bool→C→Option (Nat×List PV)) (v0:Row) (v1:C) (v2:Int) (v3:C) (v4:List UInt8) (v5:Int) (v6:Bool) (v7:Int) (v8:Int) (v9:Int) (v10:Int) (v11:Int) (v12:Int) (eM:Int) (uQ:Int) (fO:Bool) (v16:C):Option (Nat×List PV):=
 if (decide (v2<4))=true then
 if (0:Int)≤v2∧v2<(4:Int)then
 if (((at_ v0 0).vA).toNat)<v3.rows.length then
 part lW bE ((((at_ v0 1).vA).toNat)+(v2.toNat*1)) (aA v3.rows (((at_ v0 0).vA).toNat)) fun y1=>
 if (0:Int)≤v2∧v2<(4:Int)∧v1.jB=true then
 if (0:Int)≤v2∧v2<(4:Int)then
 if (((at_ v0 0).vA).toNat)<v3.rows.length then
 aA1 lW bE ((((at_ v0 1).vA).toNat)+(v2.toNat*1)) (aA v3.rows (((at_ v0 0).vA).toNat)) [.int (bitsOf .or .u64 ((at_ y1 0).vA) ((at_ v1.cA (v2.toNat*1)).vA))] fun r2=>
 X [.int ((((at_ v0 0).vA).toNat:Nat):Int), .int ((((at_ v0 1).vA).toNat:Nat):Int)] v1 (Go.IntKind.i64.wrap (v2+1)) (.sl (v3.rows.set (((at_ v0 0).vA).toNat) r2)) v4 v5 v6 v7 v8 v9 v10 v11 v12 eM uQ fO v16
 else none
 else none
 else none
 else none
 else none
 else
 some (0,[.r [v3], .r [.str v4], .r [.int v5], .r [.bool v6], .r [.int v7], .r [.int v8], .r [.int v9], .r [.int v10], .r [.int v11], .r [.int v12], .r [.int eM], .r [.int uQ], .r [.bool fO], .r [v16]])
theorem aGY (E:Env) (X:List PV→Option (Nat×List PV)) (v0:Row) (v1:C) (v2:Int) (v3:C) (v4:List UInt8) (v5:Int) (v6:Bool) (v7:Int) (v8:Int) (v9:Int) (v10:Int) (v11:Int) (v12:Int) (eM:Int) (uQ:Int) (fO:Bool) (v16:C):stepOf E oR mR nR X [.r v0, .r [v1], .r [.int v2], .r [v3], .r [.str v4], .r [.int v5], .r [.bool v6], .r [.int v7], .r [.int v8], .r [.int v9], .r [.int v10], .r [.int v11], .r [.int v12], .r [.int eM], .r [.int uQ], .r [.bool fO], .r [v16]]=tK E (fun (v0:Row) (v1:C) (v2:Int) (v3:C) (v4:List UInt8) (v5:Int) (v6:Bool) (v7:Int) (v8:Int) (v9:Int) (v10:Int) (v11:Int) (v12:Int) (eM:Int) (uQ:Int) (fO:Bool) (v16:C)=>X [.r v0, .r [v1], .r [.int v2], .r [v3], .r [.str v4], .r [.int v5], .r [.bool v6], .r [.int v7], .r [.int v8], .r [.int v9], .r [.int v10], .r [.int v11], .r [.int v12], .r [.int eM], .r [.int uQ], .r [.bool fO], .r [v16]]) v0 v1 v2 v3 v4 v5 v6 v7 v8 v9 v10 v11 v12 eM uQ fO v16:=by kernel_rfl
def mM:rZ:={fn:=124,entry:=aAD,res:=[],exit:=aAE,body:=(.seq (.region [] [oq 3 (.vL bE 149 (.t 1))] false 0)
 (.seq (.region [] [oq 5 (.mov (.c lI [.int 0]))] false 0)
 (.block 0 (.loop mR nR oR))))}
noncomputable def vW (E:Env) (p0:Row) (p1:Row) (p2:C) (p3:List UInt8) (p4:Int) (p5:Bool) (p6:Int) (p7:Int) (p8:Int) (p9:Int) (wL:Int) (xL:Int) (yL:Int) (mK:Int) (p14:Bool) (p15:C):Option (List PV):=
 (sK E [.int ((((at_ p0 0).vA).toNat:Nat):Int), .int ((((at_ p0 1).vA).toNat:Nat):Int)] (.dp p1) 0 p2 p3 p4 p5 p6 p7 p8 p9 wL xL yL mK p14 p15).bind fun x3=>
 some [.r [gC 0 x3.2], .r [.str (gS 1 x3.2)], .r [.int (gI 2 x3.2)], .r [.bool (gB 3 x3.2)], .r [.int (gI 4 x3.2)], .r [.int (gI 5 x3.2)], .r [.int (gI 6 x3.2)], .r [.int (gI 7 x3.2)], .r [.int (gI 8 x3.2)], .r [.int (gI 9 x3.2)], .r [.int (gI 10 x3.2)], .r [.int (gI 11 x3.2)], .r [.bool (gB 12 x3.2)], .r [gC 13 x3.2]]
theorem aGZ (E:Env) (p0:Row) (p1:Row) (p2:C) (p3:List UInt8) (p4:Int) (p5:Bool) (p6:Int) (p7:Int) (p8:Int) (p9:Int) (wL:Int) (xL:Int) (yL:Int) (mK:Int) (p14:Bool) (p15:C):j9 E mM [.r p0, .r p1, .r [p2], .r [.str p3], .r [.int p4], .r [.bool p5], .r [.int p6], .r [.int p7], .r [.int p8], .r [.int p9], .r [.int wL], .r [.int xL], .r [.int yL], .r [.int mK], .r [.bool p14], .r [p15]]=vW E p0 p1 p2 p3 p4 p5 p6 p7 p8 p9 wL xL yL mK p14 p15:=by kernel_rfl
end Go.Ev
