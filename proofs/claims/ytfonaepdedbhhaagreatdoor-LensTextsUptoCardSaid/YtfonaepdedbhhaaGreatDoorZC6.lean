/-
  A part of the proof: what the functions of the program compute.
-/
import Derived.Test.YtfonaepdedbhhaaGreatDoorZNum
set_option linter.all false
set_option maxRecDepth 100000
namespace Go.Ev
def lQ:Shape:={slots:=[(0, .ptr 0 0),(3, .d (.one (.ref 25))),(4, .whole 2),(74, .d lI),(75, .d lI)],objs:=[.cells false [.sw 1], .uA 5 lU, .arr lU],m:=2}
def mQ:List (mB×Shape):=[(.exit 4,{slots:=[(0, .ptr 0 0),(4, .whole 2)],objs:=[.cells false [.sw 1], .uA 5 lU, .arr lU],m:=2})]
def nQ:zB:=(.seq (.region [] [oq 76 (.dA .lss (.t 75) (.t 74))] false 0)
 (.seq (.cond (.t 76) .skip
 (.exit 4))
 (.seq (.block 5 (.seq (.region [] [oq 77 (.mov (.t 75)),
 oq 5 (.mov (.t 77))] false 0)
 (.region [] [oq 78 (.mov (.t 4)),
 oq 79 (.mov (.t 5)),
 oq 80 (.xA 1 1 25 3 (.t 3)),
 oq 81 (.ld lI 3 (.t 80)),
 oq 82 (.i2i .u64 (.t 81)),
 oq 83 (.mov (.t 5)),
 oq 84 (.tB .mul (.c lI [.int 4]) (.t 83)),
 oq 85 (.tB .sub (.c lI [.int 60]) (.t 84)),
 oq 86 (.shf .shr (.t 82) (.t 85)),
 oq 87 (.tB .and (.t 86) (.c lW [.int 15])),
 oq 88 (.aB2 (.c lS [.str ([48,49,50,51,52,53,54,55,56,57,97,98,99,100,101,102]:List UInt8)]) (.t 87)),
 oq 89 (.iad 5 lU (.t 78) (.t 79)),
 ⟨none, .st lU (.t 89) (.t 88),none,[]⟩] false 0)))
 (.region [] [oq 90 (.tB .add (.t 75) (.c lI [.int 1])),
 oq 75 (.mov (.t 90))] false 0))))
noncomputable def oJ (E:Env) (v0:C) (v1:Int) (v2:Int) (v3:C) (v4:C):Option (Nat×List PV):=E.fix (stepOf E nQ lQ mQ) [.r [v0], .r [.int v1], .r [.int v2], .r [v3], .r [v4]]
noncomputable def pJ (E:Env) (X:C→Int→Int→C→C→Option (Nat×List PV)) (v0:C) (v1:Int) (v2:Int) (v3:C) (v4:C):Option (Nat×List PV):=
 if (decide (v2<v1))=true then
 if v0.jB=true then
 if Go.IntKind.i64.wrap (60 - (Go.IntKind.i64.wrap (4*v2)))<0 then none else if (0:Int)≤(bitsOf .and .u64 ((Go.IntKind.u64.wrap ((at_ v0.cA 1).vA)).fdiv (2^(min ((Go.IntKind.i64.wrap (60 - (Go.IntKind.i64.wrap (4*v2)))).toNat) (Go.IntKind.bits .u64)))) 15)∧(bitsOf .and .u64 ((Go.IntKind.u64.wrap ((at_ v0.cA 1).vA)).fdiv (2^(min ((Go.IntKind.i64.wrap (60 - (Go.IntKind.i64.wrap (4*v2)))).toNat) (Go.IntKind.bits .u64)))) 15)<(([48,49,50,51,52,53,54,55,56,57,97,98,99,100,101,102]:List UInt8).length:Int)then
 if (0:Int)≤v2∧v2<(v4.rows.length:Int)then
 if v2.toNat<v4.rows.length then
 X v0 v1 (Go.IntKind.i64.wrap (v2+1)) v3 (.sl (v4.rows.set v2.toNat [.int ((([48,49,50,51,52,53,54,55,56,57,97,98,99,100,101,102]:List UInt8).getD ((bitsOf .and .u64 ((Go.IntKind.u64.wrap ((at_ v0.cA 1).vA)).fdiv (2^(min ((Go.IntKind.i64.wrap (60 - (Go.IntKind.i64.wrap (4*v2)))).toNat) (Go.IntKind.bits .u64)))) 15).toNat) 0).toNat:Int)]))
 else none
 else none
 else none
 else none
 else
 some (0,[.r [v3], .r [v4]])
theorem aGB (E:Env) (X:List PV→Option (Nat×List PV)) (v0:C) (v1:Int) (v2:Int) (v3:C) (v4:C):stepOf E nQ lQ mQ X [.r [v0], .r [.int v1], .r [.int v2], .r [v3], .r [v4]]=pJ E (fun (v0:C) (v1:Int) (v2:Int) (v3:C) (v4:C)=>X [.r [v0], .r [.int v1], .r [.int v2], .r [v3], .r [v4]]) v0 v1 v2 v3 v4:=by kernel_rfl
def oQ:Shape:={slots:=[(0, .ptr 0 0),(3, .d (.one (.ref 25))),(18, .d (.one (.sl 89))),(19, .d lI),(20, .d lI)],objs:=[.cells false [.sw 1], .uA 5 lU],m:=2}
def pQ:List (mB×Shape):=[(.exit 1,{slots:=[(0, .ptr 0 0)],objs:=[.cells false [.sw 1], .uA 5 lU],m:=2})]
def qQ:zB:=(.seq (.region [] [oq 21 (.dA .lss (.t 20) (.t 19))] false 0)
 (.seq (.cond (.t 21) .skip
 (.exit 1))
 (.seq (.join [(.normal,{slots:=[(0, .ptr 0 0),(3, .d (.one (.ref 25))),(18, .d (.one (.sl 89))),(19, .d lI),(20, .d lI)],objs:=[.cells false [.sw 1], .uA 5 lU],m:=2})] (.block 2 (.seq (.region [] [oq 22 (.iad 89 lA2 (.t 18) (.t 20)),
 oq 23 (.ld lA2 89 (.t 22)),
 oq 7 (.oB 0 lA2 [.str [], .int 0, .int 0, .str [], .fA]),
 ⟨none, .st lA2 (.t 7) (.t 23),none,[]⟩] false 1)
 (.seq (.seq (.region [] [oq 24 (.xA 0 1 25 3 (.t 3)),
 oq 25 (.ld lI 3 (.t 24))] false 0)
 (.join [(.normal,{slots:=[(0, .ptr 0 0),(3, .d (.one (.ref 25))),(7, .ptr 2 0),(18, .d (.one (.sl 89))),(19, .d lI),(20, .d lI)],objs:=[.cells false [.sw 1], .uA 5 lU, .var lA2],m:=2})] (.block 3 (.seq (.seq (.region [] [oq 27 (.dA .eql (.t 25) (.c lI [.int 6])),
 oq 26 (.mov (.t 27))] false 0)
 (.join [(.normal,{slots:=[(0, .ptr 0 0),(3, .d (.one (.ref 25))),(7, .ptr 2 0),(18, .d (.one (.sl 89))),(19, .d lI),(20, .d lI),(25, .d lI),(26, .d lB)],objs:=[.cells false [.sw 1], .uA 5 lU, .var lA2],m:=2})] (.cond (.t 26) .skip
 (.region [] [oq 28 (.dA .eql (.t 25) (.c lI [.int 7])),
 oq 26 (.mov (.t 28))] false 0))))
 (.cond (.t 26) (.region [] [oq 29 (.mov (.t 0)),
 oq 30 (.xA 0 1 89 9 (.t 7)),
 oq 31 (.ld lS 9 (.t 30)),
 oq 32 (.bsl 9 lS 1 [.str []] [(0,(.t 31))]),
 oq 33 (.nB 168 17 (jA) (kA) [0,1] 0 none [(.t 29),(.t 32)])] false 0)
 (.seq (.region [] [oq 35 (.dA .eql (.t 25) (.c lI [.int 9])),
 oq 34 (.mov (.t 35))] false 0)
 (.cond (.t 34) (.region [] [oq 36 (.mov (.t 0)),
 oq 37 (.xA 0 1 89 9 (.t 7)),
 oq 38 (.ld lS 9 (.t 37)),
 oq 39 (.call 35 [lS] [lS] [(.t 38)]),
 oq 40 (.bsl 9 lS 1 [.str []] [(0,(.t 39))]),
 oq 41 (.nB 168 17 (jA) (kA) [0,1] 0 none [(.t 36),(.t 40)])] false 0)
 .skip)))))))
 (.region [] [oq 42 (.mov (.t 0)),
 oq 43 (.xA 1 4 89 25 (.t 7)),
 oq 44 (.ld lH 25 (.t 43)),
 oq 45 (.nB 170 36 (dG) (eG) [0,1] 0 none [(.t 42),(.t 44)])] false 0)))))
 (.region [] [oq 46 (.tB .add (.t 20) (.c lI [.int 1])),
 oq 20 (.mov (.t 46))] false 0))))
noncomputable def qJ (E:Env) (v0:C) (v1:C) (v2:Int) (v3:Int) (v4:C):Option (Nat×List PV):=E.fix (stepOf E qQ oQ pQ) [.r [v0], .r [v1], .r [.int v2], .r [.int v3], .r [v4]]
noncomputable def rJ (E:Env) (X:C→C→Int→Int→C→Option (Nat×List PV)) (v0:C) (v1:C) (v2:Int) (v3:Int) (v4:C):Option (Nat×List PV):=
 if (decide (v3<v2))=true then
 (if (0:Int)≤v3∧v3<(v1.rows.length:Int)then
 if v0.jB=true then
 ((if (((at_ v0.cA 0).vA)==6)=true then
 some (0,[.r [v0], .r [v1], .r [.int v2], .r [.int v3], .r [.int ((at_ v0.cA 0).vA)], .r [.bool (((at_ v0.cA 0).vA)==6)], .r [v4], .r (aA v1.rows v3.toNat)])
 else
 some (0,[.r [v0], .r [v1], .r [.int v2], .r [.int v3], .r [.int ((at_ v0.cA 0).vA)], .r [.bool (((at_ v0.cA 0).vA)==7)], .r [v4], .r (aA v1.rows v3.toNat)])).bind fun x10=>
 if (gB 5 x10.2)=true then
 (E.ic gA [.r [.sl ([[.str (gS 7 x10.2)]]:List Row)], .r [gC 6 x10.2]]).bind fun y11=>
 some (0,[.r [gC 0 x10.2], .r [gC 1 x10.2], .r [.int (gI 2 x10.2)], .r [.int (gI 3 x10.2)], .r [gC 0 y11], .r (gR 7 x10.2)])
 else
 if ((gI 4 x10.2)==9)=true then
 (E.pc aBz [[.str (gS 7 x10.2)]]).bind fun y12=>
 (E.ic gA [.r [.sl ([[.str ((at_ (aA y12 0) 0).mD)]]:List Row)], .r [gC 6 x10.2]]).bind fun pW=>
 some (0,[.r [gC 0 x10.2], .r [gC 1 x10.2], .r [.int (gI 2 x10.2)], .r [.int (gI 3 x10.2)], .r [gC 0 pW], .r (gR 7 x10.2)])
 else
 some (0,[.r [gC 0 x10.2], .r [gC 1 x10.2], .r [.int (gI 2 x10.2)], .r [.int (gI 3 x10.2)], .r [gC 6 x10.2], .r (gR 7 x10.2)])).bind fun nW=>
 (E.ic zE [.r [at_ (gR 5 nW.2) 1,at_ (gR 5 nW.2) 2,at_ (gR 5 nW.2) 3,at_ (gR 5 nW.2) 4], .r [gC 4 nW.2]]).bind fun y15=>
 some (0,[.r [gC 0 nW.2], .r [gC 1 nW.2], .r [.int (gI 2 nW.2)], .r [.int (gI 3 nW.2)], .r [gC 0 y15]])
 else none
 else none).bind fun x16=>
 X (gC 0 x16.2) (gC 1 x16.2) (gI 2 x16.2) (Go.IntKind.i64.wrap ((gI 3 x16.2)+1)) (gC 4 x16.2)
 else
 some (0,[.r [v4]])
theorem aGC (E:Env) (X:List PV→Option (Nat×List PV)) (v0:C) (v1:C) (v2:Int) (v3:Int) (v4:C):stepOf E qQ oQ pQ X [.r [v0], .r [v1], .r [.int v2], .r [.int v3], .r [v4]]=rJ E (fun (v0:C) (v1:C) (v2:Int) (v3:Int) (v4:C)=>X [.r [v0], .r [v1], .r [.int v2], .r [.int v3], .r [v4]]) v0 v1 v2 v3 v4:=by kernel_rfl
def aL:rZ:={fn:=36,entry:=dG,res:=[],exit:=eG,body:=(.seq (.region [] [oq 3 (.vL lH 25 (.t 1))] false 0)
 (.seq (.region [] [oq 8 (.xA 0 1 25 3 (.t 3)),
 oq 9 (.ld lI 3 (.t 8))] false 0)
 (.block 0 (.seq (.region [] [oq 51 (.dA .eql (.t 9) (.c lI [.int 0])),
 oq 50 (.mov (.t 51))] false 0)
 (.cond (.t 50) (.region [] [oq 52 (.mov (.t 0)),
 oq 53 (.bsl 9 lS 1 [.str []] [(0,(.c lS [.str ([117,110,105,116]:List UInt8)]))]),
 oq 54 (.nB 168 17 (jA) (kA) [0,1] 0 none [(.t 52),(.t 53)])] false 0)
 (.seq (.seq (.region [] [oq 56 (.dA .eql (.t 9) (.c lI [.int 1])),
 oq 55 (.mov (.t 56))] false 0)
 (.join [(.normal,{slots:=[(0, .ptr 0 0),(3, .d (.one (.ref 25))),(9, .d lI),(55, .d lB)],objs:=[.cells false [.sw 1], .uA 5 lU],m:=2})] (.cond (.t 55) .skip
 (.seq (.region [] [oq 57 (.dA .eql (.t 9) (.c lI [.int 2])),
 oq 55 (.mov (.t 57))] false 0)
 (.cond (.t 55) .skip
 (.seq (.region [] [oq 58 (.dA .eql (.t 9) (.c lI [.int 4])),
 oq 55 (.mov (.t 58))] false 0)
 (.cond (.t 55) .skip
 (.region [] [oq 59 (.dA .eql (.t 9) (.c lI [.int 11])),
 oq 55 (.mov (.t 59))] false 0))))))))
 (.cond (.t 55) (.region [] [oq 60 (.mov (.t 0)),
 oq 61 (.bld (.agg [.str, .str, .str, .str, .str, .str, .str, .str, .str, .str, .str, .str]) [.str [], .str [], .str [], .str [], .str [], .str [], .str [], .str [], .str [], .str [], .str [], .str []] [(1,1,(.c lS [.str ([98,111,111,108]:List UInt8)])),(2,1,(.c lS [.str ([105,110,116]:List UInt8)])),(4,1,(.c lS [.str ([100,97,121]:List UInt8)])),(11,1,(.c lS [.str ([109,97,114,107]:List UInt8)]))]),
 oq 62 (.xA 0 1 25 3 (.t 3)),
 ⟨some 63, .ld lI 3 (.t 62),none,[2]⟩,
 ⟨some 64, .aSq 12 lS (.t 61) (.t 63),none,[1,2,3]⟩,
 oq 65 (.xA 1 1 25 3 (.t 3)),
 ⟨some 66, .ld lI 3 (.t 65),none,[5]⟩,
 ⟨some 67, .call 20 [lI] [lS] [(.t 66)],none,[5,6]⟩,
 ⟨some 68, .bsl 9 lS 2 [.str []] [(0,(.t 64)),(1,(.t 67))],none,[1,2,3,4,5,6,7]⟩,
 ⟨some 69, .nB 168 17 (jA) (kA) [0,1] 0 none [(.t 60),(.t 68)],none,[0,1,2,3,4,5,6,7,8]⟩] true 0)
 (.seq (.region [] [oq 71 (.dA .eql (.t 9) (.c lI [.int 3])),
 oq 70 (.mov (.t 71))] false 0)
 (.cond (.t 70) (.seq (.region [] [oq 72 (.mk 0 5 lU [.int 0] 1 (.c lI [.int 16]) (.c lI [.int 16])),
 oq 4 (.mov (.t 72))] false 1)
 (.seq (.seq (.region [] [oq 73 (.mov (.t 4)),
 oq 74 (.gE (.t 73)),
 oq 75 (.mov (.c lI [.int 0]))] false 0)
 (.block 4 (.loop lQ mQ nQ)))
 (.region [] [oq 91 (.mov (.t 0)),
 oq 92 (.mov (.t 4)),
 oq 93 (.b2s 5 (.t 92)),
 oq 94 (.bsl 9 lS 2 [.str []] [(0,(.c lS [.str ([102,108,111,97,116]:List UInt8)])),(1,(.t 93))]),
 oq 95 (.nB 168 17 (jA) (kA) [0,1] 0 none [(.t 91),(.t 94)])] false 0)))
 (.seq (.region [] [oq 97 (.dA .eql (.t 9) (.c lI [.int 5])),
 oq 96 (.mov (.t 97))] false 0)
 (.cond (.t 96) (.region [] [oq 98 (.mov (.t 0)),
 oq 99 (.xA 2 1 25 9 (.t 3)),
 oq 100 (.ld lS 9 (.t 99)),
 oq 101 (.call 35 [lS] [lS] [(.t 100)]),
 oq 102 (.bsl 9 lS 2 [.str []] [(0,(.c lS [.str ([116,101,120,116]:List UInt8)])),(1,(.t 101))]),
 oq 103 (.nB 168 17 (jA) (kA) [0,1] 0 none [(.t 98),(.t 102)])] false 0)
 (.seq (.region [] [oq 10 (.mov (.t 0)),
 oq 11 (.bld (.agg [.str, .str, .str, .str, .str, .str, .str, .str, .str, .str]) [.str [], .str [], .str [], .str [], .str [], .str [], .str [], .str [], .str [], .str []] [(6,1,(.c lS [.str ([114,101,99,111,114,100]:List UInt8)])),(7,1,(.c lS [.str ([99,104,111,105,99,101]:List UInt8)])),(8,1,(.c lS [.str ([108,105,115,116]:List UInt8)])),(9,1,(.c lS [.str ([109,97,112]:List UInt8)]))]),
 oq 12 (.xA 0 1 25 3 (.t 3)),
 oq 13 (.ld lI 3 (.t 12)),
 oq 14 (.aSq 10 lS (.t 11) (.t 13)),
 oq 15 (.bsl 9 lS 2 [.str []] [(0,(.t 14)),(1,(.c lS [.str ([40]:List UInt8)]))]),
 oq 16 (.nB 168 17 (jA) (kA) [0,1] 0 none [(.t 10),(.t 15)])] false 0)
 (.seq (.seq (.region [] [oq 17 (.xA 3 1 25 23 (.t 3)),
 oq 18 (.ld (.one (.sl 89)) 23 (.t 17)),
 oq 19 (.gE (.t 18)),
 oq 20 (.mov (.c lI [.int 0]))] false 0)
 (.block 1 (.loop oQ pQ qQ)))
 (.region [] [oq 47 (.mov (.t 0)),
 oq 48 (.bsl 9 lS 1 [.str []] [(0,(.c lS [.str ([41]:List UInt8)]))]),
 oq 49 (.nB 168 17 (jA) (kA) [0,1] 0 none [(.t 47),(.t 48)])] false 0))))))))))))))}
noncomputable def dV (E:Env) (p0:Row) (p1:C):Option (List PV):=
 if (((at_ p0 0).vA)==0)=true then
 (E.ic gA [.r [.sl ([[.str ([117,110,105,116]:List UInt8)]]:List Row)], .r [p1]]).bind fun y1=>
 some [.r [gC 0 y1]]
 else
 (if (((at_ p0 0).vA)==1)=true then
 some (0,[.r [.dp p0], .r [.int ((at_ p0 0).vA)], .r [.bool (((at_ p0 0).vA)==1)], .r [p1]])
 else
 if (((at_ p0 0).vA)==2)=true then
 some (0,[.r [.dp p0], .r [.int ((at_ p0 0).vA)], .r [.bool (((at_ p0 0).vA)==2)], .r [p1]])
 else
 if (((at_ p0 0).vA)==4)=true then
 some (0,[.r [.dp p0], .r [.int ((at_ p0 0).vA)], .r [.bool (((at_ p0 0).vA)==4)], .r [p1]])
 else
 some (0,[.r [.dp p0], .r [.int ((at_ p0 0).vA)], .r [.bool (((at_ p0 0).vA)==11)], .r [p1]])).bind fun x2=>
 if (gB 2 x2.2)=true then
 if (gC 0 x2.2).jB=true then
 if (0:Int)≤((at_ ((gC 0 x2.2).cA) 0).vA)∧((at_ ((gC 0 x2.2).cA) 0).vA)<(12:Int)then
 if (gC 0 x2.2).jB=true then
 (E.pc qD [[.int ((at_ ((gC 0 x2.2).cA) 1).vA)]]).bind fun y3=>
 (E.ic gA [.r [.sl ([[.str ((at_ [.str [], .str ([98,111,111,108]:List UInt8), .str ([105,110,116]:List UInt8), .str [], .str ([100,97,121]:List UInt8), .str [], .str [], .str [], .str [], .str [], .str [], .str ([109,97,114,107]:List UInt8)] ((((at_ ((gC 0 x2.2).cA) 0).vA).toNat)*1)).mD)],[.str ((at_ (aA y3 0) 0).mD)]]:List Row)], .r [gC 3 x2.2]]).bind fun y4=>
 some [.r [gC 0 y4]]
 else none
 else none
 else none
 else
 if ((gI 1 x2.2)==3)=true then
 if (0:Int)≤16∧16≤16∧16*1≤140737488355328∧16≤1099511627776 then
 (oJ E (gC 0 x2.2) ((List.replicate 16 ([.int 0]:Row)).length:Int) 0 (gC 3 x2.2) (.sl (List.replicate 16 ([.int 0]:Row)))).bind fun x5=>
 (E.ic gA [.r [.sl ([[.str ([102,108,111,97,116]:List UInt8)],[.str (bytesOf ((gC 1 x5.2).rows))]]:List Row)], .r [gC 0 x5.2]]).bind fun y6=>
 some [.r [gC 0 y6]]
 else none
 else
 if ((gI 1 x2.2)==5)=true then
 if (gC 0 x2.2).jB=true then
 (E.pc aBz [[.str ((at_ ((gC 0 x2.2).cA) 2).mD)]]).bind fun y7=>
 (E.ic gA [.r [.sl ([[.str ([116,101,120,116]:List UInt8)],[.str ((at_ (aA y7 0) 0).mD)]]:List Row)], .r [gC 3 x2.2]]).bind fun y8=>
 some [.r [gC 0 y8]]
 else none
 else
 if (gC 0 x2.2).jB=true then
 if (0:Int)≤((at_ ((gC 0 x2.2).cA) 0).vA)∧((at_ ((gC 0 x2.2).cA) 0).vA)<(10:Int)then
 (E.ic gA [.r [.sl ([[.str ((at_ [.str [], .str [], .str [], .str [], .str [], .str [], .str ([114,101,99,111,114,100]:List UInt8), .str ([99,104,111,105,99,101]:List UInt8), .str ([108,105,115,116]:List UInt8), .str ([109,97,112]:List UInt8)] ((((at_ ((gC 0 x2.2).cA) 0).vA).toNat)*1)).mD)],[.str ([40]:List UInt8)]]:List Row)], .r [gC 3 x2.2]]).bind fun y9=>
 if (gC 0 x2.2).jB=true then
 (qJ E (gC 0 x2.2) (at_ ((gC 0 x2.2).cA) 3) (((at_ ((gC 0 x2.2).cA) 3).rows).length:Int) 0 (gC 0 y9)).bind fun x17=>
 (E.ic gA [.r [.sl ([[.str ([41]:List UInt8)]]:List Row)], .r [gC 0 x17.2]]).bind fun y18=>
 some [.r [gC 0 y18]]
 else none
 else none
 else none
theorem aGD (E:Env) (p0:Row) (p1:C):j9 E aL [.r p0, .r [p1]]=dV E p0 p1:=by kernel_rfl
def dS:Shape:={slots:=[(0, .ptr 0 0),(4, .d (.one (.ref 29))),(5, .d (.one (.ref 49))),(18, .d (.one (.sl 9))),(19, .d lI),(20, .d lI)],objs:=[.cells false [.sw 1], .uA 5 lU],m:=2}
def eS:List (mB×Shape):=[(.exit 0,{slots:=[(0, .ptr 0 0),(4, .d (.one (.ref 29))),(5, .d (.one (.ref 49)))],objs:=[.cells false [.sw 1], .uA 5 lU],m:=2})]
def fS:zB:=(.seq (.region [] [oq 21 (.dA .lss (.t 20) (.t 19))] false 0)
 (.seq (.cond (.t 21) .skip
 (.exit 0))
 (.seq (.block 1 (.seq (.region [] [oq 22 (.iad 9 lS (.t 18) (.t 20)),
 oq 23 (.ld lS 9 (.t 22)),
 oq 7 (.mov (.t 23))] false 0)
 (.seq (.region [] [oq 24 (.xA 0 1 29 3 (.t 4)),
 oq 25 (.ld lI 3 (.t 24)),
 oq 26 (.dA .eql (.t 25) (.c lI [.int 9]))] false 0)
 (.cond (.t 26) (.region [] [oq 27 (.mov (.t 0)),
 oq 28 (.mov (.t 7)),
 oq 29 (.call 35 [lS] [lS] [(.t 28)]),
 oq 30 (.bsl 9 lS 1 [.str []] [(0,(.t 29))]),
 oq 31 (.nB 168 17 (jA) (kA) [0,1] 0 none [(.t 27),(.t 30)])] false 0)
 (.region [] [oq 32 (.mov (.t 0)),
 oq 33 (.mov (.t 7)),
 oq 34 (.bsl 9 lS 1 [.str []] [(0,(.t 33))]),
 oq 35 (.nB 168 17 (jA) (kA) [0,1] 0 none [(.t 32),(.t 34)])] false 0)))))
 (.region [] [oq 36 (.tB .add (.t 20) (.c lI [.int 1])),
 oq 20 (.mov (.t 36))] false 0))))
noncomputable def vG (E:Env) (v0:C) (v1:C) (v2:C) (v3:Int) (v4:Int) (v5:C):Option (Nat×List PV):=E.fix (stepOf E fS dS eS) [.r [v0], .r [v1], .r [v2], .r [.int v3], .r [.int v4], .r [v5]]
noncomputable def bL (E:Env) (X:C→C→C→Int→Int→C→Option (Nat×List PV)) (v0:C) (v1:C) (v2:C) (v3:Int) (v4:Int) (v5:C):Option (Nat×List PV):=
 if (decide (v4<v3))=true then
 if (0:Int)≤v4∧v4<(v2.rows.length:Int)then
 if v0.jB=true then
 if (((at_ v0.cA 0).vA)==9)=true then
 (E.pc aBz [[.str ((at_ (aA v2.rows v4.toNat) 0).mD)]]).bind fun y2=>
 (E.ic gA [.r [.sl ([[.str ((at_ (aA y2 0) 0).mD)]]:List Row)], .r [v5]]).bind fun y3=>
 X v0 v1 v2 v3 (Go.IntKind.i64.wrap (v4+1)) (gC 0 y3)
 else
 (E.ic gA [.r [.sl ([[.str ((at_ (aA v2.rows v4.toNat) 0).mD)]]:List Row)], .r [v5]]).bind fun y4=>
 X v0 v1 v2 v3 (Go.IntKind.i64.wrap (v4+1)) (gC 0 y4)
 else none
 else none
 else
 some (0,[.r [v0], .r [v1], .r [v5]])
theorem aG7 (E:Env) (X:List PV→Option (Nat×List PV)) (v0:C) (v1:C) (v2:C) (v3:Int) (v4:Int) (v5:C):stepOf E fS dS eS X [.r [v0], .r [v1], .r [v2], .r [.int v3], .r [.int v4], .r [v5]]=bL E (fun (v0:C) (v1:C) (v2:C) (v3:Int) (v4:Int) (v5:C)=>X [.r [v0], .r [v1], .r [v2], .r [.int v3], .r [.int v4], .r [v5]]) v0 v1 v2 v3 v4 v5:=by kernel_rfl
def iS:Shape:={slots:=[(0, .ptr 0 0),(4, .d (.one (.ref 29))),(5, .d (.one (.ref 49))),(52, .d (.one (.sl 68))),(53, .d lI),(54, .d lI)],objs:=[.cells false [.sw 1], .uA 5 lU],m:=2}
def jS:List (mB×Shape):=[(.exit 2,{slots:=[(0, .ptr 0 0),(4, .d (.one (.ref 29))),(5, .d (.one (.ref 49)))],objs:=[.cells false [.sw 1], .uA 5 lU],m:=2})]
def kS:zB:=(.seq (.region [] [oq 55 (.dA .lss (.t 54) (.t 53))] false 0)
 (.seq (.cond (.t 55) .skip
 (.exit 2))
 (.seq (.block 3 (.seq (.region [] [oq 56 (.iad 68 lA8 (.t 52) (.t 54)),
 oq 57 (.ld lA8 68 (.t 56)),
 oq 9 (.oB 0 lA8 [.int 0, .int 0, .str [], .fA, .int 0, .int 0, .str [], .fA]),
 ⟨none, .st lA8 (.t 9) (.t 57),none,[]⟩] false 1)
 (.seq (.region [] [oq 58 (.mov (.t 0)),
 oq 59 (.qF 2 68 25 lH (.t 9) (.c lI [.int 0])),
 oq 60 (.ld lH 25 (.t 59)),
 oq 61 (.nB 170 36 (dG) (eG) [0,1] 0 none [(.t 58),(.t 60)])] false 0)
 (.region [] [oq 62 (.mov (.t 0)),
 oq 63 (.qF 2 68 25 lH (.t 9) (.c lI [.int 1])),
 oq 64 (.ld lH 25 (.t 63)),
 oq 65 (.nB 170 36 (dG) (eG) [0,1] 0 none [(.t 62),(.t 64)])] false 0))))
 (.region [] [oq 66 (.tB .add (.t 54) (.c lI [.int 1])),
 oq 54 (.mov (.t 66))] false 0))))
noncomputable def cL (E:Env) (v0:C) (v1:C) (v2:C) (v3:Int) (v4:Int) (v5:C):Option (Nat×List PV):=E.fix (stepOf E kS iS jS) [.r [v0], .r [v1], .r [v2], .r [.int v3], .r [.int v4], .r [v5]]
noncomputable def dL (E:Env) (X:C→C→C→Int→Int→C→Option (Nat×List PV)) (v0:C) (v1:C) (v2:C) (v3:Int) (v4:Int) (v5:C):Option (Nat×List PV):=
 if (decide (v4<v3))=true then
 if (0:Int)≤v4∧v4<(v2.rows.length:Int)then
 (E.ic zE [.r [at_ (aA v2.rows v4.toNat) 0,at_ (aA v2.rows v4.toNat) 1,at_ (aA v2.rows v4.toNat) 2,at_ (aA v2.rows v4.toNat) 3], .r [v5]]).bind fun y11=>
 (E.ic zE [.r [at_ (aA v2.rows v4.toNat) 4,at_ (aA v2.rows v4.toNat) 5,at_ (aA v2.rows v4.toNat) 6,at_ (aA v2.rows v4.toNat) 7], .r [gC 0 y11]]).bind fun y12=>
 X v0 v1 v2 v3 (Go.IntKind.i64.wrap (v4+1)) (gC 0 y12)
 else none
 else
 some (0,[.r [v0], .r [v1], .r [v5]])
theorem aG8 (E:Env) (X:List PV→Option (Nat×List PV)) (v0:C) (v1:C) (v2:C) (v3:Int) (v4:Int) (v5:C):stepOf E kS iS jS X [.r [v0], .r [v1], .r [v2], .r [.int v3], .r [.int v4], .r [v5]]=dL E (fun (v0:C) (v1:C) (v2:C) (v3:Int) (v4:Int) (v5:C)=>X [.r [v0], .r [v1], .r [v2], .r [.int v3], .r [.int v4], .r [v5]]) v0 v1 v2 v3 v4 v5:=by kernel_rfl
def mS:Shape:={slots:=[(0, .ptr 0 0),(77, .d (.one (.sl 29))),(78, .d lI),(79, .d lI)],objs:=[.cells false [.sw 1], .uA 5 lU],m:=2}
def nS:List (mB×Shape):=[(.exit 4,{slots:=[(0, .ptr 0 0)],objs:=[.cells false [.sw 1], .uA 5 lU],m:=2})]
def oS:zB:=(.seq (.region [] [oq 80 (.dA .lss (.t 79) (.t 78))] false 0)
 (.seq (.cond (.t 80) .skip
 (.exit 4))
 (.seq (.block 5 (.seq (.region [] [oq 81 (.iad 29 fG (.t 77) (.t 79)),
 oq 82 (.ld fG 29 (.t 81)),
 oq 11 (.oB 0 fG [.int 0, .str [], .str [], .fA, .int 0, .int 0, .int 0, .int 0, .int 0, .int 0, .str [], .fA, .fA, .fA]),
 ⟨none, .st fG (.t 11) (.t 82),none,[]⟩] false 1)
 (.region [] [oq 83 (.mov (.t 0)),
 oq 84 (.ld fG 29 (.t 11)),
 oq 85 (.nB 167 10 (pS) (qS) [0,1] 0 none [(.t 83),(.t 84)])] false 0)))
 (.region [] [oq 86 (.tB .add (.t 79) (.c lI [.int 1])),
 oq 79 (.mov (.t 86))] false 0))))
noncomputable def eL (E:Env) (v0:C) (v1:Int) (v2:Int) (v3:C):Option (Nat×List PV):=E.fix (stepOf E oS mS nS) [.r [v0], .r [.int v1], .r [.int v2], .r [v3]]
noncomputable def fL (E:Env) (X:C→Int→Int→C→Option (Nat×List PV)) (v0:C) (v1:Int) (v2:Int) (v3:C):Option (Nat×List PV):=
 if (decide (v2<v1))=true then
 if (0:Int)≤v2∧v2<(v0.rows.length:Int)then
 (E.ic vM [.r (aA v0.rows v2.toNat), .r [v3]]).bind fun y17=>
 X v0 v1 (Go.IntKind.i64.wrap (v2+1)) (gC 0 y17)
 else none
 else
 some (0,[.r [v3]])
theorem aG9 (E:Env) (X:List PV→Option (Nat×List PV)) (v0:C) (v1:Int) (v2:Int) (v3:C):stepOf E oS mS nS X [.r [v0], .r [.int v1], .r [.int v2], .r [v3]]=fL E (fun (v0:C) (v1:Int) (v2:Int) (v3:C)=>X [.r [v0], .r [.int v1], .r [.int v2], .r [v3]]) v0 v1 v2 v3:=by kernel_rfl
def wM:rZ:={fn:=21,entry:=aAI,res:=[],exit:=aAJ,body:=(.seq (.region [] [oq 4 (.vL fG 29 (.t 1)),
 oq 5 (.vL lA1 49 (.t 2))] false 0)
 (.seq (.seq (.region [] [oq 12 (.xA 2 1 49 4 (.t 5)),
 oq 13 (.ld lB 4 (.t 12))] false 0)
 (.join [(.normal,{slots:=[(0, .ptr 0 0),(4, .d (.one (.ref 29))),(5, .d (.one (.ref 49)))],objs:=[.cells false [.sw 1], .uA 5 lU],m:=2})] (.cond (.t 13) (.seq (.region [] [oq 14 (.mov (.t 0)),
 oq 15 (.bsl 9 lS 1 [.str []] [(0,(.c lS [.str ([40]:List UInt8)]))]),
 oq 16 (.nB 168 17 (jA) (kA) [0,1] 0 none [(.t 14),(.t 15)])] false 0)
 (.seq (.seq (.region [] [oq 17 (.xA 3 1 29 22 (.t 4)),
 oq 18 (.ld (.one (.sl 9)) 22 (.t 17)),
 oq 19 (.gE (.t 18)),
 oq 20 (.mov (.c lI [.int 0]))] false 0)
 (.block 0 (.loop dS eS fS)))
 (.region [] [oq 37 (.mov (.t 0)),
 oq 38 (.bsl 9 lS 1 [.str []] [(0,(.c lS [.str ([41]:List UInt8)]))]),
 oq 39 (.nB 168 17 (jA) (kA) [0,1] 0 none [(.t 37),(.t 38)])] false 0)))
 .skip)))
 (.seq (.seq (.region [] [oq 40 (.xA 6 1 49 4 (.t 5)),
 oq 41 (.ld lB 4 (.t 40))] false 0)
 (.join [(.normal,{slots:=[(0, .ptr 0 0),(4, .d (.one (.ref 29))),(5, .d (.one (.ref 49)))],objs:=[.cells false [.sw 1], .uA 5 lU],m:=2})] (.cond (.t 41) (.region [] [oq 42 (.mov (.t 0)),
 oq 43 (.xA 8 4 29 25 (.t 4)),
 oq 44 (.ld lH 25 (.t 43)),
 oq 45 (.nB 170 36 (dG) (eG) [0,1] 0 none [(.t 42),(.t 44)])] false 0)
 .skip)))
 (.seq (.seq (.region [] [oq 46 (.xA 7 1 49 4 (.t 5)),
 oq 47 (.ld lB 4 (.t 46))] false 0)
 (.join [(.normal,{slots:=[(0, .ptr 0 0),(4, .d (.one (.ref 29))),(5, .d (.one (.ref 49)))],objs:=[.cells false [.sw 1], .uA 5 lU],m:=2})] (.cond (.t 47) (.seq (.region [] [oq 48 (.mov (.t 0)),
 oq 49 (.bsl 9 lS 1 [.str []] [(0,(.c lS [.str ([40]:List UInt8)]))]),
 oq 50 (.nB 168 17 (jA) (kA) [0,1] 0 none [(.t 48),(.t 49)])] false 0)
 (.seq (.seq (.region [] [oq 51 (.xA 12 1 29 26 (.t 4)),
 oq 52 (.ld (.one (.sl 68)) 26 (.t 51)),
 oq 53 (.gE (.t 52)),
 oq 54 (.mov (.c lI [.int 0]))] false 0)
 (.block 2 (.loop iS jS kS)))
 (.region [] [oq 67 (.mov (.t 0)),
 oq 68 (.bsl 9 lS 1 [.str []] [(0,(.c lS [.str ([41]:List UInt8)]))]),
 oq 69 (.nB 168 17 (jA) (kA) [0,1] 0 none [(.t 67),(.t 68)])] false 0)))
 .skip)))
 (.seq (.region [] [oq 70 (.xA 8 1 49 3 (.t 5)),
 oq 71 (.ld lI 3 (.t 70)),
 oq 72 (.dA .neq (.t 71) (.c lI [.int 0]))] false 0)
 (.cond (.t 72) (.seq (.region [] [oq 73 (.mov (.t 0)),
 oq 74 (.bsl 9 lS 1 [.str []] [(0,(.c lS [.str ([40]:List UInt8)]))]),
 oq 75 (.nB 168 17 (jA) (kA) [0,1] 0 none [(.t 73),(.t 74)])] false 0)
 (.seq (.seq (.region [] [oq 76 (.xA 13 1 29 27 (.t 4)),
 oq 77 (.ld (.one (.sl 29)) 27 (.t 76)),
 oq 78 (.gE (.t 77)),
 oq 79 (.mov (.c lI [.int 0]))] false 0)
 (.block 4 (.loop mS nS oS)))
 (.region [] [oq 87 (.mov (.t 0)),
 oq 88 (.bsl 9 lS 1 [.str []] [(0,(.c lS [.str ([41]:List UInt8)]))]),
 oq 89 (.nB 168 17 (jA) (kA) [0,1] 0 none [(.t 87),(.t 88)])] false 0)))
 .skip))))))}
noncomputable def eX (E:Env) (p0:Row) (p1:Row) (p2:C):Option (List PV):=
 (if ((at_ p1 2).lK)=true then
 (E.ic gA [.r [.sl ([[.str ([40]:List UInt8)]]:List Row)], .r [p2]]).bind fun y1=>
 (vG E (.dp p0) (.dp p1) (at_ p0 3) (((at_ p0 3).rows).length:Int) 0 (gC 0 y1)).bind fun x5=>
 (E.ic gA [.r [.sl ([[.str ([41]:List UInt8)]]:List Row)], .r [gC 2 x5.2]]).bind fun y6=>
 some (0,[.r [gC 0 x5.2], .r [gC 1 x5.2], .r [gC 0 y6]])
 else
 some (0,[.r [.dp p0], .r [.dp p1], .r [p2]])).bind fun x7=>
 if (gC 1 x7.2).jB=true then
 (if ((at_ ((gC 1 x7.2).cA) 6).lK)=true then
 if (gC 0 x7.2).jB=true then
 (E.ic zE [.r [at_ ((gC 0 x7.2).cA) 8,at_ ((gC 0 x7.2).cA) 9,at_ ((gC 0 x7.2).cA) 10,at_ ((gC 0 x7.2).cA) 11], .r [gC 2 x7.2]]).bind fun y8=>
 some (0,[.r [gC 0 x7.2], .r [gC 1 x7.2], .r [gC 0 y8]])
 else none
 else
 some (0,[.r [gC 0 x7.2], .r [gC 1 x7.2], .r [gC 2 x7.2]])).bind fun x9=>
 if (gC 1 x9.2).jB=true then
 (if ((at_ ((gC 1 x9.2).cA) 7).lK)=true then
 (E.ic gA [.r [.sl ([[.str ([40]:List UInt8)]]:List Row)], .r [gC 2 x9.2]]).bind fun y10=>
 if (gC 0 x9.2).jB=true then
 (cL E (gC 0 x9.2) (gC 1 x9.2) (at_ ((gC 0 x9.2).cA) 12) (((at_ ((gC 0 x9.2).cA) 12).rows).length:Int) 0 (gC 0 y10)).bind fun x13=>
 (E.ic gA [.r [.sl ([[.str ([41]:List UInt8)]]:List Row)], .r [gC 2 x13.2]]).bind fun y14=>
 some (0,[.r [gC 0 x13.2], .r [gC 1 x13.2], .r [gC 0 y14]])
 else none
 else
 some (0,[.r [gC 0 x9.2], .r [gC 1 x9.2], .r [gC 2 x9.2]])).bind fun x15=>
 if (gC 1 x15.2).jB=true then
 if (((at_ ((gC 1 x15.2).cA) 8).vA) !=0)=true then
 (E.ic gA [.r [.sl ([[.str ([40]:List UInt8)]]:List Row)], .r [gC 2 x15.2]]).bind fun y16=>
 if (gC 0 x15.2).jB=true then
 (eL E (at_ ((gC 0 x15.2).cA) 13) (((at_ ((gC 0 x15.2).cA) 13).rows).length:Int) 0 (gC 0 y16)).bind fun qK=>
 (E.ic gA [.r [.sl ([[.str ([41]:List UInt8)]]:List Row)], .r [gC 0 qK.2]]).bind fun y19=>
 some [.r [gC 0 y19]]
 else none
 else
 some [.r [gC 2 x15.2]]
 else none
 else none
 else none
theorem aHa (E:Env) (p0:Row) (p1:Row) (p2:C):j9 E wM [.r p0, .r p1, .r [p2]]=eX E p0 p1 p2:=by kernel_rfl
def xM:rZ:={fn:=10,entry:=pS,res:=[],exit:=qS,body:=(.seq (.region [] [oq 3 (.vL fG 29 (.t 1))] false 0)
 (.seq (.region [] [oq 5 (.mov (.t 0)),
 oq 6 (.xA 0 1 29 3 (.t 3)),
 oq 7 (.ld lI 3 (.t 6)),
 oq 8 (.call 18 [lI] [lS] [(.t 7)]),
 oq 9 (.bsl 9 lS 1 [.str []] [(0,(.t 8))]),
 oq 10 (.nB 168 17 (jA) (kA) [0,1] 0 none [(.t 5),(.t 9)])] false 0)
 (.seq (.region [] [oq 11 (.xA 0 1 29 3 (.t 3)),
 oq 12 (.ld lI 3 (.t 11)),
 oq 13 (.call 19 [lI] [lA1] [(.t 12)]),
 oq 4 (.oB 0 lA1 [.bool false, .bool false, .bool false, .bool false, .bool false, .bool false, .bool false, .bool false, .int 0]),
 ⟨none, .st lA1 (.t 4) (.t 13),none,[]⟩] false 1)
 (.seq (.seq (.region [] [oq 14 (.xA 0 1 49 4 (.t 4)),
 oq 15 (.ld lB 4 (.t 14))] false 0)
 (.join [(.normal,{slots:=[(0, .ptr 0 0),(3, .d (.one (.ref 29))),(4, .ptr 2 0)],objs:=[.cells false [.sw 1], .uA 5 lU, .var lA1],m:=2})] (.cond (.t 15) (.seq (.region [] [oq 16 (.xA 1 1 29 9 (.t 3)),
 oq 17 (.ld lS 9 (.t 16)),
 oq 18 (.aEK .eql (.t 17) (.c lS [.str ([]:List UInt8)]))] false 0)
 (.cond (.t 18) (.region [] [oq 19 (.mov (.t 0)),
 oq 20 (.bsl 9 lS 1 [.str []] [(0,(.c lS [.str ([45]:List UInt8)]))]),
 oq 21 (.nB 168 17 (jA) (kA) [0,1] 0 none [(.t 19),(.t 20)])] false 0)
 (.region [] [oq 22 (.mov (.t 0)),
 oq 23 (.xA 1 1 29 9 (.t 3)),
 oq 24 (.ld lS 9 (.t 23)),
 oq 25 (.bsl 9 lS 1 [.str []] [(0,(.t 24))]),
 oq 26 (.nB 168 17 (jA) (kA) [0,1] 0 none [(.t 22),(.t 25)])] false 0)))
 .skip)))
 (.seq (.seq (.region [] [oq 27 (.xA 1 1 49 4 (.t 4)),
 oq 28 (.ld lB 4 (.t 27))] false 0)
 (.join [(.normal,{slots:=[(0, .ptr 0 0),(3, .d (.one (.ref 29))),(4, .ptr 2 0)],objs:=[.cells false [.sw 1], .uA 5 lU, .var lA1],m:=2})] (.cond (.t 28) (.region [] [oq 29 (.mov (.t 0)),
 oq 30 (.xA 2 1 29 9 (.t 3)),
 oq 31 (.ld lS 9 (.t 30)),
 oq 32 (.bsl 9 lS 1 [.str []] [(0,(.t 31))]),
 oq 33 (.nB 168 17 (jA) (kA) [0,1] 0 none [(.t 29),(.t 32)])] false 0)
 .skip)))
 (.seq (.seq (.region [] [oq 34 (.xA 3 1 49 4 (.t 4)),
 oq 35 (.ld lB 4 (.t 34))] false 0)
 (.join [(.normal,{slots:=[(0, .ptr 0 0),(3, .d (.one (.ref 29))),(4, .ptr 2 0)],objs:=[.cells false [.sw 1], .uA 5 lU, .var lA1],m:=2})] (.cond (.t 35) (.region [] [oq 36 (.mov (.t 0)),
 oq 37 (.xA 4 1 29 3 (.t 3)),
 oq 38 (.ld lI 3 (.t 37)),
 oq 39 (.call 20 [lI] [lS] [(.t 38)]),
 oq 40 (.bsl 9 lS 1 [.str []] [(0,(.t 39))]),
 oq 41 (.nB 168 17 (jA) (kA) [0,1] 0 none [(.t 36),(.t 40)])] false 0)
 .skip)))
 (.seq (.seq (.region [] [oq 42 (.xA 4 1 49 4 (.t 4)),
 oq 43 (.ld lB 4 (.t 42))] false 0)
 (.join [(.normal,{slots:=[(0, .ptr 0 0),(3, .d (.one (.ref 29))),(4, .ptr 2 0)],objs:=[.cells false [.sw 1], .uA 5 lU, .var lA1],m:=2})] (.cond (.t 43) (.region [] [oq 44 (.mov (.t 0)),
 oq 45 (.xA 5 1 29 3 (.t 3)),
 ⟨some 46, .ld lI 3 (.t 45),none,[1]⟩,
 ⟨some 47, .call 20 [lI] [lS] [(.t 46)],none,[1,2]⟩,
 oq 48 (.xA 6 1 29 3 (.t 3)),
 ⟨some 49, .ld lI 3 (.t 48),none,[4]⟩,
 ⟨some 50, .call 20 [lI] [lS] [(.t 49)],none,[1,2,3,4,5]⟩,
 ⟨some 51, .bsl 9 lS 2 [.str []] [(0,(.t 47)),(1,(.t 50))],none,[1,2,3,4,5,6]⟩,
 ⟨some 52, .nB 168 17 (jA) (kA) [0,1] 0 none [(.t 44),(.t 51)],none,[0,1,2,3,4,5,6,7]⟩] true 0)
 .skip)))
 (.seq (.seq (.region [] [oq 53 (.xA 5 1 49 4 (.t 4)),
 oq 54 (.ld lB 4 (.t 53))] false 0)
 (.cond (.t 54) (.region [] [oq 55 (.mov (.t 0)),
 oq 56 (.xA 7 1 29 5 (.t 3)),
 oq 57 (.ld lU 5 (.t 56)),
 oq 58 (.i2i .i64 (.t 57)),
 oq 59 (.call 20 [lI] [lS] [(.t 58)]),
 oq 60 (.bsl 9 lS 1 [.str []] [(0,(.t 59))]),
 oq 61 (.nB 168 17 (jA) (kA) [0,1] 0 none [(.t 55),(.t 60)])] false 0)
 .skip))
 (.region [] [oq 62 (.mov (.t 0)),
 oq 63 (.ld fG 29 (.t 3)),
 oq 64 (.ld lA1 49 (.t 4)),
 oq 65 (.nB 169 21 (aAI) (aAJ) [0,1] 0 none [(.t 62),(.t 63),(.t 64)])] false 0)))))))))}
noncomputable def fX (E:Env) (p0:Row) (p1:C):Option (List PV):=
 (E.pc aJA [[.int ((at_ p0 0).vA)]]).bind fun y1=>
 (E.ic gA [.r [.sl ([[.str ((at_ (aA y1 0) 0).mD)]]:List Row)], .r [p1]]).bind fun y2=>
 (E.pc aIp [[.int ((at_ p0 0).vA)]]).bind fun y3=>
 (if ((at_ (aA y3 0) 0).lK)=true then
 if (((at_ p0 1).mD)==([]:List UInt8))=true then
 (E.ic gA [.r [.sl ([[.str ([45]:List UInt8)]]:List Row)], .r [gC 0 y2]]).bind fun y4=>
 some (0,[.r [.dp p0], .r [gC 0 y4], .r (aA y3 0)])
 else
 (E.ic gA [.r [.sl ([[.str ((at_ p0 1).mD)]]:List Row)], .r [gC 0 y2]]).bind fun y5=>
 some (0,[.r [.dp p0], .r [gC 0 y5], .r (aA y3 0)])
 else
 some (0,[.r [.dp p0], .r [gC 0 y2], .r (aA y3 0)])).bind fun x6=>
 (if ((at_ (gR 2 x6.2) 1).lK)=true then
 if (gC 0 x6.2).jB=true then
 (E.ic gA [.r [.sl ([[.str ((at_ ((gC 0 x6.2).cA) 2).mD)]]:List Row)], .r [gC 1 x6.2]]).bind fun y7=>
 some (0,[.r [gC 0 x6.2], .r [gC 0 y7], .r (gR 2 x6.2)])
 else none
 else
 some (0,[.r [gC 0 x6.2], .r [gC 1 x6.2], .r (gR 2 x6.2)])).bind fun x8=>
 (if ((at_ (gR 2 x8.2) 3).lK)=true then
 if (gC 0 x8.2).jB=true then
 (E.pc qD [[.int ((at_ ((gC 0 x8.2).cA) 4).vA)]]).bind fun y9=>
 (E.ic gA [.r [.sl ([[.str ((at_ (aA y9 0) 0).mD)]]:List Row)], .r [gC 1 x8.2]]).bind fun y10=>
 some (0,[.r [gC 0 x8.2], .r [gC 0 y10], .r (gR 2 x8.2)])
 else none
 else
 some (0,[.r [gC 0 x8.2], .r [gC 1 x8.2], .r (gR 2 x8.2)])).bind fun eJ=>
 (if ((at_ (gR 2 eJ.2) 4).lK)=true then
 if (gC 0 eJ.2).jB=true then
 (E.pc qD [[.int ((at_ ((gC 0 eJ.2).cA) 5).vA)]]).bind fun y12=>
 if (gC 0 eJ.2).jB=true then
 (E.pc qD [[.int ((at_ ((gC 0 eJ.2).cA) 6).vA)]]).bind fun pW=>
 (E.ic gA [.r [.sl ([[.str ((at_ (aA y12 0) 0).mD)],[.str ((at_ (aA pW 0) 0).mD)]]:List Row)], .r [gC 1 eJ.2]]).bind fun y14=>
 some (0,[.r [gC 0 eJ.2], .r [gC 0 y14], .r (gR 2 eJ.2)])
 else none
 else none
 else
 some (0,[.r [gC 0 eJ.2], .r [gC 1 eJ.2], .r (gR 2 eJ.2)])).bind fun x15=>
 if ((at_ (gR 2 x15.2) 5).lK)=true then
 if (gC 0 x15.2).jB=true then
 (E.pc qD [[.int (Go.IntKind.i64.wrap ((at_ ((gC 0 x15.2).cA) 7).vA))]]).bind fun y16=>
 (E.ic gA [.r [.sl ([[.str ((at_ (aA y16 0) 0).mD)]]:List Row)], .r [gC 1 x15.2]]).bind fun y17=>
 if (gC 0 x15.2).jB=true then
 (E.ic yM [.r ((gC 0 x15.2).cA), .r (gR 2 x15.2), .r [gC 0 y17]]).bind fun y18=>
 some [.r [gC 0 y18]]
 else none
 else none
 else
 if (gC 0 x15.2).jB=true then
 (E.ic yM [.r ((gC 0 x15.2).cA), .r (gR 2 x15.2), .r [gC 1 x15.2]]).bind fun y19=>
 some [.r [gC 0 y19]]
 else none
theorem aHb (E:Env) (p0:Row) (p1:C):j9 E xM [.r p0, .r [p1]]=fX E p0 p1:=by kernel_rfl
def aFK:aD:={ps:=[fG],rs:=[lS,lI],res:=[(false,2,none),(false,3,none)],body:=(.seq (.region [] [oq 1 (.vL fG 29 (.t 0)),
 oq 2 (.mov (.c lS [.str ([]:List UInt8)])),
 oq 3 (.mov (.c lI [.int 0]))] false 0)
 (.seq (.seq (.region [] [oq 6 (.ld fG 29 (.t 1)),
 oq 7 (.call 9 [fG] [lI] [(.t 6)]),
 oq 4 (.mov (.t 7))] false 0)
 (.seq (.region [] [oq 8 (.mov (.t 4)),
 oq 9 (.dA .neq (.t 8) (.c lI [.int 0]))] false 0)
 (.cond (.t 9) (.seq (.region [] [oq 10 (.mov (.t 4)),
 oq 2 (.mov (.c lS [.str ([]:List UInt8)])),
 oq 3 (.mov (.t 10))] false 0)
 .ret)
 .skip)))
 (.seq (.post (.lft 5 (some 0) 5 lU) (.region [] [oq 5 (.aHA 0 [some ((.sl 5), .fA)])] false 1))
 (.seq (.region [] [oq 11 (.ld fG 29 (.t 1)),
 oq 12 (.nB 167 10 (pS) (qS) [0,1] 0 none [(.t 5),(.t 11)])] false 0)
 (.seq (.seq (.region [] [oq 13 (.xA 0 1 40 38 (.t 5)),
 oq 14 (.n3 (.t 13)),
 oq 15 (.gE (.t 14)),
 oq 16 (.dA .gtr (.t 15) (.c lI [.int 4000]))] false 0)
 (.cond (.t 16) (.seq (.region [] [oq 2 (.mov (.c lS [.str ([]:List UInt8)])),
 oq 3 (.mov (.c lI [.int 2]))] false 0)
 .ret)
 .skip))
 (.seq (.region [] [oq 17 (.xA 0 1 40 38 (.t 5)),
 oq 18 (.n3 (.t 17)),
 oq 19 (.b2s 5 (.t 18)),
 oq 2 (.mov (.t 19)),
 oq 3 (.mov (.c lI [.int 0]))] false 0)
 .ret))))))}
noncomputable def aNw (E:Env) (p0:Row):Option (List Row):=
 (E.pc aIv [p0]).bind fun y1=>
 if (((at_ (aA y1 0) 0).vA) !=0)=true then
 some [[.str ([]:List UInt8)],[.int ((at_ (aA y1 0) 0).vA)]]
 else
 (E.ic vM [.r p0, .r [.fA]]).bind fun y2=>
 if (decide ((((gC 0 y2).rows).length:Int)>4000))=true then
 some [[.str ([]:List UInt8)],[.int 2]]
 else
 some [[.str (bytesOf ((gC 0 y2).rows))],[.int 0]]
theorem aS8 (E:Env) (p0:Row):xE E aFK [p0]=aNw E p0:=by kernel_rfl
def aJB:aD:={ps:=[lI],rs:=[lH],res:=[(true,2,none)],body:=(.seq (.region [] [oq 2 (.oB 0 lH [.int 0, .int 0, .str [], .fA])] false 1)
 (.seq (.region [] [oq 3 (.mov (.t 0)),
 oq 4 (.bld lH [.int 0, .int 0, .str [], .fA] [(0,1,(.c lI [.int 2])),(1,1,(.t 3))]),
 ⟨none, .st lH (.t 2) (.t 4),none,[]⟩] false 0)
 .ret))}
def aIS:aD:={ps:=[],rs:=[fG],res:=[(true,0,none)],body:=(.seq (.region [] [oq 0 (.oB 0 fG [.int 0, .str [], .str [], .fA, .int 0, .int 0, .int 0, .int 0, .int 0, .int 0, .str [], .fA, .fA, .fA])] false 1)
 (.seq (.region [] [oq 1 (.call 14 [lI] [lH] [(.c lI [.int 7])]),
 oq 2 (.bld fG [.int 0, .str [], .str [], .fA, .int 0, .int 0, .int 0, .int 0, .int 0, .int 0, .str [], .fA, .fA, .fA] [(0,1,(.c lI [.int 4])),(1,1,(.c lS [.str ([98]:List UInt8)])),(8,4,(.t 1))]),
 ⟨none, .st fG (.t 0) (.t 2),none,[]⟩] false 0)
 .ret))}
def aFL:aD:={ps:=[],rs:=[lB],res:=[(false,0,none)],body:=(.seq (.region [] [oq 0 (.mov (.c lB [.bool false]))] false 0)
 (.seq (.region [] [oq 4 (.call 7 [] [fG] []),
 oq 5 (.call 5 [fG] [lS,lI] [(.t 4)]),
 oq 3 (.mov (.t 5)),
 oq 6 (.ext 0 (.t 3)),
 oq 7 (.ext 1 (.t 3)),
 oq 1 (.mov (.t 6)),
 oq 2 (.mov (.t 7))] false 0)
 (.seq (.region [] [oq 8 (.call 7 [] [fG] []),
 oq 9 (.call 8 [fG] [lI] [(.t 8)]),
 oq 10 (.dA .eql (.t 9) (.c lI [.int 1])),
 oq 11 (.mov (.t 10)),
 ⟨some 12, .call 7 [] [fG] [],some (11,true),[]⟩,
 ⟨some 13, .call 9 [fG] [lI] [(.t 12)],some (11,true),[]⟩,
 ⟨some 14, .dA .eql (.t 13) (.c lI [.int 0]),some (11,true),[]⟩,
 oq 15 (.pick (.t 11) (.t 14) (.c lB [.bool false])),
 oq 16 (.mov (.t 15)),
 ⟨some 17, .bld fG [.int 0, .str [], .str [], .fA, .int 0, .int 0, .int 0, .int 0, .int 0, .int 0, .str [], .fA, .fA, .fA] [(0,1,(.c lI [.int (-1)]))],some (16,true),[]⟩,
 ⟨some 18, .call 9 [fG] [lI] [(.t 17)],some (16,true),[]⟩,
 ⟨some 19, .dA .eql (.t 18) (.c lI [.int 1]),some (16,true),[]⟩,
 oq 20 (.pick (.t 16) (.t 19) (.c lB [.bool false])),
 oq 21 (.mov (.t 20)),
 ⟨some 22, .mov (.t 2),some (21,true),[]⟩,
 ⟨some 23, .dA .eql (.t 22) (.c lI [.int 0]),some (21,true),[]⟩,
 oq 24 (.pick (.t 21) (.t 23) (.c lB [.bool false])),
 oq 25 (.mov (.t 24)),
 ⟨some 26, .mov (.t 1),some (25,true),[]⟩,
 ⟨some 27, .aEK .eql (.t 26) (.c lS [.str ([100,114,111,112,32,98,32,105,110,116,32,55]:List UInt8)]),some (25,true),[]⟩,
 oq 28 (.pick (.t 25) (.t 27) (.c lB [.bool false])),
 oq 0 (.mov (.t 28))] false 0)
 .ret)))}
def aBA:Shape:={slots:=[(3, .sw 0),(9, .d (.one (.sl 29))),(10, .d lI),(11, .d lI)],objs:=[.uA 29 fG]}
def aBB:List (mB×Shape):=[(.exit 0,{slots:=[(3, .sw 0)],objs:=[.uA 29 fG]})]
def aBC:zB:=(.seq (.region [] [oq 12 (.dA .lss (.t 11) (.t 10))] false 0)
 (.seq (.cond (.t 12) .skip
 (.exit 0))
 (.seq (.block 1 (.seq (.region [] [oq 13 (.iad 29 fG (.t 9) (.t 11)),
 oq 14 (.ld fG 29 (.t 13)),
 oq 5 (.oB 0 fG [.int 0, .str [], .str [], .fA, .int 0, .int 0, .int 0, .int 0, .int 0, .int 0, .str [], .fA, .fA, .fA]),
 ⟨none, .st fG (.t 5) (.t 14),none,[]⟩] false 1)
 (.region [] [oq 15 (.mov (.t 3)),
 oq 16 (.ld fG 29 (.t 5)),
 oq 17 (.call 22 [fG] [(.one (.sl 29))] [(.t 16)]),
 oq 18 (.eU 0 29 fG 200 (.t 15) (.t 17)),
 oq 3 (.mov (.t 18))] false 1)))
 (.region [] [oq 19 (.tB .add (.t 11) (.c lI [.int 1])),
 oq 11 (.mov (.t 19))] false 0))))
noncomputable def uV (E:Env) (v0:C) (v1:Int) (v2:Int) (v3:C):Option (Nat×List PV):=E.fix (stepOf E aBC aBA aBB) [.r [v0], .r [.int v1], .r [.int v2], .r [v3]]
noncomputable def vV (E:Env) (X:C→Int→Int→C→Option (Nat×List PV)) (v0:C) (v1:Int) (v2:Int) (v3:C):Option (Nat×List PV):=
 if (decide (v2<v1))=true then
 if (0:Int)≤v2∧v2<(v0.rows.length:Int)then
 (E.pc mN [aA v0.rows v2.toNat]).bind fun y1=>
 if (v3.rows.length+((at_ (aA y1 0) 0).rows).length)*200≤140737488355328 then
 X v0 v1 (Go.IntKind.i64.wrap (v2+1)) (pE v3 ((at_ (aA y1 0) 0).rows))
 else none
 else none
 else
 some (0,[.r [v3]])
theorem aMd (E:Env) (X:List PV→Option (Nat×List PV)) (v0:C) (v1:Int) (v2:Int) (v3:C):stepOf E aBC aBA aBB X [.r [v0], .r [.int v1], .r [.int v2], .r [v3]]=vV E (fun (v0:C) (v1:Int) (v2:Int) (v3:C)=>X [.r [v0], .r [.int v1], .r [.int v2], .r [v3]]) v0 v1 v2 v3:=by kernel_rfl
def gY:aD:={ps:=[fG],rs:=[(.one (.sl 29))],res:=[(false,2,(some fG))],body:=(.seq (.region [] [oq 1 (.vL fG 29 (.t 0)),
 oq 2 (.mov (.c (.one (.sl 29)) [.fA]))] false 0)
 (.seq (.region [] [oq 6 (.ld fG 29 (.t 1)),
 oq 7 (.bslS 0 29 fG 1 [.int 0, .str [], .str [], .fA, .int 0, .int 0, .int 0, .int 0, .int 0, .int 0, .str [], .fA, .fA, .fA] [(0,(.t 6))]),
 oq 3 (.mov (.t 7))] false 1)
 (.seq (.seq (.region [] [oq 8 (.xA 13 1 29 27 (.t 1)),
 oq 9 (.ld (.one (.sl 29)) 27 (.t 8)),
 oq 10 (.gE (.t 9)),
 oq 11 (.mov (.c lI [.int 0]))] false 0)
 (.block 0 (.loop aBA aBB aBC)))
 (.seq (.region [] [oq 20 (.mov (.t 3)),
 oq 2 (.mov (.t 20))] false 0)
 .ret))))}
noncomputable def aE3 (E:Env) (p0:Row):Option (List Row):=
 (uV E (at_ p0 13) (((at_ p0 13).rows).length:Int) 0 (.sl ([p0]:List Row))).bind fun x2=>
 some [[gC 0 x2.2]]
theorem aMe (E:Env) (p0:Row):xE E gY [p0]=aE3 E p0:=by kernel_rfl
def aAk:Shape:={slots:=[(3, .d lI),(8, .d (.one (.sl 29))),(9, .d lI),(10, .d lI)],objs:=[]}
def aAl:List (mB×Shape):=[(.exit 0,{slots:=[(3, .d lI)],objs:=[]})]
def aAm:zB:=(.seq (.region [] [oq 11 (.dA .lss (.t 10) (.t 9))] false 0)
 (.seq (.cond (.t 11) .skip
 (.exit 0))
 (.seq (.block 1 (.seq (.region [] [oq 12 (.iad 29 fG (.t 8) (.t 10)),
 oq 13 (.ld fG 29 (.t 12)),
 oq 5 (.oB 0 fG [.int 0, .str [], .str [], .fA, .int 0, .int 0, .int 0, .int 0, .int 0, .int 0, .str [], .fA, .fA, .fA]),
 ⟨none, .st fG (.t 5) (.t 13),none,[]⟩] false 1)
 (.seq (.region [] [oq 14 (.ld fG 29 (.t 5)),
 oq 15 (.call 23 [fG] [lI] [(.t 14)]),
 oq 6 (.mov (.t 15))] false 0)
 (.seq (.region [] [oq 16 (.mov (.t 6)),
 oq 17 (.mov (.t 3)),
 oq 18 (.dA .gtr (.t 16) (.t 17))] false 0)
 (.cond (.t 18) (.region [] [oq 19 (.mov (.t 6)),
 oq 3 (.mov (.t 19))] false 0)
 .skip)))))
 (.region [] [oq 20 (.tB .add (.t 10) (.c lI [.int 1])),
 oq 10 (.mov (.t 20))] false 0))))
noncomputable def yT (E:Env) (v0:Int) (v1:C) (v2:Int) (v3:Int):Option (Nat×List PV):=E.fix (stepOf E aAm aAk aAl) [.r [.int v0], .r [v1], .r [.int v2], .r [.int v3]]
noncomputable def zT (E:Env) (X:Int→C→Int→Int→Option (Nat×List PV)) (v0:Int) (v1:C) (v2:Int) (v3:Int):Option (Nat×List PV):=
 if (decide (v3<v2))=true then
 if (0:Int)≤v3∧v3<(v1.rows.length:Int)then
 (E.pc gL [aA v1.rows v3.toNat]).bind fun y1=>
 if (decide (((at_ (aA y1 0) 0).vA)>v0))=true then
 X ((at_ (aA y1 0) 0).vA) v1 v2 (Go.IntKind.i64.wrap (v3+1))
 else
 X v0 v1 v2 (Go.IntKind.i64.wrap (v3+1))
 else none
 else
 some (0,[.r [.int v0]])
theorem aLh (E:Env) (X:List PV→Option (Nat×List PV)) (v0:Int) (v1:C) (v2:Int) (v3:Int):stepOf E aAm aAk aAl X [.r [.int v0], .r [v1], .r [.int v2], .r [.int v3]]=zT E (fun (v0:Int) (v1:C) (v2:Int) (v3:Int)=>X [.r [.int v0], .r [v1], .r [.int v2], .r [.int v3]]) v0 v1 v2 v3:=by kernel_rfl
def wV:aD:={ps:=[fG],rs:=[lI],res:=[(false,2,none)],body:=(.seq (.region [] [oq 1 (.vL fG 29 (.t 0)),
 oq 2 (.mov (.c lI [.int 0]))] false 0)
 (.seq (.region [] [oq 3 (.mov (.c lI [.int 0]))] false 0)
 (.seq (.seq (.region [] [oq 7 (.xA 13 1 29 27 (.t 1)),
 oq 8 (.ld (.one (.sl 29)) 27 (.t 7)),
 oq 9 (.gE (.t 8)),
 oq 10 (.mov (.c lI [.int 0]))] false 0)
 (.block 0 (.loop aAk aAl aAm)))
 (.seq (.region [] [oq 21 (.mov (.t 3)),
 oq 22 (.tB .add (.t 21) (.c lI [.int 1])),
 oq 2 (.mov (.t 22))] false 0)
 .ret))))}
noncomputable def aDS (E:Env) (p0:Row):Option (List Row):=
 (yT E 0 (at_ p0 13) (((at_ p0 13).rows).length:Int) 0).bind fun x2=>
 some [[.int (Go.IntKind.i64.wrap ((gI 0 x2.2)+1))]]
theorem aLi (E:Env) (p0:Row):xE E wV [p0]=aDS E p0:=by kernel_rfl
def aMf:Shape:={slots:=[(0, .d lS),(3, .d lI),(4, .d lI),(5, .d lU),(6, .d lI)],objs:=[]}
def aMg:List (mB×Shape):=[(.exit 0,{slots:=[(0, .d lS),(3, .d lI),(5, .d lU)],objs:=[]})]
def aMh:zB:=(.seq (.seq (.region [] [oq 13 (.mov (.t 6)),
 oq 14 (.mov (.t 0)),
 oq 15 (.aB3 (.t 14)),
 oq 16 (.dA .lss (.t 13) (.t 15))] false 0)
 (.cond (.t 16) .skip
 (.exit 0)))
 (.seq (.block 1 (.seq (.region [] [oq 19 (.mov (.t 0)),
 oq 20 (.mov (.t 6)),
 oq 21 (.aB2 (.t 19) (.t 20)),
 oq 7 (.mov (.t 21))] false 0)
 (.seq (.region [] [oq 22 (.mov (.t 5)),
 oq 23 (.mov (.t 7)),
 oq 24 (.tB .or (.t 22) (.t 23)),
 oq 5 (.mov (.t 24))] false 0)
 (.seq (.region [] [oq 25 (.mov (.t 7)),
 oq 26 (.qF 256 101 5 lU (.c (.one (.ref 101)) [.dp tD]) (.t 25)),
 oq 27 (.ld lU 5 (.t 26)),
 oq 28 (.i2i .i64 (.t 27)),
 oq 8 (.mov (.t 28))] false 0)
 (.seq (.region [] [oq 29 (.mov (.t 3)),
 oq 30 (.mov (.t 4)),
 oq 31 (.mov (.t 8)),
 oq 32 (.aW8 (.t 31)),
 oq 33 (.tB .and (.t 30) (.t 32)),
 oq 34 (.tB .add (.t 29) (.t 33)),
 oq 3 (.mov (.t 34))] false 0)
 (.region [] [oq 35 (.mov (.t 8)),
 oq 4 (.mov (.t 35))] false 0))))))
 (.region [] [oq 17 (.mov (.t 6)),
 oq 18 (.tB .add (.t 17) (.c lI [.int 1])),
 oq 6 (.mov (.t 18))] false 0)))
def aMi:Shape:={slots:=[(0, .d lS),(9, .whole 0),(10, .d lI),(12, .d lI)],objs:=[.arr lS]}
def aMj:List (mB×Shape):=[(.exit 2,{slots:=[(0, .d lS),(9, .whole 0),(10, .d lI),(12, .d lI)],objs:=[.arr lS]})]
def aMk:zB:=(.seq (.seq (.region [] [oq 42 (.mov (.t 12)),
 oq 43 (.mov (.t 0)),
 oq 44 (.aB3 (.t 43)),
 oq 45 (.dA .lss (.t 42) (.t 44)),
 oq 46 (.mov (.t 45)),
 ⟨some 47, .mov (.t 0),some (46,true),[]⟩,
 ⟨some 48, .mov (.t 12),some (46,true),[]⟩,
 ⟨some 49, .aB2 (.t 47) (.t 48),some (46,true),[]⟩,
 ⟨some 50, .qF 256 101 5 lU (.c (.one (.ref 101)) [.dp tD]) (.t 49),some (46,true),[]⟩,
 ⟨some 51, .ld lU 5 (.t 50),some (46,true),[]⟩,
 ⟨some 52, .dA .neq (.t 51) (.c lU [.int 0]),some (46,true),[]⟩,
 oq 53 (.pick (.t 46) (.t 52) (.c lB [.bool false]))] false 0)
 (.cond (.t 53) .skip
 (.exit 2)))
 (.block 3 (.region [] [oq 54 (.mov (.t 12)),
 oq 55 (.tB .add (.t 54) (.c lI [.int 1])),
 oq 12 (.mov (.t 55))] false 0)))
def aMl:Shape:={slots:=[(0, .d lS),(9, .whole 0),(10, .d lI),(12, .d lI)],objs:=[.arr lS]}
def aMm:List (mB×Shape):=[(.exit 6,{slots:=[(0, .d lS),(9, .whole 0),(10, .d lI),(12, .d lI)],objs:=[.arr lS]})]
def aMn:zB:=(.seq (.seq (.region [] [oq 80 (.mov (.t 12)),
 oq 81 (.mov (.t 0)),
 oq 82 (.aB3 (.t 81)),
 oq 83 (.dA .lss (.t 80) (.t 82)),
 oq 84 (.mov (.t 83)),
 ⟨some 85, .mov (.t 0),some (84,true),[]⟩,
 ⟨some 86, .mov (.t 12),some (84,true),[]⟩,
 ⟨some 87, .aB2 (.t 85) (.t 86),some (84,true),[]⟩,
 ⟨some 88, .qF 256 101 5 lU (.c (.one (.ref 101)) [.dp tD]) (.t 87),some (84,true),[]⟩,
 ⟨some 89, .ld lU 5 (.t 88),some (84,true),[]⟩,
 ⟨some 90, .dA .neq (.t 89) (.c lU [.int 0]),some (84,true),[]⟩,
 oq 91 (.pick (.t 84) (.t 90) (.c lB [.bool false]))] false 0)
 (.cond (.t 91) .skip
 (.exit 6)))
 (.block 7 (.region [] [oq 92 (.mov (.t 12)),
 oq 93 (.tB .add (.t 92) (.c lI [.int 1])),
 oq 12 (.mov (.t 93))] false 0)))
def aMo:Shape:={slots:=[(0, .d lS),(9, .whole 0),(10, .d lI),(11, .d lI),(12, .d lI)],objs:=[.arr lS]}
def aMp:List (mB×Shape):=[(.exit 4,{slots:=[(0, .d lS),(9, .whole 0),(10, .d lI),(11, .d lI)],objs:=[.arr lS]})]
def aMq:zB:=(.seq (.seq (.region [] [oq 57 (.mov (.t 12)),
 oq 58 (.mov (.t 0)),
 oq 59 (.aB3 (.t 58)),
 oq 60 (.dA .lss (.t 57) (.t 59))] false 0)
 (.cond (.t 60) .skip
 (.exit 4)))
 (.block 5 (.seq (.seq (.region [] [oq 61 (.mov (.t 0)),
 oq 62 (.mov (.t 12)),
 oq 63 (.aB2 (.t 61) (.t 62)),
 oq 64 (.qF 256 101 5 lU (.c (.one (.ref 101)) [.dp tD]) (.t 63)),
 oq 65 (.ld lU 5 (.t 64)),
 oq 66 (.dA .eql (.t 65) (.c lU [.int 0]))] false 0)
 (.cond (.t 66) (.seq (.region [] [oq 67 (.mov (.t 12)),
 oq 68 (.tB .add (.t 67) (.c lI [.int 1])),
 oq 12 (.mov (.t 68))] false 0)
 (.exit 5))
 .skip))
 (.seq (.region [] [oq 69 (.mov (.t 9)),
 oq 70 (.mov (.t 10)),
 oq 71 (.mov (.t 0)),
 oq 72 (.mov (.t 11)),
 oq 73 (.mov (.t 12)),
 oq 74 (.slcS (.t 71) (some (.t 72)) (some (.t 73))),
 oq 75 (.iad 9 lS (.t 69) (.t 70)),
 ⟨none, .st lS (.t 75) (.t 74),none,[]⟩] false 0)
 (.seq (.region [] [oq 76 (.mov (.t 10)),
 oq 77 (.tB .add (.t 76) (.c lI [.int 1])),
 oq 10 (.mov (.t 77))] false 0)
 (.seq (.region [] [oq 78 (.mov (.t 12)),
 oq 79 (.tB .add (.t 78) (.c lI [.int 1])),
 oq 12 (.mov (.t 79))] false 0)
 (.seq (.block 6 (.loop aMl aMm aMn))
 (.region [] [oq 94 (.mov (.t 12)),
 oq 11 (.mov (.t 94))] false 0))))))))
def aHc:aD:={ps:=[lS],rs:=[(.one (.sl 9))],res:=[(false,2,(some lS))],body:=(.seq (.region [] [oq 2 (.mov (.c (.one (.sl 9)) [.fA]))] false 0)
 (.seq (.region [] [oq 3 (.mov (.c lI [.int 0]))] false 0)
 (.seq (.region [] [oq 4 (.mov (.c lI [.int 1]))] false 0)
 (.seq (.region [] [oq 5 (.mov (.c lU [.int 0]))] false 0)
 (.seq (.seq (.region [] [oq 6 (.mov (.c lI [.int 0]))] false 0)
 (.block 0 (.loop aMf aMg aMh)))
 (.seq (.seq (.region [] [oq 36 (.mov (.t 5)),
 oq 37 (.dA .geq (.t 36) (.c lU [.int 128]))] false 0)
 (.cond (.t 37) (.seq (.region [] [oq 38 (.mov (.t 0)),
 oq 39 (.bad),
 oq 2 (.bad)] false 0)
 .ret)
 .skip))
 (.seq (.region [] [oq 40 (.mov (.t 3)),
 oq 41 (.mk 0 9 lS [.str []] 16 (.t 40) (.t 40)),
 oq 9 (.mov (.t 41))] false 1)
 (.seq (.region [] [oq 10 (.mov (.c lI [.int 0]))] false 0)
 (.seq (.region [] [oq 11 (.mov (.c lI [.int 0]))] false 0)
 (.seq (.region [] [oq 12 (.mov (.c lI [.int 0]))] false 0)
 (.seq (.block 2 (.loop aMi aMj aMk))
 (.seq (.region [] [oq 56 (.mov (.t 12)),
 oq 11 (.mov (.t 56))] false 0)
 (.seq (.block 4 (.loop aMo aMp aMq))
 (.seq (.seq (.region [] [oq 95 (.mov (.t 11)),
 oq 96 (.mov (.t 0)),
 oq 97 (.aB3 (.t 96)),
 oq 98 (.dA .lss (.t 95) (.t 97))] false 0)
 (.cond (.t 98) (.region [] [oq 99 (.mov (.t 9)),
 oq 100 (.mov (.t 10)),
 oq 101 (.mov (.t 0)),
 oq 102 (.mov (.t 11)),
 oq 103 (.slcS (.t 101) (some (.t 102)) none),
 oq 104 (.iad 9 lS (.t 99) (.t 100)),
 ⟨none, .st lS (.t 104) (.t 103),none,[]⟩] false 0)
 .skip))
 (.seq (.region [] [oq 105 (.mov (.t 9)),
 oq 2 (.mov (.t 105))] false 0)
 .ret)))))))))))))))}
end Go.Ev
