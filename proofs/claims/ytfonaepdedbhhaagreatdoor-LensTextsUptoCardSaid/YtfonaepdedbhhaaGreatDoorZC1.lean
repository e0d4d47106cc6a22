/-
  A part of the proof: what the functions of the program compute.
-/
import Derived.Test.YtfonaepdedbhhaaGreatDoorZNum
set_option linter.all false
set_option maxRecDepth 100000
namespace Go.Ev
def aGc:Shape:={slots:=[(46, .d (.one (.sl 89))),(47, .d lI),(48, .d lI)],objs:=[]}
def aGd:List (mB×Shape):=[(.exit 1,{slots:=[],objs:=[]}),(.ret,{slots:=[(4, .d lI)],objs:=[]})]
def aGe:zB:=(.seq (.region [] [oq 49 (.dA .lss (.t 48) (.t 47))] false 0)
 (.seq (.cond (.t 49) .skip
 (.exit 1))
 (.seq (.block 2 (.seq (.region [] [oq 50 (.iad 89 lA2 (.t 46) (.t 48)),
 oq 51 (.ld lA2 89 (.t 50)),
 oq 7 (.oB 0 lA2 [.str [], .int 0, .int 0, .str [], .fA]),
 ⟨none, .st lA2 (.t 7) (.t 51),none,[]⟩] false 1)
 (.seq (.region [] [oq 52 (.xA 1 4 89 25 (.t 7)),
 oq 53 (.ld lH 25 (.t 52)),
 oq 54 (.call 57 [lH,lB] [lI] [(.t 53),(.c lB [.bool false])]),
 oq 8 (.mov (.t 54))] false 0)
 (.seq (.region [] [oq 55 (.mov (.t 8)),
 oq 56 (.dA .neq (.t 55) (.c lI [.int 0]))] false 0)
 (.cond (.t 56) (.seq (.region [] [oq 57 (.mov (.t 8)),
 oq 4 (.mov (.t 57))] false 0)
 .ret)
 .skip)))))
 (.region [] [oq 58 (.tB .add (.t 48) (.c lI [.int 1])),
 oq 48 (.mov (.t 58))] false 0))))
noncomputable def aC4 (E:Env) (v0:C) (v1:Int) (v2:Int):Option (Nat×List PV):=E.fix (stepOf E aGe aGc aGd) [.r [v0], .r [.int v1], .r [.int v2]]
noncomputable def aC5 (E:Env) (X:C→Int→Int→Option (Nat×List PV)) (v0:C) (v1:Int) (v2:Int):Option (Nat×List PV):=
 if (decide (v2<v1))=true then
 if (0:Int)≤v2∧v2<(v0.rows.length:Int)then
 (E.pc aT [[at_ (aA v0.rows v2.toNat) 1,at_ (aA v0.rows v2.toNat) 2,at_ (aA v0.rows v2.toNat) 3,at_ (aA v0.rows v2.toNat) 4],[.bool false]]).bind fun y17=>
 if (((at_ (aA y17 0) 0).vA) !=0)=true then
 some (1,[.r [.int ((at_ (aA y17 0) 0).vA)]])
 else
 X v0 v1 (Go.IntKind.i64.wrap (v2+1))
 else none
 else
 some (0,[])
theorem aQY (E:Env) (X:List PV→Option (Nat×List PV)) (v0:C) (v1:Int) (v2:Int):stepOf E aGe aGc aGd X [.r [v0], .r [.int v1], .r [.int v2]]=aC5 E (fun (v0:C) (v1:Int) (v2:Int)=>X [.r [v0], .r [.int v1], .r [.int v2]]) v0 v1 v2:=by kernel_rfl
def aEj:aD:={ps:=[lH,lB],rs:=[lI],res:=[(false,4,none)],body:=(.seq (.region [] [oq 2 (.vL lH 25 (.t 0)),
 oq 4 (.mov (.c lI [.int 0]))] false 0)
 (.seq (.join [(.normal,{slots:=[(2, .d (.one (.ref 25)))],objs:=[]}),(.ret,{slots:=[(4, .d lI)],objs:=[]})] (.block 0 (.seq (.join [(.normal,{slots:=[(2, .d (.one (.ref 25))),(9, .d lB)],objs:=[]})] (.region [] [oq 10 (.xA 0 1 25 3 (.t 2)),
 oq 11 (.ld lI 3 (.t 10)),
 oq 12 (.dA .lss (.t 11) (.c lI [.int 0])),
 oq 13 (.mov (.t 12)),
 ⟨some 14, .xA 0 1 25 3 (.t 2),some (13,false),[]⟩,
 ⟨some 15, .ld lI 3 (.t 14),some (13,false),[]⟩,
 ⟨some 16, .dA .geq (.t 15) (.c lI [.int 12]),some (13,false),[]⟩,
 oq 17 (.pick (.t 13) (.c lB [.bool true]) (.t 16)),
 oq 18 (.mov (.t 17)),
 ⟨some 19, .xA 0 1 25 3 (.t 2),some (18,false),[]⟩,
 ⟨some 20, .ld lI 3 (.t 19),some (18,false),[]⟩,
 ⟨some 21, .dA .eql (.t 20) (.c lI [.int 10]),some (18,false),[]⟩,
 oq 22 (.pick (.t 18) (.c lB [.bool true]) (.t 21)),
 oq 23 (.mov (.t 22)),
 ⟨some 24, .xA 0 1 25 3 (.t 2),some (23,false),[]⟩,
 ⟨some 25, .ld lI 3 (.t 24),some (23,false),[]⟩,
 ⟨some 26, .dA .eql (.t 25) (.c lI [.int 11]),some (23,false),[]⟩,
 ⟨some 27, .mov (.t 26),some (23,false),[]⟩,
 ⟨some 28, .mov (.t 1),some (27,true),[]⟩,
 ⟨some 29, .not (.t 28),some (27,true),[]⟩,
 ⟨some 30, .pick (.t 27) (.t 29) (.c lB [.bool false]),some (23,false),[]⟩,
 oq 31 (.pick (.t 23) (.c lB [.bool true]) (.t 30)),
 oq 32 (.mov (.t 31)),
 ⟨some 33, .ld lH 25 (.t 2),some (32,false),[]⟩,
 ⟨some 34, .call 79 [lH] [lB] [(.t 33)],some (32,false),[]⟩,
 oq 35 (.pick (.t 32) (.c lB [.bool true]) (.t 34)),
 oq 9 (.mov (.t 35))] false 0))
 (.cond (.t 9) (.seq (.region [] [oq 4 (.mov (.c lI [.int 3]))] false 0)
 .ret)
 (.seq (.region [] [oq 37 (.ld lH 25 (.t 2)),
 oq 38 (.call 80 [lH] [lB] [(.t 37)]),
 oq 39 (.not (.t 38)),
 oq 36 (.mov (.t 39))] false 0)
 (.cond (.t 36) (.seq (.region [] [oq 4 (.mov (.c lI [.int 11]))] false 0)
 .ret)
 .skip))))))
 (.seq (.seq (.region [] [oq 40 (.ld lH 25 (.t 2)),
 oq 41 (.call 81 [lH] [lI] [(.t 40)]),
 oq 5 (.mov (.t 41))] false 0)
 (.seq (.region [] [oq 42 (.mov (.t 5)),
 oq 43 (.dA .neq (.t 42) (.c lI [.int 0]))] false 0)
 (.cond (.t 43) (.seq (.region [] [oq 44 (.mov (.t 5)),
 oq 4 (.mov (.t 44))] false 0)
 .ret)
 .skip)))
 (.seq (.seq (.region [] [oq 45 (.xA 3 1 25 23 (.t 2)),
 oq 46 (.ld (.one (.sl 89)) 23 (.t 45)),
 oq 47 (.gE (.t 46)),
 oq 48 (.mov (.c lI [.int 0]))] false 0)
 (.block 1 (.loop aGc aGd aGe)))
 (.seq (.region [] [oq 4 (.mov (.c lI [.int 0]))] false 0)
 .ret)))))}
noncomputable def aK2 (E:Env) (p0:Row) (p1:Bool):Option (List Row):=
 ((let K1:Bool→Option (Nat×List PV):=fun q2=>
  let K3:Bool→Option (Nat×List PV):=fun q4=>
   let K5:Bool→Option (Nat×List PV):=fun q6=>
    let K7:Bool→Option (Nat×List PV):=fun q8=>
     some (0,[.r [.dp p0], .r [.bool q8]])
    if q6=true then
     K7 true
    else
     (E.pc aBl [p0]).bind fun y9=>
      K7 ((at_ (aA y9 0) 0).lK)
   if q4=true then
    K5 true
   else
    let K10:Bool→Option (Nat×List PV):=fun q11=>
     K5 q11
    if (((at_ p0 0).vA)==11)=true then
     K10 (!p1)
    else
     K10 false
  if q2=true then
   K3 true
  else
   K3 (((at_ p0 0).vA)==10)
 if (decide (((at_ p0 0).vA)<0))=true then
  K1 true
 else
  K1 (decide (((at_ p0 0).vA)≥12))).bind fun x12=>
  if (gB 1 x12.2)=true then
   some (1,[.r [.int 3]])
  else
   if (gC 0 x12.2).jB=true then
    (E.pc aEW [(gC 0 x12.2).cA]).bind fun pW=>
     if (!((at_ (aA pW 0) 0).lK))=true then
      some (1,[.r [.int 11]])
     else
      some (0,[.r [gC 0 x12.2]])
   else none).bind fun nW=>
  match nW.1 with
  |0=>
   if (gC 0 nW.2).jB=true then
    (E.pc aEX [(gC 0 nW.2).cA]).bind fun y16=>
     if (((at_ (aA y16 0) 0).vA) !=0)=true then
      some [[.int ((at_ (aA y16 0) 0).vA)]]
     else
      if (gC 0 nW.2).jB=true then
       (aC4 E (at_ ((gC 0 nW.2).cA) 3) (((at_ ((gC 0 nW.2).cA) 3).rows).length:Int) 0).bind fun qK=>
        match qK.1 with
        |0=>
         some [[.int 0]]
        |i19+1=>
         some [[.int (gI 0 qK.2)]]
      else none
   else none
  |i15+1=>
   some [[.int (gI 0 nW.2)]]
theorem aQZ (E:Env) (p0:Row) (p1:Bool):xE E aEj [p0,[.bool p1]]=aK2 E p0 p1:=by kernel_rfl
def aC6:aD:={ps:=[lH],rs:=[lI],res:=[(false,2,none)],body:=(.seq (.region [] [oq 1 (.vL lH 25 (.t 0)),
 oq 2 (.mov (.c lI [.int 0]))] false 0)
 (.seq (.seq (.region [] [oq 3 (.ld lH 25 (.t 1)),
 oq 4 (.call 55 [lH] [lI] [(.t 3)]),
 oq 5 (.dA .gtr (.t 4) (.c lI [.int 2000])),
 oq 6 (.mov (.t 5)),
 ⟨some 7, .ld lH 25 (.t 1),some (6,false),[]⟩,
 ⟨some 8, .call 56 [lH] [lI] [(.t 7)],some (6,false),[]⟩,
 ⟨some 9, .dA .gtr (.t 8) (.c lI [.int 40]),some (6,false),[]⟩,
 oq 10 (.pick (.t 6) (.c lB [.bool true]) (.t 9))] false 0)
 (.cond (.t 10) (.seq (.region [] [oq 2 (.mov (.c lI [.int 2]))] false 0)
 .ret)
 .skip))
 (.seq (.region [] [oq 11 (.ld lH 25 (.t 1)),
 oq 12 (.call 57 [lH,lB] [lI] [(.t 11),(.c lB [.bool true])]),
 oq 2 (.mov (.t 12))] false 0)
 .ret)))}
noncomputable def aJs (E:Env) (p0:Row):Option (List Row):=
 (E.pc zX [p0]).bind fun y1=>
 let K2:Bool→Option (List Row):=fun q3=>
 if q3=true then
 some [[.int 2]]
 else
 (E.pc aT [p0,[.bool true]]).bind fun y4=>
 some [[.int ((at_ (aA y4 0) 0).vA)]]
 if (decide (((at_ (aA y1 0) 0).vA)>2000))=true then
 K2 true
 else
 (E.pc aY [p0]).bind fun y5=>
 K2 (decide (((at_ (aA y5 0) 0).vA)>40))
theorem aP3 (E:Env) (p0:Row):xE E aC6 [p0]=aJs E p0:=by kernel_rfl
def aC7:aD:={ps:=[lI],rs:=[lI],res:=[(false,2,none)],body:=(.seq (.region [] [oq 2 (.mov (.c lI [.int 0]))] false 0)
 (.seq (.seq (.region [] [oq 3 (.mov (.t 0)),
 oq 4 (.dA .lss (.t 3) (.c lI [.int 0]))] false 0)
 (.cond (.t 4) (.seq (.region [] [oq 5 (.mov (.t 0)),
 oq 6 (.tB .and (.t 5) (.c lI [.int 9223372036854775807])),
 oq 7 (.tB .sub (.c lI [.int (-1)]) (.t 6)),
 oq 2 (.mov (.t 7))] false 0)
 .ret)
 .skip))
 (.seq (.region [] [oq 8 (.mov (.t 0)),
 oq 2 (.mov (.t 8))] false 0)
 .ret)))}
noncomputable def aJt (E:Env) (p0:Int):Option (List Row):=
 if (decide (p0<0))=true then
 some [[.int (Go.IntKind.i64.wrap ((-1) - (bitsOf .and .i64 p0 9223372036854775807)))]]
 else
 some [[.int p0]]
theorem aP4 (E:Env) (p0:Int):xE E aC7 [[.int p0]]=aJt E p0:=by kernel_rfl
def aGf:Shape:={slots:=[(3, .d lI),(6, .d (.one (.sl 3))),(7, .d lI),(8, .d lI)],objs:=[]}
def aGg:List (mB×Shape):=[(.exit 0,{slots:=[(3, .d lI)],objs:=[]}),(.ret,{slots:=[(2, .d lI)],objs:=[]})]
def aGh:zB:=(.seq (.region [] [oq 9 (.dA .lss (.t 8) (.t 7))] false 0)
 (.seq (.cond (.t 9) .skip
 (.exit 0))
 (.seq (.block 1 (.seq (.region [] [oq 10 (.iad 3 lI (.t 6) (.t 8)),
 oq 11 (.ld lI 3 (.t 10)),
 oq 5 (.mov (.t 11))] false 0)
 (.seq (.region [] [oq 12 (.mov (.t 5)),
 oq 13 (.mov (.t 3)),
 oq 14 (.dA .neq (.t 12) (.t 13))] false 0)
 (.cond (.t 14) (.seq (.region [] [oq 15 (.mov (.t 5)),
 oq 2 (.mov (.t 15))] false 0)
 .ret)
 .skip))))
 (.region [] [oq 16 (.tB .add (.t 8) (.c lI [.int 1])),
 oq 8 (.mov (.t 16))] false 0))))
noncomputable def aC8 (E:Env) (v0:Int) (v1:C) (v2:Int) (v3:Int):Option (Nat×List PV):=E.fix (stepOf E aGh aGf aGg) [.r [.int v0], .r [v1], .r [.int v2], .r [.int v3]]
noncomputable def aC9 (E:Env) (X:Int→C→Int→Int→Option (Nat×List PV)) (v0:Int) (v1:C) (v2:Int) (v3:Int):Option (Nat×List PV):=
 if (decide (v3<v2))=true then
 if (0:Int)≤v3∧v3<(v1.rows.length:Int)then
 if (((at_ (aA v1.rows v3.toNat) 0).vA) !=v0)=true then
 some (1,[.r [.int ((at_ (aA v1.rows v3.toNat) 0).vA)]])
 else
 X v0 v1 v2 (Go.IntKind.i64.wrap (v3+1))
 else none
 else
 some (0,[.r [.int v0]])
theorem aQ0 (E:Env) (X:List PV→Option (Nat×List PV)) (v0:Int) (v1:C) (v2:Int) (v3:Int):stepOf E aGh aGf aGg X [.r [.int v0], .r [v1], .r [.int v2], .r [.int v3]]=aC9 E (fun (v0:Int) (v1:C) (v2:Int) (v3:Int)=>X [.r [.int v0], .r [v1], .r [.int v2], .r [.int v3]]) v0 v1 v2 v3:=by kernel_rfl
def aEk:aD:={ps:=[(.one (.sl 3))],rs:=[lI],res:=[(false,2,none)],body:=(.seq (.region [] [oq 2 (.mov (.c lI [.int 0]))] false 0)
 (.seq (.region [] [oq 3 (.mov (.c lI [.int 0]))] false 0)
 (.seq (.seq (.region [] [oq 6 (.mov (.t 0)),
 oq 7 (.gE (.t 6)),
 oq 8 (.mov (.c lI [.int 0]))] false 0)
 (.block 0 (.loop aGf aGg aGh)))
 (.seq (.region [] [oq 17 (.mov (.t 3)),
 oq 2 (.mov (.t 17))] false 0)
 .ret))))}
noncomputable def aK3 (E:Env) (p0:C):Option (List Row):=
 (aC8 E 0 p0 (p0.rows.length:Int) 0).bind fun x1=>
 match x1.1 with
 |0=>
 some [[.int (gI 0 x1.2)]]
 |i2+1=>
 some [[.int (gI 0 x1.2)]]
theorem aQ1 (E:Env) (p0:C):xE E aEk [[p0]]=aK3 E p0:=by kernel_rfl
def z6:aD:={ps:=[lI],rs:=[lB],res:=[(false,2,none)],body:=(.seq (.region [] [oq 2 (.mov (.c lB [.bool false]))] false 0)
 (.seq (.region [] [oq 3 (.mov (.t 0)),
 oq 4 (.mov (.t 0)),
 oq 5 (.dA .neq (.t 3) (.t 4)),
 oq 2 (.mov (.t 5))] false 0)
 .ret))}
noncomputable def cmp_isNaN_int (E:Env) (p0:Int):Option (List Row):=
 some [[.bool (p0 !=p0)]]
theorem aNm (E:Env) (p0:Int):xE E z6 [[.int p0]]=cmp_isNaN_int E p0:=by kernel_rfl
def lV:aD:={ps:=[lI,lI],rs:=[lI],res:=[(false,4,none)],body:=(.seq (.region [] [oq 4 (.mov (.c lI [.int 0]))] false 0)
 (.seq (.region [] [oq 7 (.mov (.t 0)),
 oq 8 (.call 114 [lI] [lB] [(.t 7)]),
 oq 5 (.mov (.t 8))] false 0)
 (.seq (.region [] [oq 9 (.mov (.t 1)),
 oq 10 (.call 114 [lI] [lB] [(.t 9)]),
 oq 6 (.mov (.t 10))] false 0)
 (.seq (.seq (.region [] [oq 11 (.mov (.t 5))] false 0)
 (.cond (.t 11) (.seq (.seq (.region [] [oq 12 (.mov (.t 6))] false 0)
 (.cond (.t 12) (.seq (.region [] [oq 4 (.mov (.c lI [.int 0]))] false 0)
 .ret)
 .skip))
 (.seq (.region [] [oq 4 (.mov (.c lI [.int (-1)]))] false 0)
 .ret))
 .skip))
 (.seq (.seq (.region [] [oq 13 (.mov (.t 6))] false 0)
 (.cond (.t 13) (.seq (.region [] [oq 4 (.mov (.c lI [.int 1]))] false 0)
 .ret)
 .skip))
 (.seq (.seq (.region [] [oq 14 (.mov (.t 0)),
 oq 15 (.mov (.t 1)),
 oq 16 (.dA .lss (.t 14) (.t 15))] false 0)
 (.cond (.t 16) (.seq (.region [] [oq 4 (.mov (.c lI [.int (-1)]))] false 0)
 .ret)
 .skip))
 (.seq (.seq (.region [] [oq 17 (.mov (.t 0)),
 oq 18 (.mov (.t 1)),
 oq 19 (.dA .gtr (.t 17) (.t 18))] false 0)
 (.cond (.t 19) (.seq (.region [] [oq 4 (.mov (.c lI [.int 1]))] false 0)
 .ret)
 .skip))
 (.seq (.region [] [oq 4 (.mov (.c lI [.int 0]))] false 0)
 .ret))))))))}
noncomputable def cmp_Compare_int (E:Env) (p0:Int) (p1:Int):Option (List Row):=
 (E.pc j7 [[.int p0]]).bind fun y1=>
 (E.pc j7 [[.int p1]]).bind fun y2=>
 if ((at_ (aA y1 0) 0).lK)=true then
 if ((at_ (aA y2 0) 0).lK)=true then
 some [[.int 0]]
 else
 some [[.int (-1)]]
 else
 if ((at_ (aA y2 0) 0).lK)=true then
 some [[.int 1]]
 else
 if (decide (p0<p1))=true then
 some [[.int (-1)]]
 else
 if (decide (p0>p1))=true then
 some [[.int 1]]
 else
 some [[.int 0]]
theorem aK4 (E:Env) (p0:Int) (p1:Int):xE E lV [[.int p0],[.int p1]]=cmp_Compare_int E p0 p1:=by kernel_rfl
def rE:aD:={ps:=[lS,lS],rs:=[lI],res:=[(false,4,none)],body:=(.seq (.region [] [oq 4 (.mov (.c lI [.int 0]))] false 0)
 (.seq (.region [] [oq 5 (.mov (.t 0)),
 oq 6 (.mov (.t 1)),
 oq 7 (.aXa 126 (.t 5) (.t 6)),
 oq 4 (.mov (.t 7))] false 0)
 .ret))}
noncomputable def bJ (E:Env) (p0:List UInt8) (p1:List UInt8):Option (List Row):=
 some [[.int (oF p0 p1)]]
theorem aAN (E:Env) (p0:List UInt8) (p1:List UInt8):xE E rE [[.str p0],[.str p1]]=bJ E p0 p1:=by kernel_rfl
def mV:aD:={ps:=[lS,lS],rs:=[lI],res:=[(false,4,none)],body:=(.seq (.region [] [oq 4 (.mov (.c lI [.int 0]))] false 0)
 (.seq (.region [] [oq 5 (.mov (.t 0)),
 oq 6 (.mov (.t 1)),
 oq 7 (.call 115 [lS,lS] [lI] [(.t 5),(.t 6)]),
 oq 4 (.mov (.t 7))] false 0)
 .ret))}
noncomputable def strings_Compare (E:Env) (p0:List UInt8) (p1:List UInt8):Option (List Row):=
 (E.pc qP [[.str p0],[.str p1]]).bind fun y1=>
 some [[.int ((at_ (aA y1 0) 0).vA)]]
theorem aK5 (E:Env) (p0:List UInt8) (p1:List UInt8):xE E mV [[.str p0],[.str p1]]=strings_Compare E p0 p1:=by kernel_rfl
def eI:Shape:={slots:=[(0, .d (.one (.sl 89))),(1, .d (.one (.sl 89))),(2, .d (.one (.fn 139))),(11, .d (.one (.sl 89))),(12, .d lI),(13, .d lI)],objs:=[]}
def fI:List (mB×Shape):=[(.exit 0,{slots:=[(0, .d (.one (.sl 89))),(1, .d (.one (.sl 89)))],objs:=[]}),(.ret,{slots:=[(6, .d lI)],objs:=[]})]
def iI:zB:=(.seq (.region [] [oq 14 (.dA .lss (.t 13) (.t 12))] false 0)
 (.seq (.cond (.t 14) .skip
 (.exit 0))
 (.seq (.block 1 (.seq (.region [] [oq 15 (.mov (.t 13)),
 oq 16 (.iad 89 lA2 (.t 11) (.t 13)),
 oq 17 (.ld lA2 89 (.t 16)),
 oq 8 (.oB 0 lA2 [.str [], .int 0, .int 0, .str [], .fA]),
 oq 7 (.mov (.t 15)),
 ⟨none, .st lA2 (.t 8) (.t 17),none,[]⟩] false 1)
 (.seq (.seq (.region [] [oq 18 (.mov (.t 7)),
 oq 19 (.mov (.t 1)),
 oq 20 (.gE (.t 19)),
 oq 21 (.dA .geq (.t 18) (.t 20))] false 0)
 (.cond (.t 21) (.seq (.region [] [oq 6 (.mov (.c lI [.int 1]))] false 0)
 .ret)
 .skip))
 (.seq (.region [] [oq 22 (.mov (.t 1)),
 oq 23 (.mov (.t 7)),
 oq 24 (.iad 89 lA2 (.t 22) (.t 23)),
 oq 25 (.ld lA2 89 (.t 24)),
 oq 9 (.oB 0 lA2 [.str [], .int 0, .int 0, .str [], .fA]),
 ⟨none, .st lA2 (.t 9) (.t 25),none,[]⟩] false 1)
 (.seq (.region [] [oq 26 (.mov (.t 2)),
 oq 27 (.ld lA2 89 (.t 8)),
 oq 28 (.ld lA2 89 (.t 9)),
 oq 29 (.callv 139 [lA2,lA2] [lI] (.t 26) [(.t 27),(.t 28)]),
 oq 10 (.mov (.t 29))] false 0)
 (.seq (.region [] [oq 30 (.mov (.t 10)),
 oq 31 (.dA .neq (.t 30) (.c lI [.int 0]))] false 0)
 (.cond (.t 31) (.seq (.region [] [oq 32 (.mov (.t 10)),
 oq 6 (.mov (.t 32))] false 0)
 .ret)
 .skip)))))))
 (.region [] [oq 33 (.tB .add (.t 13) (.c lI [.int 1])),
 oq 13 (.mov (.t 33))] false 0))))
noncomputable def bF (E:Env) (v0:C) (v1:C) (v2:C) (v3:C) (v4:Int) (v5:Int):Option (Nat×List PV):=E.fix (stepOf E iI eI fI) [.r [v0], .r [v1], .r [v2], .r [v3], .r [.int v4], .r [.int v5]]
noncomputable def cF (E:Env) (X:C→C→C→C→Int→Int→Option (Nat×List PV)) (v0:C) (v1:C) (v2:C) (v3:C) (v4:Int) (v5:Int):Option (Nat×List PV):=
 if (decide (v5<v4))=true then
 if (0:Int)≤v5∧v5<(v3.rows.length:Int)then
 if (decide (v5≥(v1.rows.length:Int)))=true then
 some (1,[.r [.int 1]])
 else
 if (0:Int)≤v5∧v5<(v1.rows.length:Int)then
 (aKj E v2 [aA v3.rows v5.toNat,aA v1.rows v5.toNat]).bind fun y1=>
 if (((at_ (aA y1 0) 0).vA) !=0)=true then
 some (1,[.r [.int ((at_ (aA y1 0) 0).vA)]])
 else
 X v0 v1 v2 v3 v4 (Go.IntKind.i64.wrap (v5+1))
 else none
 else none
 else
 some (0,[.r [v0], .r [v1]])
theorem aB4 (E:Env) (X:List PV→Option (Nat×List PV)) (v0:C) (v1:C) (v2:C) (v3:C) (v4:Int) (v5:Int):stepOf E iI eI fI X [.r [v0], .r [v1], .r [v2], .r [v3], .r [.int v4], .r [.int v5]]=cF E (fun (v0:C) (v1:C) (v2:C) (v3:C) (v4:Int) (v5:Int)=>X [.r [v0], .r [v1], .r [v2], .r [v3], .r [.int v4], .r [.int v5]]) v0 v1 v2 v3 v4 v5:=by kernel_rfl
def mF:aD:={ps:=[(.one (.sl 89)),(.one (.sl 89)),(.one (.fn 139))],rs:=[lI],res:=[(false,6,none)],body:=(.seq (.region [] [oq 6 (.mov (.c lI [.int 0]))] false 0)
 (.seq (.seq (.region [] [oq 11 (.mov (.t 0)),
 oq 12 (.gE (.t 11)),
 oq 13 (.mov (.c lI [.int 0]))] false 0)
 (.block 0 (.loop eI fI iI)))
 (.seq (.seq (.region [] [oq 34 (.mov (.t 0)),
 oq 35 (.gE (.t 34)),
 oq 36 (.mov (.t 1)),
 oq 37 (.gE (.t 36)),
 oq 38 (.dA .lss (.t 35) (.t 37))] false 0)
 (.cond (.t 38) (.seq (.region [] [oq 6 (.mov (.c lI [.int (-1)]))] false 0)
 .ret)
 .skip))
 (.seq (.region [] [oq 6 (.mov (.c lI [.int 0]))] false 0)
 .ret))))}
noncomputable def pL (E:Env) (p0:C) (p1:C) (p2:C):Option (List Row):=
 (bF E p0 p1 p2 p0 (p0.rows.length:Int) 0).bind fun x2=>
 match x2.1 with
 |0=>
 if (decide ((((gC 0 x2.2).rows).length:Int)<(((gC 1 x2.2).rows).length:Int)))=true then
 some [[.int (-1)]]
 else
 some [[.int 0]]
 |i3+1=>
 some [[.int (gI 0 x2.2)]]
theorem aB5 (E:Env) (p0:C) (p1:C) (p2:C):xE E mF [[p0],[p1],[p2]]=pL E p0 p1 p2:=by kernel_rfl
def aDa:aD:={ps:=[lA2,lA2],rs:=[lI],res:=[(false,4,none)],body:=(.seq (.region [] [oq 2 (.vL lA2 89 (.t 0)),
 oq 3 (.vL lA2 89 (.t 1)),
 oq 4 (.mov (.c lI [.int 0]))] false 0)
 (.seq (.region [] [oq 5 (.xA 0 1 89 9 (.t 2)),
 ⟨some 6, .ld lS 9 (.t 5),none,[0]⟩,
 oq 7 (.xA 0 1 89 9 (.t 3)),
 ⟨some 8, .ld lS 9 (.t 7),none,[2]⟩,
 ⟨some 9, .call 92 [lS,lS] [lI] [(.t 6),(.t 8)],none,[0,1,2,3]⟩,
 oq 10 (.xA 1 4 89 25 (.t 2)),
 ⟨some 11, .ld lH 25 (.t 10),none,[5]⟩,
 oq 12 (.xA 1 4 89 25 (.t 3)),
 ⟨some 13, .ld lH 25 (.t 12),none,[7]⟩,
 ⟨some 14, .call 71 [lH,lH] [lI] [(.t 11),(.t 13)],none,[0,1,2,3,4,5,6,7,8]⟩,
 ⟨some 15, .bsl 3 lI 2 [.int 0] [(0,(.t 9)),(1,(.t 14))],none,[0,1,2,3,4,5,6,7,8,9]⟩,
 ⟨some 16, .call 90 [(.one (.sl 3))] [lI] [(.t 15)],none,[0,1,2,3,4,5,6,7,8,9,10]⟩,
 ⟨some 4, .mov (.t 16),none,[0,1,2,3,4,5,6,7,8,9,10,11]⟩] true 0)
 .ret))}
noncomputable def aJu (E:Env) (p0:Row) (p1:Row):Option (List Row):=
 (E.pc nV [[.str ((at_ p0 0).mD)],[.str ((at_ p1 0).mD)]]).bind fun y1=>
 (E.pc aFF [[at_ p0 1,at_ p0 2,at_ p0 3,at_ p0 4],[at_ p1 1,at_ p1 2,at_ p1 3,at_ p1 4]]).bind fun y2=>
 (E.pc aEl [[.sl ([[.int ((at_ (aA y1 0) 0).vA)],[.int ((at_ (aA y2 0) 0).vA)]]:List Row)]]).bind fun y3=>
 some [[.int ((at_ (aA y3 0) 0).vA)]]
theorem aP5 (E:Env) (p0:Row) (p1:Row):xE E aDa [p0,p1]=aJu E p0 p1:=by kernel_rfl
def aFG:aD:={ps:=[lH,lH],rs:=[lI],res:=[(false,4,none)],body:=(.seq (.region [] [oq 2 (.vL lH 25 (.t 0)),
 oq 3 (.vL lH 25 (.t 1)),
 oq 4 (.mov (.c lI [.int 0]))] false 0)
 (.seq (.region [] [oq 8 (.xA 1 1 25 3 (.t 2)),
 ⟨some 9, .ld lI 3 (.t 8),none,[0]⟩,
 oq 10 (.xA 1 1 25 3 (.t 3)),
 ⟨some 11, .ld lI 3 (.t 10),none,[2]⟩,
 ⟨some 5, .mov (.t 9),none,[0,1]⟩,
 ⟨some 6, .mov (.t 11),none,[0,1,2,3,4]⟩] true 0)
 (.seq (.seq (.region [] [oq 12 (.xA 0 1 25 3 (.t 2)),
 oq 13 (.ld lI 3 (.t 12)),
 oq 14 (.dA .eql (.t 13) (.c lI [.int 3]))] false 0)
 (.join [(.normal,{slots:=[(2, .d (.one (.ref 25))),(3, .d (.one (.ref 25))),(5, .d lI),(6, .d lI)],objs:=[]})] (.cond (.t 14) (.region [] [oq 15 (.mov (.t 5)),
 oq 16 (.call 89 [lI] [lI] [(.t 15)]),
 oq 17 (.mov (.t 6)),
 oq 18 (.call 89 [lI] [lI] [(.t 17)]),
 oq 5 (.mov (.t 16)),
 oq 6 (.mov (.t 18))] false 0)
 .skip)))
 (.seq (.region [] [oq 19 (.xA 0 1 25 3 (.t 2)),
 ⟨some 20, .ld lI 3 (.t 19),none,[0]⟩,
 oq 21 (.xA 0 1 25 3 (.t 3)),
 ⟨some 22, .ld lI 3 (.t 21),none,[2]⟩,
 ⟨some 23, .call 91 [lI,lI] [lI] [(.t 20),(.t 22)],none,[0,1,2,3]⟩,
 oq 24 (.mov (.t 5)),
 oq 25 (.mov (.t 6)),
 ⟨some 26, .call 91 [lI,lI] [lI] [(.t 24),(.t 25)],none,[0,1,2,3,4,5,6]⟩,
 oq 27 (.xA 2 1 25 9 (.t 2)),
 ⟨some 28, .ld lS 9 (.t 27),none,[8]⟩,
 oq 29 (.xA 2 1 25 9 (.t 3)),
 ⟨some 30, .ld lS 9 (.t 29),none,[10]⟩,
 ⟨some 31, .call 92 [lS,lS] [lI] [(.t 28),(.t 30)],none,[0,1,2,3,4,5,6,7,8,9,10,11]⟩,
 ⟨some 32, .bsl 3 lI 3 [.int 0] [(0,(.t 23)),(1,(.t 26)),(2,(.t 31))],none,[0,1,2,3,4,5,6,7,8,9,10,11,12]⟩,
 ⟨some 33, .call 90 [(.one (.sl 3))] [lI] [(.t 32)],none,[0,1,2,3,4,5,6,7,8,9,10,11,12,13]⟩,
 ⟨some 7, .mov (.t 33),none,[0,1,2,3,4,5,6,7,8,9,10,11,12,13,14]⟩] true 0)
 (.seq (.seq (.region [] [oq 34 (.mov (.t 7)),
 oq 35 (.dA .neq (.t 34) (.c lI [.int 0]))] false 0)
 (.cond (.t 35) (.seq (.region [] [oq 36 (.mov (.t 7)),
 oq 4 (.mov (.t 36))] false 0)
 .ret)
 .skip))
 (.seq (.region [] [oq 37 (.xA 3 1 25 23 (.t 2)),
 oq 38 (.ld (.one (.sl 89)) 23 (.t 37)),
 oq 39 (.xA 3 1 25 23 (.t 3)),
 oq 40 (.ld (.one (.sl 89)) 23 (.t 39)),
 oq 41 (.call 93 [(.one (.sl 89)),(.one (.sl 89)),(.one (.fn 139))] [lI] [(.t 38),(.t 40),(.c (.one (.fn 139)) [.fn fJ []])]),
 oq 4 (.mov (.t 41))] false 0)
 .ret))))))}
noncomputable def aNn (E:Env) (p0:Row) (p1:Row):Option (List Row):=
 (if (((at_ p0 0).vA)==3)=true then
 (E.pc aDb [[.int ((at_ p0 1).vA)]]).bind fun y1=>
 (E.pc aDb [[.int ((at_ p1 1).vA)]]).bind fun y2=>
 some (0,[.r [.dp p0], .r [.dp p1], .r [.int ((at_ (aA y1 0) 0).vA)], .r [.int ((at_ (aA y2 0) 0).vA)]])
 else
 some (0,[.r [.dp p0], .r [.dp p1], .r [.int ((at_ p0 1).vA)], .r [.int ((at_ p1 1).vA)]])).bind fun x3=>
 if (gC 0 x3.2).jB=true then
 if (gC 1 x3.2).jB=true then
 (E.pc oV [[.int ((at_ ((gC 0 x3.2).cA) 0).vA)],[.int ((at_ ((gC 1 x3.2).cA) 0).vA)]]).bind fun y4=>
 (E.pc oV [[.int (gI 2 x3.2)],[.int (gI 3 x3.2)]]).bind fun y5=>
 if (gC 0 x3.2).jB=true then
 if (gC 1 x3.2).jB=true then
 (E.pc nV [[.str ((at_ ((gC 0 x3.2).cA) 2).mD)],[.str ((at_ ((gC 1 x3.2).cA) 2).mD)]]).bind fun y6=>
 (E.pc aEl [[.sl ([[.int ((at_ (aA y4 0) 0).vA)],[.int ((at_ (aA y5 0) 0).vA)],[.int ((at_ (aA y6 0) 0).vA)]]:List Row)]]).bind fun y7=>
 if (((at_ (aA y7 0) 0).vA) !=0)=true then
 some [[.int ((at_ (aA y7 0) 0).vA)]]
 else
 if (gC 0 x3.2).jB=true then
 if (gC 1 x3.2).jB=true then
 (E.pc cJ [[at_ ((gC 0 x3.2).cA) 3],[at_ ((gC 1 x3.2).cA) 3],[.fn fJ []]]).bind fun y8=>
 some [[.int ((at_ (aA y8 0) 0).vA)]]
 else none
 else none
 else none
 else none
 else none
 else none
theorem aS3 (E:Env) (p0:Row) (p1:Row):xE E aFG [p0,p1]=aNn E p0 p1:=by kernel_rfl
def aEm:aD:={ps:=[lH,lH],rs:=[lB],res:=[(false,4,none)],body:=(.seq (.region [] [oq 2 (.vL lH 25 (.t 0)),
 oq 3 (.vL lH 25 (.t 1)),
 oq 4 (.mov (.c lB [.bool false]))] false 0)
 (.seq (.region [] [oq 5 (.ld lH 25 (.t 2)),
 oq 6 (.ld lH 25 (.t 3)),
 oq 7 (.call 71 [lH,lH] [lI] [(.t 5),(.t 6)]),
 oq 8 (.dA .eql (.t 7) (.c lI [.int 0])),
 oq 4 (.mov (.t 8))] false 0)
 .ret))}
noncomputable def aK6 (E:Env) (p0:Row) (p1:Row):Option (List Row):=
 (E.pc aFF [p0,p1]).bind fun y1=>
 some [[.bool (((at_ (aA y1 0) 0).vA)==0)]]
theorem aQ2 (E:Env) (p0:Row) (p1:Row):xE E aEm [p0,p1]=aK6 E p0 p1:=by kernel_rfl
def gJ:rZ:={fn:=129,entry:=uD,res:=[.tmp 2],exit:=vD,body:=(.seq (.region [] [oq 2 (.mov (.c lB [.bool false]))] false 0)
 (.seq (.region [] [oq 3 (.mov (.t 0)),
 ⟨some 4, .eC (.t 3),none,[0]⟩,
 ⟨some 5, .xA 13 1 183 4 (.t 4),none,[0,1]⟩,
 ⟨some 6, .n3 (.t 5),none,[0,1,2]⟩,
 ⟨some 7, .not (.t 6),none,[0,1,2,3]⟩,
 ⟨some 8, .mov (.t 7),none,[0,1,2,3,4]⟩,
 ⟨some 9, .mov (.t 0),some (8,true),[0,1,2,3,4,5]⟩,
 ⟨some 10, .eC (.t 9),some (8,true),[0,1,2,3,4,5,6]⟩,
 ⟨some 11, .xA 1 1 183 3 (.t 10),some (8,true),[0,1,2,3,4,5,6,7]⟩,
 ⟨some 12, .n3 (.t 11),some (8,true),[0,1,2,3,4,5,6,7,8]⟩,
 ⟨some 13, .mov (.t 0),some (8,true),[0,1,2,3,4,5]⟩,
 ⟨some 14, .eC (.t 13),some (8,true),[0,1,2,3,4,5,10]⟩,
 ⟨some 15, .xA 0 1 183 9 (.t 14),some (8,true),[0,1,2,3,4,5,10,11]⟩,
 ⟨some 16, .n3 (.t 15),some (8,true),[0,1,2,3,4,5,10,11,12]⟩,
 ⟨some 17, .aB3 (.t 16),some (8,true),[0,1,2,3,4,5,10,11,12,13]⟩,
 ⟨some 18, .dA .lss (.t 12) (.t 17),some (8,true),[0,1,2,3,4,5,6,7,8,9,10,11,12,13,14]⟩,
 ⟨some 19, .pick (.t 8) (.t 18) (.c lB [.bool false]),none,[0,1,2,3,4,5,6,7,8,9,10,11,12,13,14,15]⟩,
 ⟨some 2, .mov (.t 19),none,[0,1,2,3,4,5,6,7,8,9,10,11,12,13,14,15,16]⟩] true 0)
 .ret))}
noncomputable def bT (E:Env) (p0:List UInt8) (p1:Int) (p2:Bool) (p3:Int) (p4:Int) (p5:Int) (p6:Int) (p7:Int) (p8:Int) (p9:Int) (wL:Int) (xL:Bool) (yL:C) (mK:C):Option (List PV):=
 let K1:Bool→Option (List PV):=fun q2=>
 some [.r [.bool q2], .r [.str p0], .r [.int p1], .r [.bool p2], .r [.int p3], .r [.int p4], .r [.int p5], .r [.int p6], .r [.int p7], .r [.int p8], .r [.int p9], .r [.int wL], .r [.bool xL], .r [yL], .r [mK]]
 if (!xL)=true then
 K1 (decide (p1<(p0.length:Int)))
 else
 K1 false
theorem aFj (E:Env) (p0:List UInt8) (p1:Int) (p2:Bool) (p3:Int) (p4:Int) (p5:Int) (p6:Int) (p7:Int) (p8:Int) (p9:Int) (wL:Int) (xL:Bool) (yL:C) (mK:C):j9 E gJ [.r [.str p0], .r [.int p1], .r [.bool p2], .r [.int p3], .r [.int p4], .r [.int p5], .r [.int p6], .r [.int p7], .r [.int p8], .r [.int p9], .r [.int wL], .r [.bool xL], .r [yL], .r [mK]]=bT E p0 p1 p2 p3 p4 p5 p6 p7 p8 p9 wL xL yL mK:=by kernel_rfl
def hJ:rZ:={fn:=130,entry:=uB,res:=[.tmp 2],exit:=wB,body:=(.seq (.region [] [oq 2 (.mov (.c lU [.int 0]))] false 0)
 (.seq (.seq (.region [] [oq 3 (.mov (.t 0)),
 ⟨some 4, .eC (.t 3),none,[0]⟩,
 ⟨some 5, .xA 1 1 183 3 (.t 4),none,[0,1]⟩,
 ⟨some 6, .n3 (.t 5),none,[0,1,2]⟩,
 oq 7 (.mov (.t 0)),
 ⟨some 8, .eC (.t 7),none,[4]⟩,
 ⟨some 9, .xA 0 1 183 9 (.t 8),none,[4,5]⟩,
 ⟨some 10, .n3 (.t 9),none,[4,5,6]⟩,
 ⟨some 11, .aB3 (.t 10),none,[4,5,6,7]⟩,
 ⟨some 12, .dA .geq (.t 6) (.t 11),none,[0,1,2,3,4,5,6,7,8]⟩] true 0)
 (.cond (.t 12) (.seq (.region [] [oq 2 (.mov (.c lU [.int 0]))] false 0)
 .ret)
 .skip))
 (.seq (.region [] [oq 13 (.mov (.t 0)),
 ⟨some 14, .eC (.t 13),none,[0]⟩,
 ⟨some 15, .xA 0 1 183 9 (.t 14),none,[0,1]⟩,
 ⟨some 16, .n3 (.t 15),none,[0,1,2]⟩,
 oq 17 (.mov (.t 0)),
 ⟨some 18, .eC (.t 17),none,[4]⟩,
 ⟨some 19, .xA 1 1 183 3 (.t 18),none,[4,5]⟩,
 ⟨some 20, .n3 (.t 19),none,[4,5,6]⟩,
 ⟨some 21, .aB2 (.t 16) (.t 20),none,[0,1,2,3,4,5,6,7]⟩,
 ⟨some 2, .mov (.t 21),none,[0,1,2,3,4,5,6,7,8]⟩] true 0)
 .ret)))}
noncomputable def cT (E:Env) (p0:List UInt8) (p1:Int) (p2:Bool) (p3:Int) (p4:Int) (p5:Int) (p6:Int) (p7:Int) (p8:Int) (p9:Int) (wL:Int) (xL:Bool) (yL:C) (mK:C):Option (List PV):=
 if (decide (p1≥(p0.length:Int)))=true then
 some [.r [.int 0], .r [.str p0], .r [.int p1], .r [.bool p2], .r [.int p3], .r [.int p4], .r [.int p5], .r [.int p6], .r [.int p7], .r [.int p8], .r [.int p9], .r [.int wL], .r [.bool xL], .r [yL], .r [mK]]
 else
 if (0:Int)≤p1∧p1<(p0.length:Int)then
 some [.r [.int ((p0.getD p1.toNat 0).toNat:Int)], .r [.str p0], .r [.int p1], .r [.bool p2], .r [.int p3], .r [.int p4], .r [.int p5], .r [.int p6], .r [.int p7], .r [.int p8], .r [.int p9], .r [.int wL], .r [.bool xL], .r [yL], .r [mK]]
 else none
theorem aFk (E:Env) (p0:List UInt8) (p1:Int) (p2:Bool) (p3:Int) (p4:Int) (p5:Int) (p6:Int) (p7:Int) (p8:Int) (p9:Int) (wL:Int) (xL:Bool) (yL:C) (mK:C):j9 E hJ [.r [.str p0], .r [.int p1], .r [.bool p2], .r [.int p3], .r [.int p4], .r [.int p5], .r [.int p6], .r [.int p7], .r [.int p8], .r [.int p9], .r [.int wL], .r [.bool xL], .r [yL], .r [mK]]=cT E p0 p1 p2 p3 p4 p5 p6 p7 p8 p9 wL xL yL mK:=by kernel_rfl
def sE:aD:={ps:=[lS,lU],rs:=[lI],res:=[(false,4,none)],body:=(.seq (.region [] [oq 4 (.mov (.c lI [.int 0]))] false 0)
 (.seq (.region [] [oq 5 (.mov (.t 0)),
 oq 6 (.mov (.t 1)),
 oq 7 (.aW9 85 (.t 5) (.t 6)),
 oq 4 (.mov (.t 7))] false 0)
 .ret))}
noncomputable def nF (E:Env) (p0:List UInt8) (p1:Int):Option (List Row):=
 some [[.int (aJa p0 (p1).toNat.toUInt8)]]
theorem aAO (E:Env) (p0:List UInt8) (p1:Int):xE E sE [[.str p0],[.int p1]]=nF E p0 p1:=by kernel_rfl
def yQ:aD:={ps:=[lS,lU],rs:=[lI],res:=[(false,4,none)],body:=(.seq (.region [] [oq 4 (.mov (.c lI [.int 0]))] false 0)
 (.seq (.region [] [oq 5 (.mov (.t 0)),
 oq 6 (.mov (.t 1)),
 oq 7 (.call 66 [lS,lU] [lI] [(.t 5),(.t 6)]),
 oq 4 (.mov (.t 7))] false 0)
 .ret))}
noncomputable def strings_IndexByte (E:Env) (p0:List UInt8) (p1:Int):Option (List Row):=
 (E.pc sH [[.str p0],[.int p1]]).bind fun y1=>
 some [[.int ((at_ (aA y1 0) 0).vA)]]
theorem aJv (E:Env) (p0:List UInt8) (p1:Int):xE E yQ [[.str p0],[.int p1]]=strings_IndexByte E p0 p1:=by kernel_rfl
def wO:Shape:={slots:=[(0, .ptr 0 0),(3, .d lI)],objs:=[.var bE],m:=1}
def xO:List (mB×Shape):=[(.exit 0,{slots:=[],objs:=[.var bE],m:=1})]
def yO:zB:=(.seq (.region [] [oq 4 (.dA .lss (.t 3) (.c lI [.int 4]))] false 0)
 (.seq (.cond (.t 4) .skip
 (.exit 0))
 (.seq (.block 1 (.seq (.region [] [oq 5 (.mov (.t 3)),
 oq 2 (.mov (.t 5))] false 0)
 (.region [] [oq 6 (.mov (.t 0)),
 oq 7 (.mov (.t 2)),
 oq 8 (.mov (.t 0)),
 oq 9 (.mov (.t 2)),
 ⟨some 10, .eC (.t 8),none,[2]⟩,
 ⟨some 11, .qF 4 181 86 lW (.t 10) (.t 9),none,[2,3,4]⟩,
 ⟨some 12, .ld lW 86 (.t 11),none,[2,3,4,5]⟩,
 ⟨some 13, .aW8 (.t 12),none,[2,3,4,5,6]⟩,
 ⟨some 14, .eC (.t 6),none,[0]⟩,
 ⟨some 15, .qF 4 181 86 lW (.t 14) (.t 7),none,[0,1,2,3,4,5,6,7,8]⟩,
 ⟨none, .st lW (.t 15) (.t 13),none,[0,1,2,3,4,5,6,7,8,9]⟩] true 0)))
 (.region [] [oq 16 (.tB .add (.t 3) (.c lI [.int 1])),
 oq 3 (.mov (.t 16))] false 0))))
noncomputable def mI (E:Env) (v0:Int) (v1:Row):Option (Nat×List PV):=E.fix (stepOf E yO wO xO) [.r [.int v0], .r v1]
noncomputable def nI (E:Env) (X:Int→Row→Option (Nat×List PV)) (v0:Int) (v1:Row):Option (Nat×List PV):=
 if (decide (v0<4))=true then
 if (0:Int)≤v0∧v0<(4:Int)then
 part lW bE (0+(v0.toNat*1)) v1 fun y1=>
 if (0:Int)≤v0∧v0<(4:Int)then
 aA1 lW bE (0+(v0.toNat*1)) v1 [.int (bitsOf .xor .u64 (if Go.IntKind.signed .u64 then -1 else Go.IntKind.max .u64) ((at_ y1 0).vA))] fun r2=>
 X (Go.IntKind.i64.wrap (v0+1)) r2
 else none
 else none
 else
 some (0,[.r v1])
theorem aFl (E:Env) (X:List PV→Option (Nat×List PV)) (v0:Int) (v1:Row):stepOf E yO wO xO X [.r [.int v0], .r v1]=nI E (fun (v0:Int) (v1:Row)=>X [.r [.int v0], .r v1]) v0 v1:=by kernel_rfl
def iJ:rZ:={fn:=134,entry:=zO,res:=[],exit:=aP,body:=(.seq (.region [] [oq 3 (.mov (.c lI [.int 0]))] false 0)
 (.block 0 (.loop wO xO yO)))}
noncomputable def eT (E:Env) (p0:Row):Option (List PV):=
 (mI E 0 p0).bind fun x3=>
 some [.r (gR 0 x3.2)]
theorem aFm (E:Env) (p0:Row):j9 E iJ [.r p0]=eT E p0:=by kernel_rfl
def xG:rZ:={fn:=138,entry:=qL,res:=[.tmp 2],exit:=rL,body:=(.seq (.region [] [oq 2 (.mov (.c lU [.int 0]))] false 0)
 (.seq (.seq (.region [] [oq 4 (.mov (.t 0)),
 ⟨some 5, .eC (.t 4),none,[0]⟩,
 ⟨some 6, .xA 1 1 183 3 (.t 5),none,[0,1]⟩,
 ⟨some 7, .n3 (.t 6),none,[0,1,2]⟩,
 oq 8 (.mov (.t 0)),
 ⟨some 9, .eC (.t 8),none,[4]⟩,
 ⟨some 10, .xA 0 1 183 9 (.t 9),none,[4,5]⟩,
 ⟨some 11, .n3 (.t 10),none,[4,5,6]⟩,
 ⟨some 12, .aB3 (.t 11),none,[4,5,6,7]⟩,
 ⟨some 13, .dA .geq (.t 7) (.t 12),none,[0,1,2,3,4,5,6,7,8]⟩] true 0)
 (.cond (.t 13) (.seq (.region [] [oq 14 (.mov (.t 0)),
 oq 15 (.eC (.t 14)),
 oq 16 (.xA 13 1 183 4 (.t 15)),
 ⟨none, .stC (.t 16) (.c lB [.bool true]),none,[]⟩] false 0)
 (.seq (.region [] [oq 2 (.mov (.c lU [.int 0]))] false 0)
 .ret))
 .skip))
 (.seq (.region [] [oq 17 (.mov (.t 0)),
 ⟨some 18, .eC (.t 17),none,[0]⟩,
 ⟨some 19, .xA 0 1 183 9 (.t 18),none,[0,1]⟩,
 ⟨some 20, .n3 (.t 19),none,[0,1,2]⟩,
 oq 21 (.mov (.t 0)),
 ⟨some 22, .eC (.t 21),none,[4]⟩,
 ⟨some 23, .xA 1 1 183 3 (.t 22),none,[4,5]⟩,
 ⟨some 24, .n3 (.t 23),none,[4,5,6]⟩,
 ⟨some 25, .aB2 (.t 20) (.t 24),none,[0,1,2,3,4,5,6,7]⟩,
 ⟨some 3, .mov (.t 25),none,[0,1,2,3,4,5,6,7,8]⟩] true 0)
 (.seq (.region [] [oq 26 (.mov (.t 0)),
 oq 27 (.eC (.t 26)),
 oq 28 (.xA 1 1 183 3 (.t 27)),
 oq 29 (.n3 (.t 28)),
 oq 30 (.tB .add (.t 29) (.c lI [.int 1])),
 oq 31 (.eC (.t 26)),
 oq 32 (.xA 1 1 183 3 (.t 31)),
 ⟨none, .stC (.t 32) (.t 30),none,[]⟩] false 0)
 (.seq (.seq (.join [(.normal,{slots:=[(0, .ptr 0 0),(3, .d lU),(42, .d lB)],objs:=bS2,m:=3})] (.region [] [oq 33 (.mov (.t 3)),
 oq 34 (.dA .eql (.t 33) (.c lU [.int 93])),
 oq 35 (.mov (.t 34)),
 ⟨some 36, .mov (.t 3),some (35,false),[]⟩,
 ⟨some 37, .dA .eql (.t 36) (.c lU [.int 94]),some (35,false),[]⟩,
 oq 38 (.pick (.t 35) (.c lB [.bool true]) (.t 37)),
 oq 39 (.mov (.t 38)),
 ⟨some 40, .mov (.t 3),some (39,false),[]⟩,
 ⟨some 41, .dA .eql (.t 40) (.c lU [.int 45]),some (39,false),[]⟩,
 oq 42 (.pick (.t 39) (.c lB [.bool true]) (.t 41))] false 0))
 (.join [(.normal,{slots:=[(0, .ptr 0 0),(3, .d lU)],objs:=bS2,m:=3})] (.cond (.t 42) (.region [] [oq 43 (.mov (.t 0)),
 oq 44 (.eC (.t 43)),
 oq 45 (.xA 13 1 183 4 (.t 44)),
 ⟨none, .stC (.t 45) (.c lB [.bool true]),none,[]⟩] false 0)
 .skip)))
 (.seq (.seq (.region [] [oq 46 (.mov (.t 3)),
 oq 47 (.dA .eql (.t 46) (.c lU [.int 92]))] false 0)
 (.cond (.t 47) (.seq (.seq (.region [] [oq 48 (.mov (.t 0)),
 ⟨some 49, .eC (.t 48),none,[0]⟩,
 ⟨some 50, .xA 1 1 183 3 (.t 49),none,[0,1]⟩,
 ⟨some 51, .n3 (.t 50),none,[0,1,2]⟩,
 oq 52 (.mov (.t 0)),
 ⟨some 53, .eC (.t 52),none,[4]⟩,
 ⟨some 54, .xA 0 1 183 9 (.t 53),none,[4,5]⟩,
 ⟨some 55, .n3 (.t 54),none,[4,5,6]⟩,
 ⟨some 56, .aB3 (.t 55),none,[4,5,6,7]⟩,
 ⟨some 57, .dA .geq (.t 51) (.t 56),none,[0,1,2,3,4,5,6,7,8]⟩] true 0)
 (.cond (.t 57) (.seq (.region [] [oq 58 (.mov (.t 0)),
 oq 59 (.eC (.t 58)),
 oq 60 (.xA 13 1 183 4 (.t 59)),
 ⟨none, .stC (.t 60) (.c lB [.bool true]),none,[]⟩] false 0)
 (.seq (.region [] [oq 2 (.mov (.c lU [.int 0]))] false 0)
 .ret))
 .skip))
 (.seq (.region [] [oq 61 (.mov (.t 0)),
 ⟨some 62, .eC (.t 61),none,[0]⟩,
 ⟨some 63, .xA 0 1 183 9 (.t 62),none,[0,1]⟩,
 ⟨some 64, .n3 (.t 63),none,[0,1,2]⟩,
 oq 65 (.mov (.t 0)),
 ⟨some 66, .eC (.t 65),none,[4]⟩,
 ⟨some 67, .xA 1 1 183 3 (.t 66),none,[4,5]⟩,
 ⟨some 68, .n3 (.t 67),none,[4,5,6]⟩,
 ⟨some 69, .aB2 (.t 64) (.t 68),none,[0,1,2,3,4,5,6,7]⟩,
 ⟨some 3, .mov (.t 69),none,[0,1,2,3,4,5,6,7,8]⟩] true 0)
 (.region [] [oq 70 (.mov (.t 0)),
 oq 71 (.eC (.t 70)),
 oq 72 (.xA 1 1 183 3 (.t 71)),
 oq 73 (.n3 (.t 72)),
 oq 74 (.tB .add (.t 73) (.c lI [.int 1])),
 oq 75 (.eC (.t 70)),
 oq 76 (.xA 1 1 183 3 (.t 75)),
 ⟨none, .stC (.t 76) (.t 74),none,[]⟩] false 0)))
 .skip))
 (.seq (.region [] [oq 77 (.mov (.t 3)),
 oq 2 (.mov (.t 77))] false 0)
 .ret)))))))}
noncomputable def wD (E:Env) (p0:List UInt8) (p1:Int) (p2:Bool) (p3:Int) (p4:Int) (p5:Int) (p6:Int) (p7:Int) (p8:Int) (p9:Int) (wL:Int) (xL:Bool) (yL:C) (mK:C):Option (List PV):=
 if (decide (p1≥(p0.length:Int)))=true then
 some [.r [.int 0], .r [.str p0], .r [.int p1], .r [.bool p2], .r [.int p3], .r [.int p4], .r [.int p5], .r [.int p6], .r [.int p7], .r [.int p8], .r [.int p9], .r [.int wL], .r [.bool true], .r [yL], .r [mK]]
 else
 if (0:Int)≤p1∧p1<(p0.length:Int)then
 (let K1:Bool→Option (Nat×List PV):=fun q2=>
 let K3:Bool→Option (Nat×List PV):=fun q4=>
 some (0,[.r [.int ((p0.getD p1.toNat 0).toNat:Int)], .r [.bool q4], .r [.str p0], .r [.int (Go.IntKind.i64.wrap (p1+1))], .r [.bool p2], .r [.int p3], .r [.int p4], .r [.int p5], .r [.int p6], .r [.int p7], .r [.int p8], .r [.int p9], .r [.int wL], .r [.bool xL], .r [yL], .r [mK]])
 if q2=true then
 K3 true
 else
 K3 (((p0.getD p1.toNat 0).toNat:Int)==45)
 if (((p0.getD p1.toNat 0).toNat:Int)==93)=true then
 K1 true
 else
 K1 (((p0.getD p1.toNat 0).toNat:Int)==94)).bind fun x5=>
 (if (gB 1 x5.2)=true then
 some (0,[.r [.int (gI 0 x5.2)], .r [.str (gS 2 x5.2)], .r [.int (gI 3 x5.2)], .r [.bool (gB 4 x5.2)], .r [.int (gI 5 x5.2)], .r [.int (gI 6 x5.2)], .r [.int (gI 7 x5.2)], .r [.int (gI 8 x5.2)], .r [.int (gI 9 x5.2)], .r [.int (gI 10 x5.2)], .r [.int (gI 11 x5.2)], .r [.int (gI 12 x5.2)], .r [.bool true], .r [gC 14 x5.2], .r [gC 15 x5.2]])
 else
 some (0,[.r [.int (gI 0 x5.2)], .r [.str (gS 2 x5.2)], .r [.int (gI 3 x5.2)], .r [.bool (gB 4 x5.2)], .r [.int (gI 5 x5.2)], .r [.int (gI 6 x5.2)], .r [.int (gI 7 x5.2)], .r [.int (gI 8 x5.2)], .r [.int (gI 9 x5.2)], .r [.int (gI 10 x5.2)], .r [.int (gI 11 x5.2)], .r [.int (gI 12 x5.2)], .r [.bool (gB 13 x5.2)], .r [gC 14 x5.2], .r [gC 15 x5.2]])).bind fun x6=>
 if ((gI 0 x6.2)==92)=true then
 if (decide ((gI 2 x6.2)≥((gS 1 x6.2).length:Int)))=true then
 some [.r [.int 0], .r [.str (gS 1 x6.2)], .r [.int (gI 2 x6.2)], .r [.bool (gB 3 x6.2)], .r [.int (gI 4 x6.2)], .r [.int (gI 5 x6.2)], .r [.int (gI 6 x6.2)], .r [.int (gI 7 x6.2)], .r [.int (gI 8 x6.2)], .r [.int (gI 9 x6.2)], .r [.int (gI 10 x6.2)], .r [.int (gI 11 x6.2)], .r [.bool true], .r [gC 13 x6.2], .r [gC 14 x6.2]]
 else
 if (0:Int)≤(gI 2 x6.2)∧(gI 2 x6.2)<((gS 1 x6.2).length:Int)then
 some [.r [.int (((gS 1 x6.2).getD ((gI 2 x6.2).toNat) 0).toNat:Int)], .r [.str (gS 1 x6.2)], .r [.int (Go.IntKind.i64.wrap ((gI 2 x6.2)+1))], .r [.bool (gB 3 x6.2)], .r [.int (gI 4 x6.2)], .r [.int (gI 5 x6.2)], .r [.int (gI 6 x6.2)], .r [.int (gI 7 x6.2)], .r [.int (gI 8 x6.2)], .r [.int (gI 9 x6.2)], .r [.int (gI 10 x6.2)], .r [.int (gI 11 x6.2)], .r [.bool (gB 12 x6.2)], .r [gC 13 x6.2], .r [gC 14 x6.2]]
 else none
 else
 some [.r [.int (gI 0 x6.2)], .r [.str (gS 1 x6.2)], .r [.int (gI 2 x6.2)], .r [.bool (gB 3 x6.2)], .r [.int (gI 4 x6.2)], .r [.int (gI 5 x6.2)], .r [.int (gI 6 x6.2)], .r [.int (gI 7 x6.2)], .r [.int (gI 8 x6.2)], .r [.int (gI 9 x6.2)], .r [.int (gI 10 x6.2)], .r [.int (gI 11 x6.2)], .r [.bool (gB 12 x6.2)], .r [gC 13 x6.2], .r [gC 14 x6.2]]
 else none
theorem aDK (E:Env) (p0:List UInt8) (p1:Int) (p2:Bool) (p3:Int) (p4:Int) (p5:Int) (p6:Int) (p7:Int) (p8:Int) (p9:Int) (wL:Int) (xL:Bool) (yL:C) (mK:C):j9 E xG [.r [.str p0], .r [.int p1], .r [.bool p2], .r [.int p3], .r [.int p4], .r [.int p5], .r [.int p6], .r [.int p7], .r [.int p8], .r [.int p9], .r [.int wL], .r [.bool xL], .r [yL], .r [mK]]=wD E p0 p1 p2 p3 p4 p5 p6 p7 p8 p9 wL xL yL mK:=by kernel_rfl
def rK:rZ:={fn:=136,entry:=jJ,res:=[],exit:=kJ,body:=(.region [] [oq 4 (.mov (.t 0)),
 oq 5 (.mov (.t 1)),
 ⟨some 6, .idiv .quo (.t 5) (.c lU [.int 64]),none,[1]⟩,
 ⟨some 7, .eC (.t 4),none,[0]⟩,
 ⟨some 8, .qF 4 181 86 lW (.t 7) (.t 6),none,[0,1,2,3]⟩,
 ⟨some 9, .ld lW 86 (.t 8),none,[0,1,2,3,4]⟩,
 oq 10 (.mov (.t 1)),
 ⟨some 11, .idiv .rem (.t 10) (.c lU [.int 64]),none,[6]⟩,
 ⟨some 12, .shf .shl (.c lW [.int 1]) (.t 11),none,[6,7]⟩,
 ⟨some 13, .tB .or (.t 9) (.t 12),none,[0,1,2,3,4,5,6,7,8]⟩,
 ⟨some 14, .eC (.t 4),none,[0]⟩,
 ⟨some 15, .qF 4 181 86 lW (.t 14) (.t 6),none,[0,1,2,3,4,5,6,7,8,9,10]⟩,
 ⟨none, .st lW (.t 15) (.t 13),none,[0,1,2,3,4,5,6,7,8,9,10,11]⟩] true 0)}
noncomputable def xU (E:Env) (p0:Int) (p1:Row):Option (List PV):=
 if (0:Int)≤(Go.IntKind.u8.wrap (p0.tdiv 64))∧(Go.IntKind.u8.wrap (p0.tdiv 64))<(4:Int)then
 part lW bE (0+(((Go.IntKind.u8.wrap (p0.tdiv 64)).toNat)*1)) p1 fun y1=>
 if p0.tmod 64<0 then none else if (0:Int)≤(Go.IntKind.u8.wrap (p0.tdiv 64))∧(Go.IntKind.u8.wrap (p0.tdiv 64))<(4:Int)then
 aA1 lW bE (0+(((Go.IntKind.u8.wrap (p0.tdiv 64)).toNat)*1)) p1 [.int (bitsOf .or .u64 ((at_ y1 0).vA) (Go.IntKind.u64.wrap (1*2^(min ((p0.tmod 64).toNat) (Go.IntKind.bits .u64)))))] fun r2=>
 some [.r r2]
 else none
 else none
theorem aGi (E:Env) (p0:Int) (p1:Row):j9 E rK [.r [.int p0], .r p1]=xU E p0 p1:=by kernel_rfl
end Go.Ev
