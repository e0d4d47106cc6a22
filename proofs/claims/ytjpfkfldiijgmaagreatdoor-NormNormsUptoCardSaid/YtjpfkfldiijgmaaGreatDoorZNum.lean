/-
  A part of the proof: what the functions of the program compute.
-/
import Derived.Test.YtjpfkfldiijgmaaGreatDoorEvZ
set_option linter.all false
set_option maxRecDepth 100000
namespace Go.Ev
def aN4:Nat:=3
def aBu:Nat:=4
def aFe:Nat:=5
def aF6:Nat:=6
def bN:Nat:=7
def yH:Nat:=8
def mF:Nat:=9
def aFO:Nat:=10
def aIN:Nat:=11
def aMo:Nat:=12
def lT:Nat:=13
def aBQ:Nat:=14
def kT:Nat:=15
def aMm:Nat:=16
def sZ:Nat:=17
def aHQ:Nat:=18
def yE:Nat:=19
def rT:Nat:=20
def aBF:Nat:=23
def uY:Nat:=25
def aTV:Nat:=27
def aBG:Nat:=29
def aBP:Nat:=30
def uJ:Nat:=31
def rX:Nat:=32
def aPR:Nat:=33
def aN:Nat:=34
def mL:Nat:=35
def gU:Nat:=36
def fJ:Nat:=37
def aF2:Nat:=38
def qZ:Nat:=39
def aIE:Nat:=41
def oX:Nat:=42
def aG2:Nat:=44
def aBp:Nat:=45
def aAW:Nat:=46
def aFQ:Nat:=47
def dG:Nat:=48
def kH:Nat:=49
def tJ:Nat:=50
def lR:Nat:=51
def gZ:Nat:=52
def aC5:Nat:=53
def aHP:Nat:=54
def dD:Nat:=55
def aLY:Nat:=58
def aHK:Nat:=59
def aEq:Nat:=61
def aGy:Nat:=62
def nV:Nat:=63
def mV:Nat:=64
def cJ:Nat:=65
def kJ:Nat:=66
def aCK:Nat:=67
def aNP:Nat:=68
def mK:Nat:=69
def aPM:Nat:=70
def aKA:Nat:=71
def aJR:Nat:=72
def aQ:Nat:=73
def kY:Nat:=74
def lY:Nat:=75
def fS:Nat:=76
def fQ:Nat:=77
def fI:Nat:=78
def aD1:Nat:=79
def aV:Nat:=80
def aAL:Nat:=84
def bP:Nat:=85
def aCI:Nat:=86
def aGJ:Nat:=87
def aLX:Nat:=88
def aJI:Nat:=90
def lH:Nat:=94
def aCy:Nat:=95
def aHB:Nat:=96
def aHC:Nat:=97
def aFI:Nat:=98
def lE:Nat:=99
def qL:Nat:=100
def vP:Nat:=103
def aCq:Nat:=107
def aAp:Nat:=108
def aCx:Nat:=109
def aFH:Nat:=110
def aCH:Nat:=112
def wU:Nat:=113
def w9:Nat:=114
def xU:Nat:=119
def nI:Nat:=125
def zL:Nat:=126
def s9:Nat:=128
def cP:Nat:=129
def yL:Nat:=137
def bD:Nat:=181
def bC:Nat:=182
def wK:Nat:=185
def sH:Nat:=187
def kE:Nat:=188
def rO:Nat:=186
def sU:Nat:=190
def uU:Nat:=191
def fK:Nat:=189
def sP:Nat:=184
def nS:Nat:=193
def rI:Nat:=192
def uP:Nat:=183
def wH:Nat:=194
def xH:Nat:=195
def jG:Nat:=180
def gE:Nat:=179
def vU:Nat:=196
def bT:Nat:=197
def nX:Nat:=178
def aM:Nat:=198
def tM:Nat:=200
def jT:Nat:=199
abbrev hM:L:= .agg [.int .i64,.str,.str,.sl 9,.int .i64,.int .i64,.int .i64,.int .u8,.int .i64,.int .i64,.str,.sl 77,.sl 56,.sl 29]
abbrev lA1:L:= .agg [.str,.int .i64,.int .i64,.str,.sl 77]
abbrev lA2:L:= .agg [.int .i64,.int .i64,.str,.sl 77]
abbrev lA3:L:= .agg [.bool,.bool,.bool,.bool,.bool,.bool,.bool,.bool,.int .i64]
abbrev lA4:L:= .agg [.sl 194,.sl 158,.bool,.int .u64,.int .u64,.int .u64,.int .u64,.int .u64,.int .u64,.int .u64,.int .u64]
abbrev uR:L:= .agg [.int .u64,.int .u64,.int .u64,.int .u64]
abbrev lA6:L:= .agg [.bool,.int .u64,.int .u64,.int .u64,.int .u64,.int .u64,.int .u64,.int .u64,.int .u64]
abbrev lA7:L:= .agg [.sl 170,.sl 4]
abbrev lA8:L:= .agg [.int .i64,.int .i64,.str,.sl 77,.int .i64,.int .i64,.str,.sl 77]
abbrev lA9:L:= .agg [.sl 3,.int .i64,.int .i64]
abbrev bJR:L:= .agg [.int .u8,.bool]
abbrev bJS:L:= .agg [.int .i64,.int .i64]
abbrev oS0:zN:= .cells false [.d lI,.d lI,.d lS,.whole 2]
abbrev oS1:zN:= .cells false [.d lI,.d lS,.d lS,.d (.one (.sl 9)),.d lI,.d lI,.d lI,.d lU,.d lI,.d lI,.d lS,.d (.one (.sl 77)),.d (.one (.sl 56)),.d (.one (.sl 29))]
abbrev oS2:zN:= .cells false [.d lI,.d lS,.d lS,.sw 3,.d lI,.d lI,.d lI,.d lU,.d lI,.d lI,.d lS,.d (.one (.sl 77)),.sw 4,.sw 5]
abbrev oS3:zN:= .cells false [.d lI,.d lS,.d lS,.sw 2,.d lI,.d lI,.d lI,.d lU,.d lI,.d lI,.d lS,.d (.one (.sl 77)),.sw 3,.sw 4]
abbrev oS4:zN:= .cells false [.d lS,.d lI,.sw 1,.whole 2,.d lB,.d lW,.d lW,.d lW,.d lW,.d lW,.d lW,.d lW,.d lW,.d lB]
abbrev oS5:zN:= .cells false [.d lS,.d lI,.sw 2,.whole 0,.d lB,.d lW,.d lW,.d lW,.d lW,.d lW,.d lW,.d lW,.d lW,.d lB]
abbrev bS0:List zN:=[.var (.agg (List.replicate 1024 (.int .u64)))]
abbrev bS1:List zN:=[oS1,.var hM,oS2,.zA 9 lS,.zA 56 lA8,.zA 29 hM]
abbrev bS2:List zN:=[.var hM,oS3,.zA 9 lS,.zA 56 lA8,.zA 29 hM]
abbrev bS3:List zN:=[oS4,.zA 194 uR,.arr uR]
abbrev bS4:List zN:=[oS4,.zA 194 uR,.arr uR,.var uR,.var uR]
abbrev bS5:List zN:=[oS4,.zA 194 uR,.arr uR,.var lA6,.var lA6]
abbrev bS6:List zN:=[.arr uR,oS5,.zA 194 uR]
abbrev bS7:List zN:=[oS4,.zA 194 uR,.arr uR,.var lA6,.var lA6,.var lA6]
def j0:Shape:={slots:=[(0,.ptr 0 0)],objs:=bS3}
def j3:Shape:={slots:=[(0,.d lB)],objs:=bS3,m:=3}
def j4:Shape:={slots:=[(0,.ptr 0 0)],objs:=bS3}
def j5:Shape:={slots:=[(0,.d lU)],objs:=bS3,m:=3}
def aAq:Shape:={slots:=[(0,.ptr 0 0)],objs:=[.var uR]}
def aAr:Shape:={slots:=[],objs:=[.var uR],m:=1}
def oV:Shape:={slots:=[(0,.ptr 0 0)],objs:=bS3}
def pV:Shape:={slots:=[(0,.d lU)],objs:=bS3,m:=3}
def aAs:Shape:={slots:=[(0,.ptr 0 0),(1,.d lU)],objs:=[.var uR]}
def aAt:Shape:={slots:=[],objs:=[.var uR],m:=1}
def bX:Shape:={slots:=[(0,.ptr 0 0)],objs:=bS3}
def cX:Shape:={slots:=[(0,.d uR)],objs:=bS3,m:=3}
def aCz:Shape:={slots:=[(0,.ptr 0 1),(1,.d lI)],objs:=[.var lA6]}
def aCA:Shape:={slots:=[],objs:=[.var lA6],m:=1}
def aCB:Shape:={slots:=[(0,.ptr 0 5),(1,.d lI)],objs:=[.var lA6]}
def aCC:Shape:={slots:=[],objs:=[.var lA6],m:=1}
def sQ:Shape:={slots:=[(0,.ptr 0 0),(1,.d uR)],objs:=bS3}
def tQ:Shape:={slots:=[(0,.d lA6)],objs:=bS3,m:=3}
def u5:Shape:={slots:=[(0,.ptr 0 0)],objs:=bS3}
def j6:Shape:={slots:=[(0,.d lA6)],objs:=bS3,m:=3}
def aBH:Shape:={slots:=[(0,.eM 0),(1,.d uR)],objs:=bS6}
def aBI:Shape:={slots:=[],objs:=bS6,m:=3}
def eX:Shape:={slots:=[(0,.ptr 0 0),(1,.d uR),(2,.d uR)],objs:=bS3}
def fX:Shape:={slots:=[],objs:=bS3,m:=3}
def s6:Shape:={slots:=[(0,.ptr 0 0)],objs:=bS3}
def u6:Shape:={slots:=[(0,.d lA6)],objs:=bS3,m:=3}
def aBJ:Shape:={slots:=[(0,.ptr 0 1),(1,.d uR)],objs:=[.var lA6]}
def aBK:Shape:={slots:=[],objs:=[.var lA6],m:=1}
def aBL:Shape:={slots:=[(0,.ptr 0 5),(1,.d uR)],objs:=[.var lA6]}
def aBM:Shape:={slots:=[],objs:=[.var lA6],m:=1}
def vR:Shape:={slots:=[(0,.ptr 0 0)],objs:=bS3}
def wR:Shape:={slots:=[(0,.d lA6)],objs:=bS3,m:=3}
def lO:Shape:={slots:=[(0,.ptr 0 0)],objs:=bS3}
def mO:Shape:={slots:=[(0,.d lA6)],objs:=bS3,m:=3}
def aCE:Shape:={slots:=[(0,.aTw 0),(1,.d lI)],objs:=bS0}
def aCF:Shape:={slots:=[],objs:=bS0,m:=1}
def aBN:Shape:={slots:=[(0,.ptr 0 0),(1,.d uR)],objs:=[.var uR]}
def aBO:Shape:={slots:=[],objs:=[.var uR],m:=1}
def aDz:Shape:={slots:=[(0,.ptr 0 0),(1,.d lI)],objs:=[.var uR]}
def aDA:Shape:={slots:=[],objs:=[.var uR],m:=1}
def xR:Shape:={slots:=[(0,.d (.one (.sl 77)))],objs:=[]}
def yR:Shape:={slots:=[(0,.whole 0)],objs:=[.arr lA1],m:=0}
def dU:Shape:={slots:=[(0,.d (.one (.sl 29)))],objs:=[]}
def eU:Shape:={slots:=[(0,.sw 0)],objs:=[.zA 29 hM],m:=0}
def aBR:Shape:={slots:=[(0,.d (.one (.sl 3)))],objs:=[]}
def aBS:Shape:={slots:=[(0,.sw 0)],objs:=[.zA 3 lI],m:=0}
def aBT:Shape:={slots:=[(0,.ptr 0 0),(1,.d (.one (.sl 9)))],objs:=[.cells false [.sw 1],.zA 5 lU]}
def aBU:Shape:={slots:=[],objs:=[.cells false [.sw 1],.zA 5 lU],m:=2}
def j7:Shape:={slots:=[(0,.ptr 0 0),(1,.d lA2)],objs:=[.cells false [.sw 1],.zA 5 lU]}
def n7:Shape:={slots:=[],objs:=[.cells false [.sw 1],.zA 5 lU],m:=2}
def aAx:Shape:={slots:=[(0,.ptr 0 0),(1,.d hM),(2,.d lA3)],objs:=[.cells false [.sw 1],.zA 5 lU]}
def aAy:Shape:={slots:=[],objs:=[.cells false [.sw 1],.zA 5 lU],m:=2}
def aAz:Shape:={slots:=[(0,.ptr 0 0),(1,.d hM)],objs:=[.cells false [.sw 1],.zA 5 lU]}
def aAA:Shape:={slots:=[],objs:=[.cells false [.sw 1],.zA 5 lU],m:=2}
def u7:Row:=[.int 0,.int 1,.int 28,.int 2,.int 29,.int 14,.int 24,.int 3,.int 30,.int 22,.int 20,.int 15,.int 25,.int 17,.int 4,.int 8,.int 31,.int 27,.int 13,.int 23,.int 21,.int 19,.int 16,.int 7,.int 26,.int 12,.int 18,.int 6,.int 11,.int 5,.int 10,.int 9]
def gF:Row:=[.int 1,.int 10,.int 100,.int 1000,.int 10000,.int 100000,.int 1000000,.int 10000000,.int 100000000,.int 1000000000,.int 10000000000,.int 100000000000,.int 1000000000000,.int 10000000000000,.int 100000000000000,.int 1000000000000000,.int 10000000000000000,.int 100000000000000000,.int 1000000000000000000,.int 10000000000000000000]
def wX:Row:=[.int 0,.int 0,.int 0,.int 0,.int 0,.int 0,.int 0,.int 0,.int 0,.int 1,.int 1,.int 1,.int 1,.int 1,.int 0,.int 0,.int 0,.int 0,.int 0,.int 0,.int 0,.int 0,.int 0,.int 0,.int 0,.int 0,.int 0,.int 0,.int 0,.int 0,.int 0,.int 0,.int 1,.int 0,.int 0,.int 0,.int 0,.int 0,.int 0,.int 0,.int 0,.int 0,.int 0,.int 0,.int 0,.int 0,.int 0,.int 0,.int 0,.int 0,.int 0,.int 0,.int 0,.int 0,.int 0,.int 0,.int 0,.int 0,.int 0,.int 0,.int 0,.int 0,.int 0,.int 0,.int 0,.int 0,.int 0,.int 0,.int 0,.int 0,.int 0,.int 0,.int 0,.int 0,.int 0,.int 0,.int 0,.int 0,.int 0,.int 0,.int 0,.int 0,.int 0,.int 0,.int 0,.int 0,.int 0,.int 0,.int 0,.int 0,.int 0,.int 0,.int 0,.int 0,.int 0,.int 0,.int 0,.int 0,.int 0,.int 0,.int 0,.int 0,.int 0,.int 0,.int 0,.int 0,.int 0,.int 0,.int 0,.int 0,.int 0,.int 0,.int 0,.int 0,.int 0,.int 0,.int 0,.int 0,.int 0,.int 0,.int 0,.int 0,.int 0,.int 0,.int 0,.int 0,.int 0,.int 0,.int 0,.int 0,.int 0,.int 0,.int 0,.int 0,.int 0,.int 0,.int 0,.int 0,.int 0,.int 0,.int 0,.int 0,.int 0,.int 0,.int 0,.int 0,.int 0,.int 0,.int 0,.int 0,.int 0,.int 0,.int 0,.int 0,.int 0,.int 0,.int 0,.int 0,.int 0,.int 0,.int 0,.int 0,.int 0,.int 0,.int 0,.int 0,.int 0,.int 0,.int 0,.int 0,.int 0,.int 0,.int 0,.int 0,.int 0,.int 0,.int 0,.int 0,.int 0,.int 0,.int 0,.int 0,.int 0,.int 0,.int 0,.int 0,.int 0,.int 0,.int 0,.int 0,.int 0,.int 0,.int 0,.int 0,.int 0,.int 0,.int 0,.int 0,.int 0,.int 0,.int 0,.int 0,.int 0,.int 0,.int 0,.int 0,.int 0,.int 0,.int 0,.int 0,.int 0,.int 0,.int 0,.int 0,.int 0,.int 0,.int 0,.int 0,.int 0,.int 0,.int 0,.int 0,.int 0,.int 0,.int 0,.int 0,.int 0,.int 0,.int 0,.int 0,.int 0,.int 0,.int 0,.int 0,.int 0,.int 0,.int 0,.int 0,.int 0,.int 0,.int 0,.int 0,.int 0,.int 0,.int 0,.int 0,.int 0,.int 0,.int 0,.int 0,.int 0,.int 0,.int 0,.int 0,.int 0,.int 0]
def j8:Row:=[.int 0,.int 1,.int 56,.int 2,.int 57,.int 49,.int 28,.int 3,.int 61,.int 58,.int 42,.int 50,.int 38,.int 29,.int 17,.int 4,.int 62,.int 47,.int 59,.int 36,.int 45,.int 43,.int 51,.int 22,.int 53,.int 39,.int 33,.int 30,.int 24,.int 18,.int 12,.int 5,.int 63,.int 55,.int 48,.int 27,.int 60,.int 41,.int 37,.int 16,.int 46,.int 35,.int 44,.int 21,.int 52,.int 32,.int 23,.int 11,.int 54,.int 26,.int 40,.int 15,.int 34,.int 20,.int 31,.int 10,.int 25,.int 14,.int 19,.int 9,.int 13,.int 8,.int 7,.int 6]
def aLF:Shape:={slots:=[(3,.d lI),(7,.d (.one (.sl 29))),(8,.d lI),(9,.d lI)],objs:=[]}
def aLG:List (eB×Shape):=[(.exit 0,{slots:=[(3,.d lI)],objs:=[]})]
def aLI:Shape:={slots:=[(3,.d lI),(7,.d (.one (.sl 29))),(8,.d lI),(9,.d lI)],objs:=[]}
def aLJ:List (eB×Shape):=[(.exit 0,{slots:=[(3,.d lI)],objs:=[]})]
def aI5:Shape:={slots:=[(3,.d lI),(6,.d (.one (.sl 3))),(7,.d lI),(8,.d lI)],objs:=[]}
def aI6:List (eB×Shape):=[(.exit 0,{slots:=[(3,.d lI)],objs:=[]}),(.ret,{slots:=[(2,.d lI)],objs:=[]})]
def jI:Shape:={slots:=[(0,.d (.one (.sl 77))),(1,.d (.one (.sl 77))),(2,.d (.one (.fn 109))),(11,.d (.one (.sl 77))),(12,.d lI),(13,.d lI)],objs:=[]}
def mI:List (eB×Shape):=[(.exit 0,{slots:=[(0,.d (.one (.sl 77))),(1,.d (.one (.sl 77)))],objs:=[]}),(.ret,{slots:=[(6,.d lI)],objs:=[]})]
def aI8:Shape:={slots:=[(23,.d (.one (.sl 5))),(24,.d lI),(25,.d lI)],objs:=[]}
def aI9:List (eB×Shape):=[(.exit 0,{slots:=[],objs:=[]}),(.ret,{slots:=[(2,.d lB)],objs:=[]})]
def aJb:Shape:={slots:=[(3,.d lI),(7,.d (.one (.sl 77))),(8,.d lI),(9,.d lI)],objs:=[]}
def aJc:List (eB×Shape):=[(.exit 0,{slots:=[(3,.d lI)],objs:=[]})]
def aJe:Shape:={slots:=[(3,.d lI),(7,.d (.one (.sl 77))),(8,.d lI),(9,.d lI)],objs:=[]}
def aJf:List (eB×Shape):=[(.exit 0,{slots:=[(3,.d lI)],objs:=[]})]
def cK:Shape:={slots:=[(0,.d (.one (.sl 77))),(1,.d (.one (.fn 192))),(7,.d lI),(8,.d lI)],objs:=[]}
def dK:List (eB×Shape):=[(.exit 0,{slots:=[],objs:=[]}),(.ret,{slots:=[(4,.d lI)],objs:=[]})]
def aHz:Shape:={slots:=[(0,.d (.one (.sl 77))),(5,.d (.one (.sl 77))),(6,.d lI),(7,.d lI)],objs:=[]}
def aHA:List (eB×Shape):=[(.exit 0,{slots:=[],objs:=[]}),(.ret,{slots:=[(2,.d lI)],objs:=[]})]
def aJi:Shape:={slots:=[(1,.d (.one (.ref 25))),(6,.d (.one (.sl 77))),(7,.d lI),(8,.d lI)],objs:=[]}
def aJj:List (eB×Shape):=[(.exit 0,{slots:=[],objs:=[]}),(.ret,{slots:=[(2,.d lI)],objs:=[]})]
def aJl:Shape:={slots:=[(46,.d (.one (.sl 77))),(47,.d lI),(48,.d lI)],objs:=[]}
def aJm:List (eB×Shape):=[(.exit 1,{slots:=[],objs:=[]}),(.ret,{slots:=[(4,.d lI)],objs:=[]})]
def qP:Shape:={slots:=[(0,.ptr 0 0),(3,.d lI)],objs:=[.var uR],m:=1}
def rP:List (eB×Shape):=[(.exit 0,{slots:=[],objs:=[.var uR],m:=1})]
def mN:Shape:={slots:=[(0,.ptr 0 0),(2,.ptr 3 0),(3,.ptr 4 0),(4,.d lB),(6,.d lU),(7,.d lI)],objs:=bS4,m:=3}
def nN:List (eB×Shape):=[(.exit 2,{slots:=[(0,.ptr 0 0),(2,.ptr 3 0),(3,.ptr 4 0),(4,.d lB)],objs:=bS4,m:=3})]
def qN:Shape:={slots:=[(0,.ptr 0 0),(2,.ptr 3 0),(3,.ptr 4 0),(4,.d lB)],objs:=bS4,m:=3}
def rN:List (eB×Shape):=[(.exit 0,{slots:=[(0,.ptr 0 0),(2,.ptr 3 0),(3,.ptr 4 0),(4,.d lB)],objs:=bS4,m:=3})]
def vQ:Shape:={slots:=[(0,.eM 0),(3,.d (.one (.ref 158))),(5,.d lI)],objs:=bS6,m:=3}
def wQ:List (eB×Shape):=[(.exit 0,{slots:=[],objs:=bS6,m:=3})]
def uN:Shape:={slots:=[(0,.ptr 0 0),(4,.d (.one (.ref 158))),(5,.d (.one (.ref 158))),(12,.d lI),(13,.d lI)],objs:=bS3,m:=3}
def vN:List (eB×Shape):=[(.exit 0,{slots:=[],objs:=bS3,m:=3})]
def zQ:Shape:={slots:=[(0,.ptr 0 1),(3,.d (.one (.ref 158))),(5,.d lI)],objs:=[.var lA6],m:=1}
def aR:List (eB×Shape):=[(.exit 0,{slots:=[],objs:=[.var lA6],m:=1})]
def cR:Shape:={slots:=[(0,.ptr 0 5),(3,.d (.one (.ref 158))),(5,.d lI)],objs:=[.var lA6],m:=1}
def dR:List (eB×Shape):=[(.exit 0,{slots:=[],objs:=[.var lA6],m:=1})]
def iK:Shape:={slots:=[(0,.ptr 0 0),(2,.ptr 3 0),(3,.ptr 4 0)],objs:=bS5,m:=3}
def jK:List (eB×Shape):=[(.exit 0,{slots:=[(2,.ptr 3 0),(3,.ptr 4 0)],objs:=bS5,m:=3})]
def wG:Shape:={slots:=[(0,.ptr 0 0),(2,.ptr 3 0),(3,.ptr 4 0)],objs:=bS5,m:=3}
def xG:List (eB×Shape):=[(.exit 0,{slots:=[(2,.ptr 3 0),(3,.ptr 4 0)],objs:=bS5,m:=3})]
def aBj:Shape:={slots:=[(0,.d (.one (.ref 162))),(3,.ptr 0 0),(4,.d lI),(6,.d lI),(13,.d lI),(14,.d lI)],objs:=bS0}
def aBk:List (eB×Shape):=[(.exit 2,{slots:=[(0,.d (.one (.ref 162))),(3,.ptr 0 0),(6,.d lI)],objs:=bS0})]
def aBm:Shape:={slots:=[(0,.d (.one (.ref 162))),(3,.ptr 0 0),(6,.d lI)],objs:=bS0}
def aBn:List (eB×Shape):=[(.exit 0,{slots:=[(3,.ptr 0 0)],objs:=bS0})]
def fR:Shape:={slots:=[(0,.ptr 0 0),(3,.d (.one (.ref 158))),(5,.d lI)],objs:=[.var uR],m:=1}
def iR:List (eB×Shape):=[(.exit 0,{slots:=[],objs:=[.var uR],m:=1})]
def zS:Shape:={slots:=[(0,.d (.one (.ref 162))),(3,.d (.one (.ref 158))),(4,.ptr 0 0),(5,.ptr 1 0),(11,.d lI),(12,.d lI)],objs:=[.var uR,.var uR]}
def aT:List (eB×Shape):=[(.exit 0,{slots:=[(4,.ptr 0 0),(5,.ptr 1 0)],objs:=[.var uR,.var uR]})]
def lX:Shape:={slots:=[(0,.d (.one (.ref 162))),(3,.d (.one (.ref 158))),(14,.d lI)],objs:=[]}
def mX:List (eB×Shape):=[(.exit 0,{slots:=[],objs:=[]}),(.ret,{slots:=[(4,.d lB)],objs:=[]})]
def aDN:Shape:={slots:=[(2,.ptr 0 0),(4,.d (.one (.ref 162))),(7,.map 1),(8,.sw 2),(9,.ptr 3 0),(10,.d (.one (.ref 200))),(11,.d lI),(12,.ptr 4 0),(13,.ptr 5 0),(14,.d lI),(15,.ptr 6 0),(46,.d lI),(50,.d lI)],objs:=[.var lA7,.map uR (.one (.int .i16)),.zA 158 uR,.cells false [.sw 7,.sw 8],.var (.agg (List.replicate 256 (.int .i16))),.var uR,.var uR,.zA 170 (.agg (List.replicate 256 (.int .i16))),.zA 4 lB]}
def aDO:List (eB×Shape):=[(.exit 4,{slots:=[(2,.ptr 0 0),(4,.d (.one (.ref 162))),(7,.map 1),(8,.sw 2),(9,.ptr 3 0),(10,.d (.one (.ref 200))),(11,.d lI),(12,.ptr 4 0),(13,.ptr 5 0),(14,.d lI),(15,.ptr 6 0),(46,.d lI)],objs:=[.var lA7,.map uR (.one (.int .i16)),.zA 158 uR,.cells false [.sw 7,.sw 8],.var (.agg (List.replicate 256 (.int .i16))),.var uR,.var uR,.zA 170 (.agg (List.replicate 256 (.int .i16))),.zA 4 lB]})]
def aDQ:Shape:={slots:=[(2,.ptr 0 0),(4,.d (.one (.ref 162))),(7,.map 1),(8,.sw 2),(9,.ptr 3 0),(10,.d (.one (.ref 200))),(11,.d lI),(12,.ptr 4 0),(13,.ptr 5 0),(46,.d lI)],objs:=[.var lA7,.map uR (.one (.int .i16)),.zA 158 uR,.cells false [.sw 6,.sw 7],.var (.agg (List.replicate 256 (.int .i16))),.var uR,.zA 170 (.agg (List.replicate 256 (.int .i16))),.zA 4 lB]}
def aDR:List (eB×Shape):=[(.exit 2,{slots:=[(2,.ptr 0 0),(4,.d (.one (.ref 162))),(7,.map 1),(8,.sw 2),(9,.ptr 3 0),(10,.d (.one (.ref 200))),(11,.d lI),(12,.ptr 4 0)],objs:=[.var lA7,.map uR (.one (.int .i16)),.zA 158 uR,.cells false [.sw 5,.sw 6],.var (.agg (List.replicate 256 (.int .i16))),.zA 170 (.agg (List.replicate 256 (.int .i16))),.zA 4 lB]}),(.ret,{slots:=[(2,.ptr 0 0),(3,.d lI)],objs:=[.var lA7]})]
def aDT:Shape:={slots:=[(2,.ptr 0 0),(4,.d (.one (.ref 162))),(7,.map 1),(8,.sw 2),(9,.ptr 3 0),(10,.d (.one (.ref 200))),(11,.d lI)],objs:=[.var lA7,.map uR (.one (.int .i16)),.zA 158 uR,.cells false [.sw 4,.sw 5],.zA 170 (.agg (List.replicate 256 (.int .i16))),.zA 4 lB]}
def aDU:List (eB×Shape):=[(.exit 0,{slots:=[(2,.ptr 0 0),(9,.ptr 1 0)],objs:=[.var lA7,.cells false [.sw 2,.sw 3],.zA 170 (.agg (List.replicate 256 (.int .i16))),.zA 4 lB]}),(.ret,{slots:=[(2,.ptr 0 0),(3,.d lI)],objs:=[.var lA7]})]
def eT:Shape:={slots:=[(0,.d (.one (.sl 9))),(1,.d lS),(7,.d lI),(8,.d lI)],objs:=[]}
def fT:List (eB×Shape):=[(.exit 0,{slots:=[],objs:=[]}),(.ret,{slots:=[(4,.d lI)],objs:=[]})]
def aJu:Shape:={slots:=[(0,.d (.one (.sl 9))),(8,.d (.one (.sl 9))),(9,.d lI),(10,.d lI)],objs:=[]}
def aJv:List (eB×Shape):=[(.exit 0,{slots:=[],objs:=[]}),(.ret,{slots:=[(2,.d lI)],objs:=[]})]
def aJx:Shape:={slots:=[(0,.d (.one (.sl 56))),(3,.d lI),(4,.d (.one (.ref 56))),(5,.d lI),(15,.d (.one (.sl 56))),(16,.d lI),(17,.d lI),(22,.d lI),(53,.d (.one (.sl 56))),(54,.d lI),(55,.d lI)],objs:=[]}
def aJy:List (eB×Shape):=[(.exit 4,{slots:=[(0,.d (.one (.sl 56))),(3,.d lI),(4,.d (.one (.ref 56))),(15,.d (.one (.sl 56))),(16,.d lI),(17,.d lI),(22,.d lI)],objs:=[]}),(.ret,{slots:=[(2,.d lI)],objs:=[]})]
def aJA:Shape:={slots:=[(0,.d (.one (.sl 56))),(3,.d lI),(4,.d (.one (.ref 56))),(15,.d (.one (.sl 56))),(16,.d lI),(17,.d lI),(22,.d lI)],objs:=[]}
def aJB:List (eB×Shape):=[(.exit 2,{slots:=[(0,.d (.one (.sl 56))),(15,.d (.one (.sl 56))),(16,.d lI),(17,.d lI)],objs:=[]}),(.ret,{slots:=[(2,.d lI)],objs:=[]})]
def aJD:Shape:={slots:=[(0,.d (.one (.sl 56))),(15,.d (.one (.sl 56))),(16,.d lI),(17,.d lI)],objs:=[]}
def aJE:List (eB×Shape):=[(.exit 0,{slots:=[],objs:=[]}),(.ret,{slots:=[(2,.d lI)],objs:=[]})]
def aFK:Shape:={slots:=[(52,.d (.one (.sl 9))),(53,.d lI),(54,.d lI)],objs:=[]}
def aFL:List (eB×Shape):=[(.exit 1,{slots:=[],objs:=[]}),(.ret,{slots:=[(2,.d lI)],objs:=[]})]
def aL0:Shape:={slots:=[(13,.d (.one (.sl 29))),(14,.d lI),(15,.d lI)],objs:=[]}
def aL1:List (eB×Shape):=[(.exit 0,{slots:=[],objs:=[]}),(.ret,{slots:=[(2,.d lI)],objs:=[]})]
def aJG:Shape:={slots:=[(1,.ptr 0 0),(2,.ptr 1 0),(10,.d lI),(11,.d lI)],objs:=[oS0,.var lA2,.arr lA1]}
def aJH:List (eB×Shape):=[(.exit 0,{slots:=[(1,.ptr 0 0),(2,.ptr 1 0)],objs:=[oS0,.var lA2,.arr lA1]})]
def aL3:Shape:={slots:=[(1,.ptr 0 0),(2,.ptr 1 0),(3,.ptr 2 0),(20,.d (.one (.sl 56))),(21,.d lI),(22,.d lI)],objs:=bS1}
def aL4:List (eB×Shape):=[(.exit 0,{slots:=[(1,.ptr 0 0),(2,.ptr 1 0),(3,.ptr 2 0)],objs:=bS1})]
def aL6:Shape:={slots:=[(2,.ptr 0 0),(3,.ptr 1 0),(40,.d (.one (.sl 29))),(41,.d lI),(42,.d lI)],objs:=bS2}
def aL7:List (eB×Shape):=[(.exit 2,{slots:=[(2,.ptr 0 0),(3,.ptr 1 0)],objs:=bS2})]
def aL9:Shape:={slots:=[(2,.d (.one (.ref 29))),(4,.ptr 0 0),(33,.d (.one (.sl 29))),(34,.d lI),(35,.d lI)],objs:=[.var hM]}
def aMa:List (eB×Shape):=[(.exit 0,{slots:=[(4,.ptr 0 0)],objs:=[.var hM]}),(.ret,{slots:=[(4,.ptr 0 0),(5,.d lB)],objs:=[.var hM]})]
def aMe:Shape:={slots:=[(1,.d lI),(2,.d (.one (.sl 3))),(3,.d (.one (.ref 29))),(20,.d lI),(21,.d lI)],objs:=[]}
def aMf:List (eB×Shape):=[(.exit 0,{slots:=[(1,.d lI),(2,.d (.one (.sl 3))),(3,.d (.one (.ref 29)))],objs:=[]}),(.ret,{slots:=[(6,.d (.one (.sl 3))),(7,.d lI),(8,.d lB)],objs:=[]})]
def aMh:Shape:={slots:=[(1,.d lI),(2,.d (.one (.sl 3))),(37,.d (.one (.sl 29))),(38,.d lI),(39,.d lI)],objs:=[]}
def aMi:List (eB×Shape):=[(.exit 2,{slots:=[],objs:=[]}),(.ret,{slots:=[(6,.d (.one (.sl 3))),(7,.d lI),(8,.d lB)],objs:=[]})]
def aJK:Shape:={slots:=[(1,.d (.one (.ref 29))),(2,.ptr 0 0),(8,.d lI)],objs:=[.var lA9]}
def aJL:List (eB×Shape):=[(.exit 0,{slots:=[(2,.ptr 0 0)],objs:=[.var lA9]}),(.ret,{slots:=[(2,.ptr 0 0),(3,.d lB)],objs:=[.var lA9]})]
def aMk:Shape:={slots:=[(1,.ptr 0 0),(2,.ptr 1 0),(6,.sw 2)],objs:=[.var hM,.var hM,.zA 42 lA9]}
def aMl:List (eB×Shape):=[(.ret,{slots:=[(2,.ptr 0 0),(3,.d (.one (.sl 42))),(4,.d lI)],objs:=[.var hM]})]
def aKB:Shape:={slots:=[(0,.ptr 0 0),(6,.d (.one (.sl 9))),(7,.d lI),(8,.d lI)],objs:=[.cells false [.sw 1],.zA 5 lU],m:=2}
def aKC:List (eB×Shape):=[(.exit 0,{slots:=[],objs:=[.cells false [.sw 1],.zA 5 lU],m:=2})]
def aWY:Shape:={slots:=[(0,.d lS),(3,.sw 0),(8,.d lI),(9,.d lI)],objs:=[.zA 5 lU]}
def aWZ:List (eB×Shape):=[(.exit 0,{slots:=[(3,.sw 0)],objs:=[.zA 5 lU]})]
def aIh:Shape:={slots:=[(0,.ptr 0 0),(3,.d (.one (.ref 25))),(4,.whole 2),(74,.d lI),(75,.d lI)],objs:=[.cells false [.sw 1],.zA 5 lU,.arr lU],m:=2}
def aIj:List (eB×Shape):=[(.exit 4,{slots:=[(0,.ptr 0 0),(4,.whole 2)],objs:=[.cells false [.sw 1],.zA 5 lU,.arr lU],m:=2})]
def aIi:Shape:={slots:=[(0,.ptr 0 0),(3,.d (.one (.ref 25))),(18,.d (.one (.sl 77))),(19,.d lI),(20,.d lI)],objs:=[.cells false [.sw 1],.zA 5 lU],m:=2}
def aIk:List (eB×Shape):=[(.exit 1,{slots:=[(0,.ptr 0 0)],objs:=[.cells false [.sw 1],.zA 5 lU],m:=2})]
def aJW:Shape:={slots:=[(0,.ptr 0 0),(4,.d (.one (.ref 29))),(5,.d (.one (.ref 101))),(18,.d (.one (.sl 9))),(19,.d lI),(20,.d lI)],objs:=[.cells false [.sw 1],.zA 5 lU],m:=2}
def aJZ:List (eB×Shape):=[(.exit 0,{slots:=[(0,.ptr 0 0),(4,.d (.one (.ref 29))),(5,.d (.one (.ref 101)))],objs:=[.cells false [.sw 1],.zA 5 lU],m:=2})]
def aJX:Shape:={slots:=[(0,.ptr 0 0),(4,.d (.one (.ref 29))),(5,.d (.one (.ref 101))),(52,.d (.one (.sl 56))),(53,.d lI),(54,.d lI)],objs:=[.cells false [.sw 1],.zA 5 lU],m:=2}
def aJ0:List (eB×Shape):=[(.exit 2,{slots:=[(0,.ptr 0 0),(4,.d (.one (.ref 29))),(5,.d (.one (.ref 101)))],objs:=[.cells false [.sw 1],.zA 5 lU],m:=2})]
def aJY:Shape:={slots:=[(0,.ptr 0 0),(77,.d (.one (.sl 29))),(78,.d lI),(79,.d lI)],objs:=[.cells false [.sw 1],.zA 5 lU],m:=2}
def aJ1:List (eB×Shape):=[(.exit 4,{slots:=[(0,.ptr 0 0)],objs:=[.cells false [.sw 1],.zA 5 lU],m:=2})]
def aMu:Shape:={slots:=[(0,.d (.one (.sl 9))),(1,.d (.one (.sl 9))),(12,.d lI),(13,.d lI)],objs:=[]}
def aMv:List (eB×Shape):=[(.exit 0,{slots:=[],objs:=[]}),(.ret,{slots:=[(4,.d lB)],objs:=[]})]
def aDt:Shape:={slots:=[(1,.d (.one (.sl 56))),(2,.d (.one (.fn 64))),(15,.d (.one (.sl 56))),(16,.d lI),(17,.d lI)],objs:=[]}
def aDu:List (eB×Shape):=[(.exit 0,{slots:=[],objs:=[]}),(.ret,{slots:=[(6,.d lB)],objs:=[]})]
def aF7:Shape:={slots:=[(1,.d (.one (.sl 29))),(2,.d (.one (.fn 38))),(15,.d (.one (.sl 29))),(16,.d lI),(17,.d lI)],objs:=[]}
def aF8:List (eB×Shape):=[(.exit 0,{slots:=[],objs:=[]}),(.ret,{slots:=[(6,.d lB)],objs:=[]})]
def aCP:Shape:={slots:=[(3,.sw 0),(9,.d (.one (.sl 29))),(10,.d lI),(11,.d lI)],objs:=[.zA 29 hM]}
def aCQ:List (eB×Shape):=[(.exit 0,{slots:=[(3,.sw 0)],objs:=[.zA 29 hM]})]
def aBr:Shape:={slots:=[(3,.d lI),(8,.d (.one (.sl 29))),(9,.d lI),(10,.d lI)],objs:=[]}
def aBs:List (eB×Shape):=[(.exit 0,{slots:=[(3,.d lI)],objs:=[]})]
def aDZ:Shape:={slots:=[(3,.d (.one (.ref 25))),(36,.d (.one (.sl 77))),(37,.d lI),(38,.d lI)],objs:=[]}
def aD0:List (eB×Shape):=[(.exit 0,{slots:=[],objs:=[]}),(.ret,{slots:=[(4,.d lB)],objs:=[]})]
def aQ5:Shape:={slots:=[(0,.d lS),(3,.d lI),(4,.d lI),(5,.d lU),(6,.d lI)],objs:=[]}
def aQ9:List (eB×Shape):=[(.exit 0,{slots:=[(0,.d lS),(3,.d lI),(5,.d lU)],objs:=[]})]
def aQ6:Shape:={slots:=[(0,.d lS),(9,.whole 0),(10,.d lI),(12,.d lI)],objs:=[.arr lS]}
def aRa:List (eB×Shape):=[(.exit 2,{slots:=[(0,.d lS),(9,.whole 0),(10,.d lI),(12,.d lI)],objs:=[.arr lS]})]
def aQ4:Shape:={slots:=[(0,.d lS),(9,.whole 0),(10,.d lI),(12,.d lI)],objs:=[.arr lS]}
def aQ8:List (eB×Shape):=[(.exit 6,{slots:=[(0,.d lS),(9,.whole 0),(10,.d lI),(12,.d lI)],objs:=[.arr lS]})]
def aQ7:Shape:={slots:=[(0,.d lS),(9,.whole 0),(10,.d lI),(11,.d lI),(12,.d lI)],objs:=[.arr lS]}
def aRb:List (eB×Shape):=[(.exit 4,{slots:=[(0,.d lS),(9,.whole 0),(10,.d lI),(11,.d lI)],objs:=[.arr lS]})]
def uX:Shape:={slots:=[(3,.map 0),(10,.d (.one (.sl 9))),(11,.d lI),(12,.d lI)],objs:=[.map lS lI]}
def vX:List (eB×Shape):=[(.exit 0,{slots:=[],objs:=[]}),(.ret,{slots:=[(2,.d lI)],objs:=[]})]
def aCU:Shape:={slots:=[(0,.d (.one (.sl 56))),(3,.ptr 0 0),(19,.d (.one (.sl 56))),(20,.d lI),(21,.d lI),(25,.d lA8),(26,.d lI)],objs:=[.cells false [.map 1,.map 2],.map lS lB,.map lS lB]}
def aCV:List (eB×Shape):=[(.exit 2,{slots:=[(0,.d (.one (.sl 56))),(3,.ptr 0 0),(19,.d (.one (.sl 56))),(20,.d lI),(21,.d lI)],objs:=[.cells false [.map 1,.map 2],.map lS lB,.map lS lB]}),(.ret,{slots:=[(2,.d lI)],objs:=[]})]
def aCX:Shape:={slots:=[(0,.d (.one (.sl 56))),(3,.ptr 0 0),(19,.d (.one (.sl 56))),(20,.d lI),(21,.d lI)],objs:=[.cells false [.map 1,.map 2],.map lS lB,.map lS lB]}
def aCY:List (eB×Shape):=[(.exit 0,{slots:=[],objs:=[]}),(.ret,{slots:=[(2,.d lI)],objs:=[]})]
def aD3:Shape:={slots:=[(1,.d (.one (.ref 29))),(4,.d lS),(65,.d (.one (.sl 88))),(66,.d lI),(67,.d lI)],objs:=[]}
def aD4:List (eB×Shape):=[(.exit 0,{slots:=[(1,.d (.one (.ref 29))),(4,.d lS)],objs:=[]}),(.ret,{slots:=[(2,.d lI)],objs:=[]})]
def aC0:Shape:={slots:=[(17,.d (.one (.sl 29))),(18,.d lI),(19,.d lI)],objs:=[]}
def aC1:List (eB×Shape):=[(.exit 0,{slots:=[],objs:=[]}),(.ret,{slots:=[(2,.d lI)],objs:=[]})]
def aC3:Shape:={slots:=[(1,.d (.one (.sl 3))),(5,.sw 0),(11,.d (.one (.sl 29))),(12,.d lI),(13,.d lI)],objs:=[.zA 40 (.one (.sl 3))]}
def aC4:List (eB×Shape):=[(.exit 0,{slots:=[(5,.sw 0)],objs:=[.zA 40 (.one (.sl 3))]})]
def aD6:Shape:={slots:=[(1,.d (.one (.sl 3))),(2,.ptr 0 0),(4,.ptr 1 0),(9,.d (.one (.sl 3))),(10,.d lI),(11,.d lI)],objs:=[.var hM,.var hM]}
def aD7:List (eB×Shape):=[(.exit 0,{slots:=[(1,.d (.one (.sl 3))),(2,.ptr 0 0),(4,.ptr 1 0)],objs:=[.var hM,.var hM]}),(.ret,{slots:=[(4,.ptr 0 0),(5,.d lI),(6,.d lB)],objs:=[.var hM]})]
def aFU:Shape:={slots:=[(6,.ptr 0 0),(8,.d lB),(41,.d (.one (.sl 29))),(42,.d lI),(43,.d lI)],objs:=[.var hM]}
def aFV:List (eB×Shape):=[(.exit 0,{slots:=[(6,.ptr 0 0),(8,.d lB)],objs:=[.var hM]})]
def aFX:Shape:={slots:=[(1,.d (.one (.ref 29))),(2,.ptr 0 0),(3,.ptr 1 0),(5,.d (.one (.sl 40))),(6,.d lI),(8,.d (.one (.sl 3))),(17,.d lI),(20,.d (.one (.sl 40))),(21,.d lI),(22,.d lI),(36,.d lI),(37,.d lI)],objs:=[.var hM,.var lA9]}
def aFY:List (eB×Shape):=[(.exit 4,{slots:=[(1,.d (.one (.ref 29))),(2,.ptr 0 0),(3,.ptr 1 0),(5,.d (.one (.sl 40))),(6,.d lI),(17,.d lI),(20,.d (.one (.sl 40))),(21,.d lI),(22,.d lI)],objs:=[.var hM,.var lA9]}),(.ret,{slots:=[(2,.ptr 0 0),(3,.ptr 1 0),(4,.d lB)],objs:=[.var hM,.var lA9]})]
def aF0:Shape:={slots:=[(1,.d (.one (.ref 29))),(2,.ptr 0 0),(3,.ptr 1 0),(5,.d (.one (.sl 40))),(6,.d lI),(17,.d lI),(20,.d (.one (.sl 40))),(21,.d lI),(22,.d lI)],objs:=[.var hM,.var lA9]}
def aF1:List (eB×Shape):=[(.exit 2,{slots:=[(1,.d (.one (.ref 29))),(2,.ptr 0 0),(3,.ptr 1 0),(5,.d (.one (.sl 40))),(17,.d lI)],objs:=[.var hM,.var lA9]}),(.ret,{slots:=[(2,.ptr 0 0),(3,.ptr 1 0),(4,.d lB)],objs:=[.var hM,.var lA9]})]
def aF4:Shape:={slots:=[(1,.d (.one (.ref 29))),(2,.ptr 0 0),(3,.ptr 1 0),(5,.d (.one (.sl 40))),(17,.d lI)],objs:=[.var hM,.var lA9]}
def aF5:List (eB×Shape):=[(.exit 0,{slots:=[(1,.d (.one (.ref 29))),(2,.ptr 0 0),(3,.ptr 1 0)],objs:=[.var hM,.var lA9]}),(.ret,{slots:=[(2,.ptr 0 0),(3,.ptr 1 0),(4,.d lB)],objs:=[.var hM,.var lA9]})]
def aD9:Shape:={slots:=[(1,.ptr 0 0),(2,.ptr 1 0),(6,.sw 2)],objs:=[.var hM,.var hM,.zA 43 lA9]}
def aEa:List (eB×Shape):=[(.ret,{slots:=[(2,.ptr 0 0),(3,.d (.one (.sl 43))),(4,.d lI)],objs:=[.var hM]})]
def aDa:Shape:={slots:=[(2,.d (.one (.ref 29))),(3,.d (.one (.ref 29))),(90,.d lI),(91,.d lI)],objs:=[]}
def aDb:List (eB×Shape):=[(.exit 0,{slots:=[(2,.d (.one (.ref 29))),(3,.d (.one (.ref 29)))],objs:=[]}),(.ret,{slots:=[(4,.d lB)],objs:=[]})]
def aDd:Shape:={slots:=[(2,.d (.one (.ref 29))),(3,.d (.one (.ref 29))),(108,.d lI),(109,.d lI)],objs:=[]}
def aDe:List (eB×Shape):=[(.exit 2,{slots:=[(2,.d (.one (.ref 29))),(3,.d (.one (.ref 29)))],objs:=[]}),(.ret,{slots:=[(4,.d lB)],objs:=[]})]
def aDg:Shape:={slots:=[(2,.d (.one (.ref 29))),(3,.d (.one (.ref 29))),(145,.d lI),(146,.d lI)],objs:=[]}
def aDh:List (eB×Shape):=[(.exit 4,{slots:=[],objs:=[]}),(.ret,{slots:=[(4,.d lB)],objs:=[]})]
def aH:Shape:={slots:=[(1,.d (.one (.sl 43))),(2,.d (.one (.fn 44))),(15,.d (.one (.sl 42))),(16,.d lI),(17,.d lI)],objs:=[]}
def bH:List (eB×Shape):=[(.exit 0,{slots:=[],objs:=[]}),(.ret,{slots:=[(6,.d lB)],objs:=[]})]
def aAd:Shape:={slots:=[(0,.d (.one (.sl 3))),(1,.d (.one (.sl 3))),(12,.d lI),(13,.d lI)],objs:=[]}
def aAe:List (eB×Shape):=[(.exit 0,{slots:=[],objs:=[]}),(.ret,{slots:=[(4,.d lB)],objs:=[]})]
end Go.Ev
