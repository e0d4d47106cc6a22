/-
  A part of the proof: what the functions of the program compute.
-/
import Derived.Test.YtdhebofenihjmaaGreatDoorEvZ
set_option linter.all false
set_option maxRecDepth 100000
namespace Go.Ev
def aNV:Nat:=3
def aBi:Nat:=4
def aNL:Nat:=5
def bR:Nat:=6
def bE:Nat:=7
def aFR:Nat:=8
def aBL:Nat:=9
def aFz:Nat:=10
def aIA:Nat:=11
def aMd:Nat:=12
def aP:Nat:=13
def tM:Nat:=14
def fL:Nat:=15
def uT:Nat:=16
def bF:Nat:=17
def aHD:Nat:=18
def aBE:Nat:=19
def aT:Nat:=20
def aMb:Nat:=21
def aBt:Nat:=24
def mY:Nat:=26
def aTN:Nat:=28
def aBu:Nat:=30
def aBD:Nat:=31
def aAK:Nat:=32
def aFB:Nat:=33
def dG:Nat:=34
def fH:Nat:=35
def oJ:Nat:=36
def zQ:Nat:=37
def zY:Nat:=38
def bJ:Nat:=39
def aFN:Nat:=40
def iZ:Nat:=41
def pJ:Nat:=42
def gX:Nat:=43
def aPJ:Nat:=44
def aIr:Nat:=46
def eX:Nat:=47
def aKr:Nat:=48
def aJF:Nat:=49
def vP:Nat:=50
def bY:Nat:=51
def cY:Nat:=52
def xR:Nat:=53
def zP:Nat:=54
def bI:Nat:=55
def aDM:Nat:=56
def aC1:Nat:=57
def aHC:Nat:=58
def iD:Nat:=59
def aGN:Nat:=61
def aBd:Nat:=62
def aLN:Nat:=65
def aHw:Nat:=66
def aEb:Nat:=68
def aGj:Nat:=69
def dV:Nat:=70
def cV:Nat:=71
def yI:Nat:=72
def fJ:Nat:=73
def aCw:Nat:=74
def gH:Nat:=78
def aCk:Nat:=79
def aHn:Nat:=80
def aHo:Nat:=81
def aFt:Nat:=82
def mU:Nat:=83
def aNH:Nat:=84
def fK:Nat:=85
def aPE:Nat:=86
def aAz:Nat:=90
def uO:Nat:=91
def aCu:Nat:=92
def aGu:Nat:=93
def aLM:Nat:=94
def aCc:Nat:=98
def aAd:Nat:=99
def aCj:Nat:=100
def aFs:Nat:=101
def aCt:Nat:=103
def gU:Nat:=104
def j8:Nat:=105
def mE:Nat:=106
def jL:Nat:=107
def aJw:Nat:=109
def pP:Nat:=112
def fI:Nat:=118
def uL:Nat:=119
def s7:Nat:=121
def vO:Nat:=122
def hU:Nat:=128
def sL:Nat:=130
def fD:Nat:=179
def bC:Nat:=180
def sK:Nat:=183
def nH:Nat:=185
def lE:Nat:=186
def iO:Nat:=184
def dU:Nat:=188
def eU:Nat:=189
def aK:Nat:=187
def nP:Nat:=182
def bS:Nat:=191
def mI:Nat:=190
def oP:Nat:=181
def sH:Nat:=192
def tH:Nat:=193
def jG:Nat:=178
def jE:Nat:=177
def fU:Nat:=194
def rS:Nat:=195
def dX:Nat:=176
def vL:Nat:=196
def mM:Nat:=198
def zS:Nat:=197
abbrev eJ:L:= .agg [.int .i64,.str,.str,.sl 9,.int .i64,.int .i64,.int .i64,.int .u8,.int .i64,.int .i64,.str,.sl 75,.sl 49,.sl 29]
abbrev lA1:L:= .agg [.str,.int .i64,.int .i64,.str,.sl 75]
abbrev lA2:L:= .agg [.int .i64,.int .i64,.str,.sl 75]
abbrev lA3:L:= .agg [.bool,.bool,.bool,.bool,.bool,.bool,.bool,.bool,.int .i64]
abbrev lA4:L:= .agg [.sl 186,.sl 148,.bool,.int .u64,.int .u64,.int .u64,.int .u64,.int .u64,.int .u64,.int .u64,.int .u64]
abbrev jR:L:= .agg [.int .u64,.int .u64,.int .u64,.int .u64]
abbrev lA6:L:= .agg [.bool,.int .u64,.int .u64,.int .u64,.int .u64,.int .u64,.int .u64,.int .u64,.int .u64]
abbrev lA7:L:= .agg [.sl 160,.sl 4]
abbrev lA8:L:= .agg [.int .i64,.int .i64,.str,.sl 75,.int .i64,.int .i64,.str,.sl 75]
abbrev lA9:L:= .agg [.sl 3,.int .i64,.int .i64]
abbrev bJI:L:= .agg [.int .u8,.bool]
abbrev bJJ:L:= .agg [.int .i64,.int .i64]
abbrev oS0:rN:= .cells false [.d lI,.d lI,.d lS,.whole 2]
abbrev oS1:rN:= .cells false [.d lI,.d lS,.d lS,.d (.one (.sl 9)),.d lI,.d lI,.d lI,.d lU,.d lI,.d lI,.d lS,.d (.one (.sl 75)),.d (.one (.sl 49)),.d (.one (.sl 29))]
abbrev oS2:rN:= .cells false [.d lI,.d lS,.d lS,.sw 3,.d lI,.d lI,.d lI,.d lU,.d lI,.d lI,.d lS,.d (.one (.sl 75)),.sw 4,.sw 5]
abbrev oS3:rN:= .cells false [.d lI,.d lS,.d lS,.sw 2,.d lI,.d lI,.d lI,.d lU,.d lI,.d lI,.d lS,.d (.one (.sl 75)),.sw 3,.sw 4]
abbrev oS4:rN:= .cells false [.d lS,.d lI,.sw 1,.whole 2,.d lB,.d lW,.d lW,.d lW,.d lW,.d lW,.d lW,.d lW,.d lW,.d lB]
abbrev oS5:rN:= .cells false [.d lS,.d lI,.sw 2,.whole 0,.d lB,.d lW,.d lW,.d lW,.d lW,.d lW,.d lW,.d lW,.d lW,.d lB]
abbrev bS0:List rN:=[.var (.agg (List.replicate 1024 (.int .u64)))]
abbrev bS1:List rN:=[oS1,.var eJ,oS2,.zA 9 lS,.zA 49 lA8,.zA 29 eJ]
abbrev bS2:List rN:=[.var eJ,oS3,.zA 9 lS,.zA 49 lA8,.zA 29 eJ]
abbrev bS3:List rN:=[oS4,.zA 186 jR,.arr jR]
abbrev bS4:List rN:=[oS4,.zA 186 jR,.arr jR,.var jR,.var jR]
abbrev bS5:List rN:=[oS4,.zA 186 jR,.arr jR,.var lA6,.var lA6]
abbrev bS6:List rN:=[.arr jR,oS5,.zA 186 jR]
abbrev bS7:List rN:=[oS4,.zA 186 jR,.arr jR,.var lA6,.var lA6,.var lA6]
def sZ:Shape:={slots:=[(0,.ptr 0 0)],objs:=bS3}
def tZ:Shape:={slots:=[(0,.d lB)],objs:=bS3,m:=3}
def uZ:Shape:={slots:=[(0,.ptr 0 0)],objs:=bS3}
def vZ:Shape:={slots:=[(0,.d lU)],objs:=bS3,m:=3}
def aAe:Shape:={slots:=[(0,.ptr 0 0)],objs:=[.var jR]}
def aAf:Shape:={slots:=[],objs:=[.var jR],m:=1}
def eV:Shape:={slots:=[(0,.ptr 0 0)],objs:=bS3}
def fV:Shape:={slots:=[(0,.d lU)],objs:=bS3,m:=3}
def aAg:Shape:={slots:=[(0,.ptr 0 0),(1,.d lU)],objs:=[.var jR]}
def aAh:Shape:={slots:=[],objs:=[.var jR],m:=1}
def sW:Shape:={slots:=[(0,.ptr 0 0)],objs:=bS3}
def tW:Shape:={slots:=[(0,.d jR)],objs:=bS3,m:=3}
def aCl:Shape:={slots:=[(0,.ptr 0 1),(1,.d lI)],objs:=[.var lA6]}
def aCm:Shape:={slots:=[],objs:=[.var lA6],m:=1}
def aCn:Shape:={slots:=[(0,.ptr 0 5),(1,.d lI)],objs:=[.var lA6]}
def aCo:Shape:={slots:=[],objs:=[.var lA6],m:=1}
def jQ:Shape:={slots:=[(0,.ptr 0 0),(1,.d jR)],objs:=bS3}
def kQ:Shape:={slots:=[(0,.d lA6)],objs:=bS3,m:=3}
def wZ:Shape:={slots:=[(0,.ptr 0 0)],objs:=bS3}
def xZ:Shape:={slots:=[(0,.d lA6)],objs:=bS3,m:=3}
def aBv:Shape:={slots:=[(0,.zL 0),(1,.d jR)],objs:=bS6}
def aBw:Shape:={slots:=[],objs:=bS6,m:=3}
def vW:Shape:={slots:=[(0,.ptr 0 0),(1,.d jR),(2,.d jR)],objs:=bS3}
def wW:Shape:={slots:=[],objs:=bS3,m:=3}
def yZ:Shape:={slots:=[(0,.ptr 0 0)],objs:=bS3}
def zZ:Shape:={slots:=[(0,.d lA6)],objs:=bS3,m:=3}
def aBx:Shape:={slots:=[(0,.ptr 0 1),(1,.d jR)],objs:=[.var lA6]}
def aBy:Shape:={slots:=[],objs:=[.var lA6],m:=1}
def aBz:Shape:={slots:=[(0,.ptr 0 5),(1,.d jR)],objs:=[.var lA6]}
def aBA:Shape:={slots:=[],objs:=[.var lA6],m:=1}
def lR:Shape:={slots:=[(0,.ptr 0 0)],objs:=bS3}
def mR:Shape:={slots:=[(0,.d lA6)],objs:=bS3,m:=3}
def dO:Shape:={slots:=[(0,.ptr 0 0)],objs:=bS3}
def eO:Shape:={slots:=[(0,.d lA6)],objs:=bS3,m:=3}
def aCq:Shape:={slots:=[(0,.aTo 0),(1,.d lI)],objs:=bS0}
def aCr:Shape:={slots:=[],objs:=bS0,m:=1}
def aBB:Shape:={slots:=[(0,.ptr 0 0),(1,.d jR)],objs:=[.var jR]}
def aBC:Shape:={slots:=[],objs:=[.var jR],m:=1}
def aDk:Shape:={slots:=[(0,.ptr 0 0),(1,.d lI)],objs:=[.var jR]}
def aDl:Shape:={slots:=[],objs:=[.var jR],m:=1}
def nR:Shape:={slots:=[(0,.d (.one (.sl 75)))],objs:=[]}
def oR:Shape:={slots:=[(0,.whole 0)],objs:=[.arr lA1],m:=0}
def qT:Shape:={slots:=[(0,.d (.one (.sl 29)))],objs:=[]}
def rT:Shape:={slots:=[(0,.sw 0)],objs:=[.zA 29 eJ],m:=0}
def aBF:Shape:={slots:=[(0,.d (.one (.sl 3)))],objs:=[]}
def aBG:Shape:={slots:=[(0,.sw 0)],objs:=[.zA 3 lI],m:=0}
def aBH:Shape:={slots:=[(0,.ptr 0 0),(1,.d (.one (.sl 9)))],objs:=[.cells false [.sw 1],.zA 5 lU]}
def aBI:Shape:={slots:=[],objs:=[.cells false [.sw 1],.zA 5 lU],m:=2}
def j0:Shape:={slots:=[(0,.ptr 0 0),(1,.d lA2)],objs:=[.cells false [.sw 1],.zA 5 lU]}
def j3:Shape:={slots:=[],objs:=[.cells false [.sw 1],.zA 5 lU],m:=2}
def aAl:Shape:={slots:=[(0,.ptr 0 0),(1,.d eJ),(2,.d lA3)],objs:=[.cells false [.sw 1],.zA 5 lU]}
def aAm:Shape:={slots:=[],objs:=[.cells false [.sw 1],.zA 5 lU],m:=2}
def aAn:Shape:={slots:=[(0,.ptr 0 0),(1,.d eJ)],objs:=[.cells false [.sw 1],.zA 5 lU]}
def aAo:Shape:={slots:=[],objs:=[.cells false [.sw 1],.zA 5 lU],m:=2}
def u5:Row:=[.int 0,.int 1,.int 28,.int 2,.int 29,.int 14,.int 24,.int 3,.int 30,.int 22,.int 20,.int 15,.int 25,.int 17,.int 4,.int 8,.int 31,.int 27,.int 13,.int 23,.int 21,.int 19,.int 16,.int 7,.int 26,.int 12,.int 18,.int 6,.int 11,.int 5,.int 10,.int 9]
def mX:Row:=[.int 0,.int 0,.int 0,.int 0,.int 0,.int 0,.int 0,.int 0,.int 0,.int 1,.int 1,.int 1,.int 1,.int 1,.int 0,.int 0,.int 0,.int 0,.int 0,.int 0,.int 0,.int 0,.int 0,.int 0,.int 0,.int 0,.int 0,.int 0,.int 0,.int 0,.int 0,.int 0,.int 1,.int 0,.int 0,.int 0,.int 0,.int 0,.int 0,.int 0,.int 0,.int 0,.int 0,.int 0,.int 0,.int 0,.int 0,.int 0,.int 0,.int 0,.int 0,.int 0,.int 0,.int 0,.int 0,.int 0,.int 0,.int 0,.int 0,.int 0,.int 0,.int 0,.int 0,.int 0,.int 0,.int 0,.int 0,.int 0,.int 0,.int 0,.int 0,.int 0,.int 0,.int 0,.int 0,.int 0,.int 0,.int 0,.int 0,.int 0,.int 0,.int 0,.int 0,.int 0,.int 0,.int 0,.int 0,.int 0,.int 0,.int 0,.int 0,.int 0,.int 0,.int 0,.int 0,.int 0,.int 0,.int 0,.int 0,.int 0,.int 0,.int 0,.int 0,.int 0,.int 0,.int 0,.int 0,.int 0,.int 0,.int 0,.int 0,.int 0,.int 0,.int 0,.int 0,.int 0,.int 0,.int 0,.int 0,.int 0,.int 0,.int 0,.int 0,.int 0,.int 0,.int 0,.int 0,.int 0,.int 0,.int 0,.int 0,.int 0,.int 0,.int 0,.int 0,.int 0,.int 0,.int 0,.int 0,.int 0,.int 0,.int 0,.int 0,.int 0,.int 0,.int 0,.int 0,.int 0,.int 0,.int 0,.int 0,.int 0,.int 0,.int 0,.int 0,.int 0,.int 0,.int 0,.int 0,.int 0,.int 0,.int 0,.int 0,.int 0,.int 0,.int 0,.int 0,.int 0,.int 0,.int 0,.int 0,.int 0,.int 0,.int 0,.int 0,.int 0,.int 0,.int 0,.int 0,.int 0,.int 0,.int 0,.int 0,.int 0,.int 0,.int 0,.int 0,.int 0,.int 0,.int 0,.int 0,.int 0,.int 0,.int 0,.int 0,.int 0,.int 0,.int 0,.int 0,.int 0,.int 0,.int 0,.int 0,.int 0,.int 0,.int 0,.int 0,.int 0,.int 0,.int 0,.int 0,.int 0,.int 0,.int 0,.int 0,.int 0,.int 0,.int 0,.int 0,.int 0,.int 0,.int 0,.int 0,.int 0,.int 0,.int 0,.int 0,.int 0,.int 0,.int 0,.int 0,.int 0,.int 0,.int 0,.int 0,.int 0,.int 0,.int 0,.int 0,.int 0,.int 0,.int 0,.int 0,.int 0,.int 0,.int 0,.int 0,.int 0,.int 0,.int 0,.int 0,.int 0,.int 0,.int 0,.int 0,.int 0]
def j6:Row:=[.int 0,.int 1,.int 56,.int 2,.int 57,.int 49,.int 28,.int 3,.int 61,.int 58,.int 42,.int 50,.int 38,.int 29,.int 17,.int 4,.int 62,.int 47,.int 59,.int 36,.int 45,.int 43,.int 51,.int 22,.int 53,.int 39,.int 33,.int 30,.int 24,.int 18,.int 12,.int 5,.int 63,.int 55,.int 48,.int 27,.int 60,.int 41,.int 37,.int 16,.int 46,.int 35,.int 44,.int 21,.int 52,.int 32,.int 23,.int 11,.int 54,.int 26,.int 40,.int 15,.int 34,.int 20,.int 31,.int 10,.int 25,.int 14,.int 19,.int 9,.int 13,.int 8,.int 7,.int 6]
def lF:Row:=[.int 1,.int 10,.int 100,.int 1000,.int 10000,.int 100000,.int 1000000,.int 10000000,.int 100000000,.int 1000000000,.int 10000000000,.int 100000000000,.int 1000000000000,.int 10000000000000,.int 100000000000000,.int 1000000000000000,.int 10000000000000000,.int 100000000000000000,.int 1000000000000000000,.int 10000000000000000000]
def aLu:Shape:={slots:=[(3,.d lI),(7,.d (.one (.sl 29))),(8,.d lI),(9,.d lI)],objs:=[]}
def aLv:List (eB×Shape):=[(.exit 0,{slots:=[(3,.d lI)],objs:=[]})]
def aLx:Shape:={slots:=[(3,.d lI),(7,.d (.one (.sl 29))),(8,.d lI),(9,.d lI)],objs:=[]}
def aLy:List (eB×Shape):=[(.exit 0,{slots:=[(3,.d lI)],objs:=[]})]
def aIT:Shape:={slots:=[(3,.d lI),(6,.d (.one (.sl 3))),(7,.d lI),(8,.d lI)],objs:=[]}
def aIU:List (eB×Shape):=[(.exit 0,{slots:=[(3,.d lI)],objs:=[]}),(.ret,{slots:=[(2,.d lI)],objs:=[]})]
def dI:Shape:={slots:=[(0,.d (.one (.sl 75))),(1,.d (.one (.sl 75))),(2,.d (.one (.fn 116))),(11,.d (.one (.sl 75))),(12,.d lI),(13,.d lI)],objs:=[]}
def eI:List (eB×Shape):=[(.exit 0,{slots:=[(0,.d (.one (.sl 75))),(1,.d (.one (.sl 75)))],objs:=[]}),(.ret,{slots:=[(6,.d lI)],objs:=[]})]
def aIW:Shape:={slots:=[(23,.d (.one (.sl 5))),(24,.d lI),(25,.d lI)],objs:=[]}
def aIX:List (eB×Shape):=[(.exit 0,{slots:=[],objs:=[]}),(.ret,{slots:=[(2,.d lB)],objs:=[]})]
def aIZ:Shape:={slots:=[(3,.d lI),(7,.d (.one (.sl 75))),(8,.d lI),(9,.d lI)],objs:=[]}
def aI0:List (eB×Shape):=[(.exit 0,{slots:=[(3,.d lI)],objs:=[]})]
def aI2:Shape:={slots:=[(3,.d lI),(7,.d (.one (.sl 75))),(8,.d lI),(9,.d lI)],objs:=[]}
def aI3:List (eB×Shape):=[(.exit 0,{slots:=[(3,.d lI)],objs:=[]})]
def xJ:Shape:={slots:=[(0,.d (.one (.sl 75))),(1,.d (.one (.fn 184))),(7,.d lI),(8,.d lI)],objs:=[]}
def yJ:List (eB×Shape):=[(.exit 0,{slots:=[],objs:=[]}),(.ret,{slots:=[(4,.d lI)],objs:=[]})]
def aHl:Shape:={slots:=[(0,.d (.one (.sl 75))),(5,.d (.one (.sl 75))),(6,.d lI),(7,.d lI)],objs:=[]}
def aHm:List (eB×Shape):=[(.exit 0,{slots:=[],objs:=[]}),(.ret,{slots:=[(2,.d lI)],objs:=[]})]
def aI6:Shape:={slots:=[(1,.d (.one (.ref 25))),(6,.d (.one (.sl 75))),(7,.d lI),(8,.d lI)],objs:=[]}
def aI7:List (eB×Shape):=[(.exit 0,{slots:=[],objs:=[]}),(.ret,{slots:=[(2,.d lI)],objs:=[]})]
def aI9:Shape:={slots:=[(46,.d (.one (.sl 75))),(47,.d lI),(48,.d lI)],objs:=[]}
def aJa:List (eB×Shape):=[(.exit 1,{slots:=[],objs:=[]}),(.ret,{slots:=[(4,.d lI)],objs:=[]})]
def lP:Shape:={slots:=[(0,.ptr 0 0),(3,.d lI)],objs:=[.var jR],m:=1}
def mP:List (eB×Shape):=[(.exit 0,{slots:=[],objs:=[.var jR],m:=1})]
def dN:Shape:={slots:=[(0,.ptr 0 0),(2,.ptr 3 0),(3,.ptr 4 0),(4,.d lB),(6,.d lU),(7,.d lI)],objs:=bS4,m:=3}
def eN:List (eB×Shape):=[(.exit 2,{slots:=[(0,.ptr 0 0),(2,.ptr 3 0),(3,.ptr 4 0),(4,.d lB)],objs:=bS4,m:=3})]
def gN:Shape:={slots:=[(0,.ptr 0 0),(2,.ptr 3 0),(3,.ptr 4 0),(4,.d lB)],objs:=bS4,m:=3}
def iN:List (eB×Shape):=[(.exit 0,{slots:=[(0,.ptr 0 0),(2,.ptr 3 0),(3,.ptr 4 0),(4,.d lB)],objs:=bS4,m:=3})]
def mQ:Shape:={slots:=[(0,.zL 0),(3,.d (.one (.ref 148))),(5,.d lI)],objs:=bS6,m:=3}
def nQ:List (eB×Shape):=[(.exit 0,{slots:=[],objs:=bS6,m:=3})]
def lN:Shape:={slots:=[(0,.ptr 0 0),(4,.d (.one (.ref 148))),(5,.d (.one (.ref 148))),(12,.d lI),(13,.d lI)],objs:=bS3,m:=3}
def mN:List (eB×Shape):=[(.exit 0,{slots:=[],objs:=bS3,m:=3})]
def qQ:Shape:={slots:=[(0,.ptr 0 1),(3,.d (.one (.ref 148))),(5,.d lI)],objs:=[.var lA6],m:=1}
def rQ:List (eB×Shape):=[(.exit 0,{slots:=[],objs:=[.var lA6],m:=1})]
def tQ:Shape:={slots:=[(0,.ptr 0 5),(3,.d (.one (.ref 148))),(5,.d lI)],objs:=[.var lA6],m:=1}
def uQ:List (eB×Shape):=[(.exit 0,{slots:=[],objs:=[.var lA6],m:=1})]
def cK:Shape:={slots:=[(0,.ptr 0 0),(2,.ptr 3 0),(3,.ptr 4 0)],objs:=bS5,m:=3}
def dK:List (eB×Shape):=[(.exit 0,{slots:=[(2,.ptr 3 0),(3,.ptr 4 0)],objs:=bS5,m:=3})]
def wG:Shape:={slots:=[(0,.ptr 0 0),(2,.ptr 3 0),(3,.ptr 4 0)],objs:=bS5,m:=3}
def xG:List (eB×Shape):=[(.exit 0,{slots:=[(2,.ptr 3 0),(3,.ptr 4 0)],objs:=bS5,m:=3})]
def aA7:Shape:={slots:=[(0,.d (.one (.ref 152))),(3,.ptr 0 0),(4,.d lI),(6,.d lI),(13,.d lI),(14,.d lI)],objs:=bS0}
def aA8:List (eB×Shape):=[(.exit 2,{slots:=[(0,.d (.one (.ref 152))),(3,.ptr 0 0),(6,.d lI)],objs:=bS0})]
def aBa:Shape:={slots:=[(0,.d (.one (.ref 152))),(3,.ptr 0 0),(6,.d lI)],objs:=bS0}
def aBb:List (eB×Shape):=[(.exit 0,{slots:=[(3,.ptr 0 0)],objs:=bS0})]
def wQ:Shape:={slots:=[(0,.ptr 0 0),(3,.d (.one (.ref 148))),(5,.d lI)],objs:=[.var jR],m:=1}
def xQ:List (eB×Shape):=[(.exit 0,{slots:=[],objs:=[.var jR],m:=1})]
def oS:Shape:={slots:=[(0,.d (.one (.ref 152))),(3,.d (.one (.ref 148))),(4,.ptr 0 0),(5,.ptr 1 0),(11,.d lI),(12,.d lI)],objs:=[.var jR,.var jR]}
def qS:List (eB×Shape):=[(.exit 0,{slots:=[(4,.ptr 0 0),(5,.ptr 1 0)],objs:=[.var jR,.var jR]})]
def bX:Shape:={slots:=[(0,.d (.one (.ref 152))),(3,.d (.one (.ref 148))),(14,.d lI)],objs:=[]}
def cX:List (eB×Shape):=[(.exit 0,{slots:=[],objs:=[]}),(.ret,{slots:=[(4,.d lB)],objs:=[]})]
def aDy:Shape:={slots:=[(2,.ptr 0 0),(4,.d (.one (.ref 152))),(7,.map 1),(8,.sw 2),(9,.ptr 3 0),(10,.d (.one (.ref 192))),(11,.d lI),(12,.ptr 4 0),(13,.ptr 5 0),(14,.d lI),(15,.ptr 6 0),(46,.d lI),(50,.d lI)],objs:=[.var lA7,.map jR (.one (.int .i16)),.zA 148 jR,.cells false [.sw 7,.sw 8],.var (.agg (List.replicate 256 (.int .i16))),.var jR,.var jR,.zA 160 (.agg (List.replicate 256 (.int .i16))),.zA 4 lB]}
def aDz:List (eB×Shape):=[(.exit 4,{slots:=[(2,.ptr 0 0),(4,.d (.one (.ref 152))),(7,.map 1),(8,.sw 2),(9,.ptr 3 0),(10,.d (.one (.ref 192))),(11,.d lI),(12,.ptr 4 0),(13,.ptr 5 0),(14,.d lI),(15,.ptr 6 0),(46,.d lI)],objs:=[.var lA7,.map jR (.one (.int .i16)),.zA 148 jR,.cells false [.sw 7,.sw 8],.var (.agg (List.replicate 256 (.int .i16))),.var jR,.var jR,.zA 160 (.agg (List.replicate 256 (.int .i16))),.zA 4 lB]})]
def aDB:Shape:={slots:=[(2,.ptr 0 0),(4,.d (.one (.ref 152))),(7,.map 1),(8,.sw 2),(9,.ptr 3 0),(10,.d (.one (.ref 192))),(11,.d lI),(12,.ptr 4 0),(13,.ptr 5 0),(46,.d lI)],objs:=[.var lA7,.map jR (.one (.int .i16)),.zA 148 jR,.cells false [.sw 6,.sw 7],.var (.agg (List.replicate 256 (.int .i16))),.var jR,.zA 160 (.agg (List.replicate 256 (.int .i16))),.zA 4 lB]}
def aDC:List (eB×Shape):=[(.exit 2,{slots:=[(2,.ptr 0 0),(4,.d (.one (.ref 152))),(7,.map 1),(8,.sw 2),(9,.ptr 3 0),(10,.d (.one (.ref 192))),(11,.d lI),(12,.ptr 4 0)],objs:=[.var lA7,.map jR (.one (.int .i16)),.zA 148 jR,.cells false [.sw 5,.sw 6],.var (.agg (List.replicate 256 (.int .i16))),.zA 160 (.agg (List.replicate 256 (.int .i16))),.zA 4 lB]}),(.ret,{slots:=[(2,.ptr 0 0),(3,.d lI)],objs:=[.var lA7]})]
def aDE:Shape:={slots:=[(2,.ptr 0 0),(4,.d (.one (.ref 152))),(7,.map 1),(8,.sw 2),(9,.ptr 3 0),(10,.d (.one (.ref 192))),(11,.d lI)],objs:=[.var lA7,.map jR (.one (.int .i16)),.zA 148 jR,.cells false [.sw 4,.sw 5],.zA 160 (.agg (List.replicate 256 (.int .i16))),.zA 4 lB]}
def aDF:List (eB×Shape):=[(.exit 0,{slots:=[(2,.ptr 0 0),(9,.ptr 1 0)],objs:=[.var lA7,.cells false [.sw 2,.sw 3],.zA 160 (.agg (List.replicate 256 (.int .i16))),.zA 4 lB]}),(.ret,{slots:=[(2,.ptr 0 0),(3,.d lI)],objs:=[.var lA7]})]
def uS:Shape:={slots:=[(0,.d (.one (.sl 9))),(1,.d lS),(7,.d lI),(8,.d lI)],objs:=[]}
def wS:List (eB×Shape):=[(.exit 0,{slots:=[],objs:=[]}),(.ret,{slots:=[(4,.d lI)],objs:=[]})]
def aJi:Shape:={slots:=[(0,.d (.one (.sl 9))),(8,.d (.one (.sl 9))),(9,.d lI),(10,.d lI)],objs:=[]}
def aJj:List (eB×Shape):=[(.exit 0,{slots:=[],objs:=[]}),(.ret,{slots:=[(2,.d lI)],objs:=[]})]
def aJl:Shape:={slots:=[(0,.d (.one (.sl 49))),(3,.d lI),(4,.d (.one (.ref 49))),(5,.d lI),(15,.d (.one (.sl 49))),(16,.d lI),(17,.d lI),(22,.d lI),(53,.d (.one (.sl 49))),(54,.d lI),(55,.d lI)],objs:=[]}
def aJm:List (eB×Shape):=[(.exit 4,{slots:=[(0,.d (.one (.sl 49))),(3,.d lI),(4,.d (.one (.ref 49))),(15,.d (.one (.sl 49))),(16,.d lI),(17,.d lI),(22,.d lI)],objs:=[]}),(.ret,{slots:=[(2,.d lI)],objs:=[]})]
def aJo:Shape:={slots:=[(0,.d (.one (.sl 49))),(3,.d lI),(4,.d (.one (.ref 49))),(15,.d (.one (.sl 49))),(16,.d lI),(17,.d lI),(22,.d lI)],objs:=[]}
def aJp:List (eB×Shape):=[(.exit 2,{slots:=[(0,.d (.one (.sl 49))),(15,.d (.one (.sl 49))),(16,.d lI),(17,.d lI)],objs:=[]}),(.ret,{slots:=[(2,.d lI)],objs:=[]})]
def aJr:Shape:={slots:=[(0,.d (.one (.sl 49))),(15,.d (.one (.sl 49))),(16,.d lI),(17,.d lI)],objs:=[]}
def aJs:List (eB×Shape):=[(.exit 0,{slots:=[],objs:=[]}),(.ret,{slots:=[(2,.d lI)],objs:=[]})]
def aFv:Shape:={slots:=[(52,.d (.one (.sl 9))),(53,.d lI),(54,.d lI)],objs:=[]}
def aFw:List (eB×Shape):=[(.exit 1,{slots:=[],objs:=[]}),(.ret,{slots:=[(2,.d lI)],objs:=[]})]
def aLP:Shape:={slots:=[(13,.d (.one (.sl 29))),(14,.d lI),(15,.d lI)],objs:=[]}
def aLQ:List (eB×Shape):=[(.exit 0,{slots:=[],objs:=[]}),(.ret,{slots:=[(2,.d lI)],objs:=[]})]
def aJu:Shape:={slots:=[(1,.ptr 0 0),(2,.ptr 1 0),(10,.d lI),(11,.d lI)],objs:=[oS0,.var lA2,.arr lA1]}
def aJv:List (eB×Shape):=[(.exit 0,{slots:=[(1,.ptr 0 0),(2,.ptr 1 0)],objs:=[oS0,.var lA2,.arr lA1]})]
def aLS:Shape:={slots:=[(1,.ptr 0 0),(2,.ptr 1 0),(3,.ptr 2 0),(20,.d (.one (.sl 49))),(21,.d lI),(22,.d lI)],objs:=bS1}
def aLT:List (eB×Shape):=[(.exit 0,{slots:=[(1,.ptr 0 0),(2,.ptr 1 0),(3,.ptr 2 0)],objs:=bS1})]
def aLV:Shape:={slots:=[(2,.ptr 0 0),(3,.ptr 1 0),(40,.d (.one (.sl 29))),(41,.d lI),(42,.d lI)],objs:=bS2}
def aLW:List (eB×Shape):=[(.exit 2,{slots:=[(2,.ptr 0 0),(3,.ptr 1 0)],objs:=bS2})]
def aLY:Shape:={slots:=[(2,.d (.one (.ref 29))),(4,.ptr 0 0),(33,.d (.one (.sl 29))),(34,.d lI),(35,.d lI)],objs:=[.var eJ]}
def aLZ:List (eB×Shape):=[(.exit 0,{slots:=[(4,.ptr 0 0)],objs:=[.var eJ]}),(.ret,{slots:=[(4,.ptr 0 0),(5,.d lB)],objs:=[.var eJ]})]
def aL3:Shape:={slots:=[(1,.d lI),(2,.d (.one (.sl 3))),(3,.d (.one (.ref 29))),(20,.d lI),(21,.d lI)],objs:=[]}
def aL4:List (eB×Shape):=[(.exit 0,{slots:=[(1,.d lI),(2,.d (.one (.sl 3))),(3,.d (.one (.ref 29)))],objs:=[]}),(.ret,{slots:=[(6,.d (.one (.sl 3))),(7,.d lI),(8,.d lB)],objs:=[]})]
def aL6:Shape:={slots:=[(1,.d lI),(2,.d (.one (.sl 3))),(37,.d (.one (.sl 29))),(38,.d lI),(39,.d lI)],objs:=[]}
def aL7:List (eB×Shape):=[(.exit 2,{slots:=[],objs:=[]}),(.ret,{slots:=[(6,.d (.one (.sl 3))),(7,.d lI),(8,.d lB)],objs:=[]})]
def aJy:Shape:={slots:=[(1,.d (.one (.ref 29))),(2,.ptr 0 0),(8,.d lI)],objs:=[.var lA9]}
def aJz:List (eB×Shape):=[(.exit 0,{slots:=[(2,.ptr 0 0)],objs:=[.var lA9]}),(.ret,{slots:=[(2,.ptr 0 0),(3,.d lB)],objs:=[.var lA9]})]
def aL9:Shape:={slots:=[(1,.ptr 0 0),(2,.ptr 1 0),(6,.sw 2)],objs:=[.var eJ,.var eJ,.zA 45 lA9]}
def aMa:List (eB×Shape):=[(.ret,{slots:=[(2,.ptr 0 0),(3,.d (.one (.sl 45))),(4,.d lI)],objs:=[.var eJ]})]
def aKs:Shape:={slots:=[(0,.ptr 0 0),(6,.d (.one (.sl 9))),(7,.d lI),(8,.d lI)],objs:=[.cells false [.sw 1],.zA 5 lU],m:=2}
def aKt:List (eB×Shape):=[(.exit 0,{slots:=[],objs:=[.cells false [.sw 1],.zA 5 lU],m:=2})]
def aWR:Shape:={slots:=[(0,.d lS),(3,.sw 0),(8,.d lI),(9,.d lI)],objs:=[.zA 5 lU]}
def aWS:List (eB×Shape):=[(.exit 0,{slots:=[(3,.sw 0)],objs:=[.zA 5 lU]})]
def aH4:Shape:={slots:=[(0,.ptr 0 0),(3,.d (.one (.ref 25))),(4,.whole 2),(74,.d lI),(75,.d lI)],objs:=[.cells false [.sw 1],.zA 5 lU,.arr lU],m:=2}
def aH6:List (eB×Shape):=[(.exit 4,{slots:=[(0,.ptr 0 0),(4,.whole 2)],objs:=[.cells false [.sw 1],.zA 5 lU,.arr lU],m:=2})]
def aH5:Shape:={slots:=[(0,.ptr 0 0),(3,.d (.one (.ref 25))),(18,.d (.one (.sl 75))),(19,.d lI),(20,.d lI)],objs:=[.cells false [.sw 1],.zA 5 lU],m:=2}
def aH7:List (eB×Shape):=[(.exit 1,{slots:=[(0,.ptr 0 0)],objs:=[.cells false [.sw 1],.zA 5 lU],m:=2})]
def aJK:Shape:={slots:=[(0,.ptr 0 0),(4,.d (.one (.ref 29))),(5,.d (.one (.ref 108))),(18,.d (.one (.sl 9))),(19,.d lI),(20,.d lI)],objs:=[.cells false [.sw 1],.zA 5 lU],m:=2}
def aJN:List (eB×Shape):=[(.exit 0,{slots:=[(0,.ptr 0 0),(4,.d (.one (.ref 29))),(5,.d (.one (.ref 108)))],objs:=[.cells false [.sw 1],.zA 5 lU],m:=2})]
def aJL:Shape:={slots:=[(0,.ptr 0 0),(4,.d (.one (.ref 29))),(5,.d (.one (.ref 108))),(52,.d (.one (.sl 49))),(53,.d lI),(54,.d lI)],objs:=[.cells false [.sw 1],.zA 5 lU],m:=2}
def aJO:List (eB×Shape):=[(.exit 2,{slots:=[(0,.ptr 0 0),(4,.d (.one (.ref 29))),(5,.d (.one (.ref 108)))],objs:=[.cells false [.sw 1],.zA 5 lU],m:=2})]
def aJM:Shape:={slots:=[(0,.ptr 0 0),(77,.d (.one (.sl 29))),(78,.d lI),(79,.d lI)],objs:=[.cells false [.sw 1],.zA 5 lU],m:=2}
def aJP:List (eB×Shape):=[(.exit 4,{slots:=[(0,.ptr 0 0)],objs:=[.cells false [.sw 1],.zA 5 lU],m:=2})]
def aMm:Shape:={slots:=[(0,.d (.one (.sl 9))),(1,.d (.one (.sl 9))),(12,.d lI),(13,.d lI)],objs:=[]}
def aMn:List (eB×Shape):=[(.exit 0,{slots:=[],objs:=[]}),(.ret,{slots:=[(4,.d lB)],objs:=[]})]
def aDe:Shape:={slots:=[(1,.d (.one (.sl 49))),(2,.d (.one (.fn 63))),(15,.d (.one (.sl 49))),(16,.d lI),(17,.d lI)],objs:=[]}
def aDf:List (eB×Shape):=[(.exit 0,{slots:=[],objs:=[]}),(.ret,{slots:=[(6,.d lB)],objs:=[]})]
def aFS:Shape:={slots:=[(1,.d (.one (.sl 29))),(2,.d (.one (.fn 35))),(15,.d (.one (.sl 29))),(16,.d lI),(17,.d lI)],objs:=[]}
def aFT:List (eB×Shape):=[(.exit 0,{slots:=[],objs:=[]}),(.ret,{slots:=[(6,.d lB)],objs:=[]})]
def aMf:Shape:={slots:=[(2,.d (.one (.ref 29))),(3,.d (.one (.ref 29))),(4,.ptr 0 0),(14,.d (.one (.sl 29))),(15,.d lI),(16,.d lI)],objs:=[.var eJ]}
def aMg:List (eB×Shape):=[(.exit 0,{slots:=[(2,.d (.one (.ref 29))),(3,.d (.one (.ref 29))),(4,.ptr 0 0)],objs:=[.var eJ]}),(.ret,{slots:=[(4,.ptr 0 0),(5,.d lI)],objs:=[.var eJ]})]
def aCC:Shape:={slots:=[(3,.sw 0),(9,.d (.one (.sl 29))),(10,.d lI),(11,.d lI)],objs:=[.zA 29 eJ]}
def aCD:List (eB×Shape):=[(.exit 0,{slots:=[(3,.sw 0)],objs:=[.zA 29 eJ]})]
def aBf:Shape:={slots:=[(3,.d lI),(8,.d (.one (.sl 29))),(9,.d lI),(10,.d lI)],objs:=[]}
def aBg:List (eB×Shape):=[(.exit 0,{slots:=[(3,.d lI)],objs:=[]})]
def aDK:Shape:={slots:=[(3,.d (.one (.ref 25))),(36,.d (.one (.sl 75))),(37,.d lI),(38,.d lI)],objs:=[]}
def aDL:List (eB×Shape):=[(.exit 0,{slots:=[],objs:=[]}),(.ret,{slots:=[(4,.d lB)],objs:=[]})]
def aQZ:Shape:={slots:=[(0,.d lS),(3,.d lI),(4,.d lI),(5,.d lU),(6,.d lI)],objs:=[]}
def aQ3:List (eB×Shape):=[(.exit 0,{slots:=[(0,.d lS),(3,.d lI),(5,.d lU)],objs:=[]})]
def aQ0:Shape:={slots:=[(0,.d lS),(9,.whole 0),(10,.d lI),(12,.d lI)],objs:=[.arr lS]}
def aQ4:List (eB×Shape):=[(.exit 2,{slots:=[(0,.d lS),(9,.whole 0),(10,.d lI),(12,.d lI)],objs:=[.arr lS]})]
def aQY:Shape:={slots:=[(0,.d lS),(9,.whole 0),(10,.d lI),(12,.d lI)],objs:=[.arr lS]}
def aQ2:List (eB×Shape):=[(.exit 6,{slots:=[(0,.d lS),(9,.whole 0),(10,.d lI),(12,.d lI)],objs:=[.arr lS]})]
def aQ1:Shape:={slots:=[(0,.d lS),(9,.whole 0),(10,.d lI),(11,.d lI),(12,.d lI)],objs:=[.arr lS]}
def aQ5:List (eB×Shape):=[(.exit 4,{slots:=[(0,.d lS),(9,.whole 0),(10,.d lI),(11,.d lI)],objs:=[.arr lS]})]
def kX:Shape:={slots:=[(3,.map 0),(10,.d (.one (.sl 9))),(11,.d lI),(12,.d lI)],objs:=[.map lS lI]}
def lX:List (eB×Shape):=[(.exit 0,{slots:=[],objs:=[]}),(.ret,{slots:=[(2,.d lI)],objs:=[]})]
def aCH:Shape:={slots:=[(0,.d (.one (.sl 49))),(3,.ptr 0 0),(19,.d (.one (.sl 49))),(20,.d lI),(21,.d lI),(25,.d lA8),(26,.d lI)],objs:=[.cells false [.map 1,.map 2],.map lS lB,.map lS lB]}
def aCI:List (eB×Shape):=[(.exit 2,{slots:=[(0,.d (.one (.sl 49))),(3,.ptr 0 0),(19,.d (.one (.sl 49))),(20,.d lI),(21,.d lI)],objs:=[.cells false [.map 1,.map 2],.map lS lB,.map lS lB]}),(.ret,{slots:=[(2,.d lI)],objs:=[]})]
def aCK:Shape:={slots:=[(0,.d (.one (.sl 49))),(3,.ptr 0 0),(19,.d (.one (.sl 49))),(20,.d lI),(21,.d lI)],objs:=[.cells false [.map 1,.map 2],.map lS lB,.map lS lB]}
def aCL:List (eB×Shape):=[(.exit 0,{slots:=[],objs:=[]}),(.ret,{slots:=[(2,.d lI)],objs:=[]})]
def aDO:Shape:={slots:=[(1,.d (.one (.ref 29))),(4,.d lS),(65,.d (.one (.sl 67))),(66,.d lI),(67,.d lI)],objs:=[]}
def aDP:List (eB×Shape):=[(.exit 0,{slots:=[(1,.d (.one (.ref 29))),(4,.d lS)],objs:=[]}),(.ret,{slots:=[(2,.d lI)],objs:=[]})]
def aCN:Shape:={slots:=[(17,.d (.one (.sl 29))),(18,.d lI),(19,.d lI)],objs:=[]}
def aCO:List (eB×Shape):=[(.exit 0,{slots:=[],objs:=[]}),(.ret,{slots:=[(2,.d lI)],objs:=[]})]
def aCQ:Shape:={slots:=[(2,.d (.one (.ref 29))),(3,.d (.one (.ref 29))),(90,.d lI),(91,.d lI)],objs:=[]}
def aCR:List (eB×Shape):=[(.exit 0,{slots:=[(2,.d (.one (.ref 29))),(3,.d (.one (.ref 29)))],objs:=[]}),(.ret,{slots:=[(4,.d lB)],objs:=[]})]
def aCT:Shape:={slots:=[(2,.d (.one (.ref 29))),(3,.d (.one (.ref 29))),(108,.d lI),(109,.d lI)],objs:=[]}
def aCU:List (eB×Shape):=[(.exit 2,{slots:=[(2,.d (.one (.ref 29))),(3,.d (.one (.ref 29)))],objs:=[]}),(.ret,{slots:=[(4,.d lB)],objs:=[]})]
def aCW:Shape:={slots:=[(2,.d (.one (.ref 29))),(3,.d (.one (.ref 29))),(145,.d lI),(146,.d lI)],objs:=[]}
def aCX:List (eB×Shape):=[(.exit 4,{slots:=[],objs:=[]}),(.ret,{slots:=[(4,.d lB)],objs:=[]})]
def aCZ:Shape:={slots:=[(1,.d (.one (.sl 3))),(5,.sw 0),(11,.d (.one (.sl 29))),(12,.d lI),(13,.d lI)],objs:=[.zA 43 (.one (.sl 3))]}
def aC0:List (eB×Shape):=[(.exit 0,{slots:=[(5,.sw 0)],objs:=[.zA 43 (.one (.sl 3))]})]
def aDR:Shape:={slots:=[(1,.d (.one (.sl 3))),(2,.ptr 0 0),(4,.ptr 1 0),(9,.d (.one (.sl 3))),(10,.d lI),(11,.d lI)],objs:=[.var eJ,.var eJ]}
def aDS:List (eB×Shape):=[(.exit 0,{slots:=[(1,.d (.one (.sl 3))),(2,.ptr 0 0),(4,.ptr 1 0)],objs:=[.var eJ,.var eJ]}),(.ret,{slots:=[(4,.ptr 0 0),(5,.d lI),(6,.d lB)],objs:=[.var eJ]})]
def aFF:Shape:={slots:=[(6,.ptr 0 0),(8,.d lB),(41,.d (.one (.sl 29))),(42,.d lI),(43,.d lI)],objs:=[.var eJ]}
def aFG:List (eB×Shape):=[(.exit 0,{slots:=[(6,.ptr 0 0),(8,.d lB)],objs:=[.var eJ]})]
def aFI:Shape:={slots:=[(1,.d (.one (.ref 29))),(2,.ptr 0 0),(3,.ptr 1 0),(5,.d (.one (.sl 43))),(6,.d lI),(8,.d (.one (.sl 3))),(17,.d lI),(20,.d (.one (.sl 43))),(21,.d lI),(22,.d lI),(36,.d lI),(37,.d lI)],objs:=[.var eJ,.var lA9]}
def aFJ:List (eB×Shape):=[(.exit 4,{slots:=[(1,.d (.one (.ref 29))),(2,.ptr 0 0),(3,.ptr 1 0),(5,.d (.one (.sl 43))),(6,.d lI),(17,.d lI),(20,.d (.one (.sl 43))),(21,.d lI),(22,.d lI)],objs:=[.var eJ,.var lA9]}),(.ret,{slots:=[(2,.ptr 0 0),(3,.ptr 1 0),(4,.d lB)],objs:=[.var eJ,.var lA9]})]
def aFL:Shape:={slots:=[(1,.d (.one (.ref 29))),(2,.ptr 0 0),(3,.ptr 1 0),(5,.d (.one (.sl 43))),(6,.d lI),(17,.d lI),(20,.d (.one (.sl 43))),(21,.d lI),(22,.d lI)],objs:=[.var eJ,.var lA9]}
def aFM:List (eB×Shape):=[(.exit 2,{slots:=[(1,.d (.one (.ref 29))),(2,.ptr 0 0),(3,.ptr 1 0),(5,.d (.one (.sl 43))),(17,.d lI)],objs:=[.var eJ,.var lA9]}),(.ret,{slots:=[(2,.ptr 0 0),(3,.ptr 1 0),(4,.d lB)],objs:=[.var eJ,.var lA9]})]
def aFP:Shape:={slots:=[(1,.d (.one (.ref 29))),(2,.ptr 0 0),(3,.ptr 1 0),(5,.d (.one (.sl 43))),(17,.d lI)],objs:=[.var eJ,.var lA9]}
def aFQ:List (eB×Shape):=[(.exit 0,{slots:=[(1,.d (.one (.ref 29))),(2,.ptr 0 0),(3,.ptr 1 0)],objs:=[.var eJ,.var lA9]}),(.ret,{slots:=[(2,.ptr 0 0),(3,.ptr 1 0),(4,.d lB)],objs:=[.var eJ,.var lA9]})]
def aDU:Shape:={slots:=[(1,.ptr 0 0),(2,.ptr 1 0),(6,.sw 2)],objs:=[.var eJ,.var eJ,.zA 50 lA9]}
def aDV:List (eB×Shape):=[(.ret,{slots:=[(2,.ptr 0 0),(3,.d (.one (.sl 50))),(4,.d lI)],objs:=[.var eJ]})]
def oU:Shape:={slots:=[(2,.d (.one (.ref 29))),(3,.d (.one (.ref 29))),(5,.ptr 0 0),(6,.d lI),(23,.d (.one (.sl 29))),(24,.d lI),(25,.d lI)],objs:=[.var eJ]}
def qU:List (eB×Shape):=[(.exit 0,{slots:=[(2,.d (.one (.ref 29))),(3,.d (.one (.ref 29))),(5,.ptr 0 0),(6,.d lI)],objs:=[.var eJ]}),(.ret,{slots:=[(4,.d lB)],objs:=[]})]
end Go.Ev
