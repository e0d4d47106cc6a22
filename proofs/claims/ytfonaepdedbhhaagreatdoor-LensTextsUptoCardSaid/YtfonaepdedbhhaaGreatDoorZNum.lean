/-
  A part of the proof: what the functions of the program compute.
-/
import Derived.Test.YtfonaepdedbhhaaGreatDoorEvZ
set_option linter.all false
set_option maxRecDepth 100000
namespace Go.Ev
def aJI:Nat:=3
def aFM:Nat:=4
def aJE:Nat:=5
def aDV:Nat:=6
def aAA:Nat:=8
def aIv:Nat:=9
def aCJ:Nat:=11
def aE9:Nat:=12
def rY:Nat:=13
def aAB:Nat:=15
def aAH:Nat:=16
def aJA:Nat:=18
def aIp:Nat:=19
def qD:Nat:=20
def mN:Nat:=22
def gL:Nat:=23
def qU:Nat:=24
def pU:Nat:=28
def xB:Nat:=29
def zP:Nat:=30
def iL:Nat:=31
def qB:Nat:=32
def dX:Nat:=33
def aBz:Nat:=35
def kP:Nat:=37
def aDT:Nat:=38
def rH:Nat:=39
def mH:Nat:=40
def rS:Nat:=41
def pY:Nat:=42
def hY:Nat:=45
def aKB:Nat:=46
def zQ:Nat:=47
def lX:Nat:=50
def aCI:Nat:=51
def aBv:Nat:=52
def aBy:Nat:=53
def zX:Nat:=55
def aY:Nat:=56
def aT:Nat:=57
def dR:Nat:=58
def cI:Nat:=59
def aCD:Nat:=60
def sH:Nat:=66
def iK:Nat:=67
def aFF:Nat:=71
def aBw:Nat:=72
def aEt:Nat:=73
def aIo:Nat:=74
def aBl:Nat:=79
def aEW:Nat:=80
def aEX:Nat:=81
def aDO:Nat:=82
def aDb:Nat:=89
def aEl:Nat:=90
def oV:Nat:=91
def nV:Nat:=92
def cJ:Nat:=93
def fJ:Nat:=94
def jQ:Nat:=95
def kI:Nat:=99
def cP:Nat:=100
def aBe:Nat:=101
def j0:Nat:=102
def aBk:Nat:=103
def aDN:Nat:=104
def aBu:Nat:=106
def bV:Nat:=107
def mZ:Nat:=108
def j7:Nat:=114
def qP:Nat:=115
def cV:Nat:=116
def aEz:Nat:=118
def dI:Nat:=119
def oL:Nat:=120
def kZ:Nat:=122
def rP:Nat:=123
def nL:Nat:=127
def iD:Nat:=174
def sB:Nat:=175
def lJ:Nat:=178
def aH:Nat:=180
def yE:Nat:=181
def rN:Nat:=179
def yU:Nat:=183
def zU:Nat:=184
def zJ:Nat:=182
def bP:Nat:=177
def fT:Nat:=186
def qI:Nat:=185
def iQ:Nat:=176
def wH:Nat:=187
def xH:Nat:=188
def lG:Nat:=173
def uE:Nat:=172
def aV:Nat:=189
def pT:Nat:=190
def cX:Nat:=171
def gA:Nat:=168
def zE:Nat:=170
def yM:Nat:=169
def vM:Nat:=167
def kH:Nat:=191
abbrev fG:L:= .agg [.int .i64, .str, .str, .sl 9, .int .i64, .int .i64, .int .i64, .int .u8, .int .i64, .int .i64, .str, .sl 89, .sl 68, .sl 29]
abbrev lA1:L:= .agg [.bool, .bool, .bool, .bool, .bool, .bool, .bool, .bool, .int .i64]
abbrev lA2:L:= .agg [.str, .int .i64, .int .i64, .str, .sl 89]
abbrev lH:L:= .agg [.int .i64, .int .i64, .str, .sl 89]
abbrev lA4:L:= .agg [.sl 181, .sl 149, .bool, .int .u64, .int .u64, .int .u64, .int .u64, .int .u64, .int .u64, .int .u64, .int .u64]
abbrev bE:L:= .agg [.int .u64, .int .u64, .int .u64, .int .u64]
abbrev uS:L:= .agg [.bool, .int .u64, .int .u64, .int .u64, .int .u64, .int .u64, .int .u64, .int .u64, .int .u64]
abbrev lA7:L:= .agg [.sl 160, .sl 4]
abbrev lA8:L:= .agg [.int .i64, .int .i64, .str, .sl 89, .int .i64, .int .i64, .str, .sl 89]
abbrev lA9:L:= .agg [.int .u8, .bool]
abbrev oS0:vO:= .cells false [.d lS, .d lI, .sw 1, .whole 2, .d lB, .d lW, .d lW, .d lW, .d lW, .d lW, .d lW, .d lW, .d lW, .d lB]
abbrev oS1:vO:= .cells false [.d lS, .d lI, .sw 2, .whole 0, .d lB, .d lW, .d lW, .d lW, .d lW, .d lW, .d lW, .d lW, .d lW, .d lB]
abbrev bS0:List vO:=[.var (.agg (List.replicate 1024 (.int .u64)))]
abbrev bS1:List vO:=[.uA 9 lS, .uA 9 lS]
abbrev bS2:List vO:=[oS0, .uA 181 bE, .arr bE]
abbrev bS3:List vO:=[oS0, .uA 181 bE, .arr bE, .var bE, .var bE]
abbrev bS4:List vO:=[oS0, .uA 181 bE, .arr bE, .var uS, .var uS]
abbrev bS5:List vO:=[.arr bE,oS1, .uA 181 bE]
abbrev bS6:List vO:=[oS0, .uA 181 bE, .arr bE, .var uS, .var uS, .var uS]
abbrev bS7:List vO:=[.var (.agg (List.replicate 65 (.int .u8)))]
def uD:Shape:={slots:=[(0, .ptr 0 0)],objs:=bS2}
def vD:Shape:={slots:=[(0, .d lB)],objs:=bS2,m:=3}
def uB:Shape:={slots:=[(0, .ptr 0 0)],objs:=bS2}
def wB:Shape:={slots:=[(0, .d lU)],objs:=bS2,m:=3}
def zO:Shape:={slots:=[(0, .ptr 0 0)],objs:=[.var bE]}
def aP:Shape:={slots:=[],objs:=[.var bE],m:=1}
def qL:Shape:={slots:=[(0, .ptr 0 0)],objs:=bS2}
def rL:Shape:={slots:=[(0, .d lU)],objs:=bS2,m:=3}
def jJ:Shape:={slots:=[(0, .ptr 0 0),(1, .d lU)],objs:=[.var bE]}
def kJ:Shape:={slots:=[],objs:=[.var bE],m:=1}
def pV:Shape:={slots:=[(0, .ptr 0 0)],objs:=bS2}
def qV:Shape:={slots:=[(0, .d bE)],objs:=bS2,m:=3}
def aBm:Shape:={slots:=[(0, .ptr 0 1),(1, .d lI)],objs:=[.var uS]}
def aBn:Shape:={slots:=[],objs:=[.var uS],m:=1}
def aBo:Shape:={slots:=[(0, .ptr 0 5),(1, .d lI)],objs:=[.var uS]}
def aBp:Shape:={slots:=[],objs:=[.var uS],m:=1}
def jR:Shape:={slots:=[(0, .ptr 0 0),(1, .d bE)],objs:=bS2}
def kR:Shape:={slots:=[(0, .d uS)],objs:=bS2,m:=3}
def tW:Shape:={slots:=[(0, .ptr 0 0)],objs:=bS2}
def uW:Shape:={slots:=[(0, .d uS)],objs:=bS2,m:=3}
def aAD:Shape:={slots:=[(0, .uL 0),(1, .d bE)],objs:=bS5}
def aAE:Shape:={slots:=[],objs:=bS5,m:=3}
def vN:Shape:={slots:=[(0, .ptr 0 0),(1, .d bE),(2, .d bE)],objs:=bS2}
def wN:Shape:={slots:=[],objs:=bS2,m:=3}
def xY:Shape:={slots:=[(0, .ptr 0 0)],objs:=bS2}
def yY:Shape:={slots:=[(0, .d uS)],objs:=bS2,m:=3}
def tR:Shape:={slots:=[(0, .ptr 0 1),(1, .d bE)],objs:=[.var uS]}
def uR:Shape:={slots:=[],objs:=[.var uS],m:=1}
def yR:Shape:={slots:=[(0, .ptr 0 5),(1, .d bE)],objs:=[.var uS]}
def zR:Shape:={slots:=[],objs:=[.var uS],m:=1}
def eK:Shape:={slots:=[(0, .ptr 0 0)],objs:=bS2}
def fK:Shape:={slots:=[(0, .d uS)],objs:=bS2,m:=3}
def dH:Shape:={slots:=[(0, .ptr 0 0)],objs:=bS2}
def eH:Shape:={slots:=[(0, .d uS)],objs:=bS2,m:=3}
def aBr:Shape:={slots:=[(0, .aOr 0),(1, .d lI)],objs:=bS0}
def aBs:Shape:={slots:=[],objs:=bS0,m:=1}
def aAF:Shape:={slots:=[(0, .ptr 0 0),(1, .d bE)],objs:=[.var bE]}
def aAG:Shape:={slots:=[],objs:=[.var bE],m:=1}
def aCd:Shape:={slots:=[(0, .ptr 0 0),(1, .d lI)],objs:=[.var bE]}
def aCe:Shape:={slots:=[],objs:=[.var bE],m:=1}
def jA:Shape:={slots:=[(0, .ptr 0 0),(1, .d (.one (.sl 9)))],objs:=[.cells false [.sw 1], .uA 5 lU]}
def kA:Shape:={slots:=[],objs:=[.cells false [.sw 1], .uA 5 lU],m:=2}
def dG:Shape:={slots:=[(0, .ptr 0 0),(1, .d lH)],objs:=[.cells false [.sw 1], .uA 5 lU]}
def eG:Shape:={slots:=[],objs:=[.cells false [.sw 1], .uA 5 lU],m:=2}
def aAI:Shape:={slots:=[(0, .ptr 0 0),(1, .d fG),(2, .d lA1)],objs:=[.cells false [.sw 1], .uA 5 lU]}
def aAJ:Shape:={slots:=[],objs:=[.cells false [.sw 1], .uA 5 lU],m:=2}
def pS:Shape:={slots:=[(0, .ptr 0 0),(1, .d fG)],objs:=[.cells false [.sw 1], .uA 5 lU]}
def qS:Shape:={slots:=[],objs:=[.cells false [.sw 1], .uA 5 lU],m:=2}
def bO:Shape:={slots:=[(0, .d (.one (.sl 5))),(1, .d lW),(2, .d lI),(3, .d lB),(4, .d lB)],objs:=[]}
def cO:Shape:={slots:=[(0, .d (.one (.sl 5))),(1, .d lS)],objs:=[],m:=0}
def rI:Row:=[.int 0, .int 1, .int 28, .int 2, .int 29, .int 14, .int 24, .int 3, .int 30, .int 22, .int 20, .int 15, .int 25, .int 17, .int 4, .int 8, .int 31, .int 27, .int 13, .int 23, .int 21, .int 19, .int 16, .int 7, .int 26, .int 12, .int 18, .int 6, .int 11, .int 5, .int 10, .int 9]
def rD:Row:=[.int 1, .int 10, .int 100, .int 1000, .int 10000, .int 100000, .int 1000000, .int 10000000, .int 100000000, .int 1000000000, .int 10000000000, .int 100000000000, .int 1000000000000, .int 10000000000000, .int 100000000000000, .int 1000000000000000, .int 10000000000000000, .int 100000000000000000, .int 1000000000000000000, .int 10000000000000000000]
def tD:Row:=[.int 0, .int 0, .int 0, .int 0, .int 0, .int 0, .int 0, .int 0, .int 0, .int 1, .int 1, .int 1, .int 1, .int 1, .int 0, .int 0, .int 0, .int 0, .int 0, .int 0, .int 0, .int 0, .int 0, .int 0, .int 0, .int 0, .int 0, .int 0, .int 0, .int 0, .int 0, .int 0, .int 1, .int 0, .int 0, .int 0, .int 0, .int 0, .int 0, .int 0, .int 0, .int 0, .int 0, .int 0, .int 0, .int 0, .int 0, .int 0, .int 0, .int 0, .int 0, .int 0, .int 0, .int 0, .int 0, .int 0, .int 0, .int 0, .int 0, .int 0, .int 0, .int 0, .int 0, .int 0, .int 0, .int 0, .int 0, .int 0, .int 0, .int 0, .int 0, .int 0, .int 0, .int 0, .int 0, .int 0, .int 0, .int 0, .int 0, .int 0, .int 0, .int 0, .int 0, .int 0, .int 0, .int 0, .int 0, .int 0, .int 0, .int 0, .int 0, .int 0, .int 0, .int 0, .int 0, .int 0, .int 0, .int 0, .int 0, .int 0, .int 0, .int 0, .int 0, .int 0, .int 0, .int 0, .int 0, .int 0, .int 0, .int 0, .int 0, .int 0, .int 0, .int 0, .int 0, .int 0, .int 0, .int 0, .int 0, .int 0, .int 0, .int 0, .int 0, .int 0, .int 0, .int 0, .int 0, .int 0, .int 0, .int 0, .int 0, .int 0, .int 0, .int 0, .int 0, .int 0, .int 0, .int 0, .int 0, .int 0, .int 0, .int 0, .int 0, .int 0, .int 0, .int 0, .int 0, .int 0, .int 0, .int 0, .int 0, .int 0, .int 0, .int 0, .int 0, .int 0, .int 0, .int 0, .int 0, .int 0, .int 0, .int 0, .int 0, .int 0, .int 0, .int 0, .int 0, .int 0, .int 0, .int 0, .int 0, .int 0, .int 0, .int 0, .int 0, .int 0, .int 0, .int 0, .int 0, .int 0, .int 0, .int 0, .int 0, .int 0, .int 0, .int 0, .int 0, .int 0, .int 0, .int 0, .int 0, .int 0, .int 0, .int 0, .int 0, .int 0, .int 0, .int 0, .int 0, .int 0, .int 0, .int 0, .int 0, .int 0, .int 0, .int 0, .int 0, .int 0, .int 0, .int 0, .int 0, .int 0, .int 0, .int 0, .int 0, .int 0, .int 0, .int 0, .int 0, .int 0, .int 0, .int 0, .int 0, .int 0, .int 0, .int 0, .int 0, .int 0, .int 0, .int 0, .int 0, .int 0, .int 0, .int 0, .int 0, .int 0, .int 0, .int 0, .int 0, .int 0, .int 0, .int 0, .int 0, .int 0, .int 0, .int 0, .int 0, .int 0, .int 0, .int 0, .int 0, .int 0, .int 0, .int 0, .int 0, .int 0]
def xD:Row:=[.int 0, .int 1, .int 56, .int 2, .int 57, .int 49, .int 28, .int 3, .int 61, .int 58, .int 42, .int 50, .int 38, .int 29, .int 17, .int 4, .int 62, .int 47, .int 59, .int 36, .int 45, .int 43, .int 51, .int 22, .int 53, .int 39, .int 33, .int 30, .int 24, .int 18, .int 12, .int 5, .int 63, .int 55, .int 48, .int 27, .int 60, .int 41, .int 37, .int 16, .int 46, .int 35, .int 44, .int 21, .int 52, .int 32, .int 23, .int 11, .int 54, .int 26, .int 40, .int 15, .int 34, .int 20, .int 31, .int 10, .int 25, .int 14, .int 19, .int 9, .int 13, .int 8, .int 7, .int 6]
end Go.Ev
