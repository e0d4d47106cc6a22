/-
  A part of the proof: what the functions of the program compute.
-/
import Derived.Test.YtfonaepdedbhhaaGreatDoorZTab
import Derived.Test.YtfonaepdedbhhaaGreatDoorProg
set_option linter.all false
set_option maxRecDepth 100000
namespace Go.Ev.oO
theorem a9G:rB Go.Proofs.Tryz.prog T 8 aFD=true:=by kernel_rfl
theorem a6o:rB Go.Proofs.Tryz.prog T 15 aFE=true:=by kernel_rfl
theorem a6r:rB Go.Proofs.Tryz.prog T 19 aMb=true:=by kernel_rfl
theorem a6D:rB Go.Proofs.Tryz.prog T 39 aEf=true:=by kernel_rfl
theorem a6N:rB Go.Proofs.Tryz.prog T 55 aEg=true:=by kernel_rfl
theorem a6O:rB Go.Proofs.Tryz.prog T 56 aEh=true:=by kernel_rfl
theorem a3l:rB Go.Proofs.Tryz.prog T 101 aBc=true:=by kernel_rfl
theorem a60:rB Go.Proofs.Tryz.prog T 79 aBd=true:=by kernel_rfl
theorem a61:rB Go.Proofs.Tryz.prog T 80 aBf=true:=by kernel_rfl
theorem a3z:rB Go.Proofs.Tryz.prog T 127 jG=true:=by kernel_rfl
theorem a3v:rB Go.Proofs.Tryz.prog T 119 aF=true:=by kernel_rfl
theorem a3w:rB Go.Proofs.Tryz.prog T 120 u6=true:=by kernel_rfl
theorem a3m:rB Go.Proofs.Tryz.prog T 102 aC1=true:=by kernel_rfl
theorem a3n:rB Go.Proofs.Tryz.prog T 103 aEi=true:=by kernel_rfl
theorem a62:rB Go.Proofs.Tryz.prog T 81 aBj=true:=by kernel_rfl
end Go.Ev.oO
namespace Go.Ev.oO
theorem a6P:rB Go.Proofs.Tryz.prog T 57 aEj=true:=by kernel_rfl
theorem a6E:rB Go.Proofs.Tryz.prog T 40 aC6=true:=by kernel_rfl
theorem a66:rB Go.Proofs.Tryz.prog T 89 aC7=true:=by kernel_rfl
theorem a67:rB Go.Proofs.Tryz.prog T 90 aEk=true:=by kernel_rfl
theorem a3s:rB Go.Proofs.Tryz.prog T 114 z6=true:=by kernel_rfl
theorem a68:rB Go.Proofs.Tryz.prog T 91 lV=true:=by kernel_rfl
theorem a3t:rB Go.Proofs.Tryz.prog T 115 rE=true:=by kernel_rfl
theorem a69:rB Go.Proofs.Tryz.prog T 92 mV=true:=by kernel_rfl
theorem a7a:rB Go.Proofs.Tryz.prog T 93 mF=true:=by kernel_rfl
theorem a7b:rB Go.Proofs.Tryz.prog T 94 aDa=true:=by kernel_rfl
theorem a6W:rB Go.Proofs.Tryz.prog T 71 aFG=true:=by kernel_rfl
theorem a6L:rB Go.Proofs.Tryz.prog T 52 aEm=true:=by kernel_rfl
theorem a3G:rO Go.Proofs.Tryz.prog T gJ=true:=by kernel_rfl
theorem a3H:rO Go.Proofs.Tryz.prog T hJ=true:=by kernel_rfl
theorem a6U:rB Go.Proofs.Tryz.prog T 66 sE=true:=by kernel_rfl
theorem a6J:rB Go.Proofs.Tryz.prog T 47 yQ=true:=by kernel_rfl
theorem a3K:rO Go.Proofs.Tryz.prog T iJ=true:=by kernel_rfl
theorem a3M:rO Go.Proofs.Tryz.prog T xG=true:=by kernel_rfl
theorem a3N:rO Go.Proofs.Tryz.prog T rK=true:=by kernel_rfl
end Go.Ev.oO
namespace Go.Ev.oO
theorem a3L:rO Go.Proofs.Tryz.prog T tH=true:=by kernel_rfl
theorem a3P:rO Go.Proofs.Tryz.prog T gO=true:=by kernel_rfl
theorem a3Q:rO Go.Proofs.Tryz.prog T hO=true:=by kernel_rfl
theorem a3O:rO Go.Proofs.Tryz.prog T uF=true:=by kernel_rfl
theorem a3J:rO Go.Proofs.Tryz.prog T oI=true:=by kernel_rfl
theorem a3y:rB Go.Proofs.Tryz.prog T 123 rV=true:=by kernel_rfl
theorem a3S:rO Go.Proofs.Tryz.prog T mM=true:=by kernel_rfl
end Go.Ev.oO
namespace Go.Ev.oO
theorem a3R:rO Go.Proofs.Tryz.prog T pI=true:=by kernel_rfl
theorem a3I:rO Go.Proofs.Tryz.prog T mJ=true:=by kernel_rfl
theorem a3T:rO Go.Proofs.Tryz.prog T nM=true:=by kernel_rfl
theorem a3U:rO Go.Proofs.Tryz.prog T oM=true:=by kernel_rfl
theorem a3F:rO Go.Proofs.Tryz.prog T kG=true:=by kernel_rfl
theorem a3E:rO Go.Proofs.Tryz.prog T vE=true:=by kernel_rfl
theorem a3o:rB Go.Proofs.Tryz.prog T 104 n7=true:=by kernel_rfl
theorem a3x:rB Go.Proofs.Tryz.prog T 122 aR=true:=by kernel_rfl
theorem a3V:rO Go.Proofs.Tryz.prog T iO=true:=by kernel_rfl
end Go.Ev.oO
namespace Go.Ev.oO
theorem a3p:rB Go.Proofs.Tryz.prog T 106 sV=true:=by kernel_rfl
theorem a3W:rO Go.Proofs.Tryz.prog T pM=true:=by kernel_rfl
theorem a3q:rB Go.Proofs.Tryz.prog T 107 jO=true:=by kernel_rfl
theorem a3r:rB Go.Proofs.Tryz.prog T 108 bR=true:=by kernel_rfl
theorem a3D:rO Go.Proofs.Tryz.prog T vP=true:=by kernel_rfl
theorem a63:rB Go.Proofs.Tryz.prog T 82 s7=true:=by kernel_rfl
theorem a6R:rB Go.Proofs.Tryz.prog T 59 u7=true:=by kernel_rfl
theorem a6X:rB Go.Proofs.Tryz.prog T 72 aEq=true:=by kernel_rfl
theorem a3u:rB Go.Proofs.Tryz.prog T 116 kO=true:=by kernel_rfl
theorem a7c:rB Go.Proofs.Tryz.prog T 95 nJ=true:=by kernel_rfl
theorem a6Y:rB Go.Proofs.Tryz.prog T 73 aEr=true:=by kernel_rfl
end Go.Ev.oO
namespace Go.Ev.oO
theorem a6Z:rB Go.Proofs.Tryz.prog T 74 aEs=true:=by kernel_rfl
theorem a6M:rB Go.Proofs.Tryz.prog T 53 aBx=true:=by kernel_rfl
theorem a6z:rB Go.Proofs.Tryz.prog T 33 aFH=true:=by kernel_rfl
theorem a6p:rB Go.Proofs.Tryz.prog T 16 aFI=true:=by kernel_rfl
theorem a9H:rB Go.Proofs.Tryz.prog T 9 aEw=true:=by kernel_rfl
theorem a6q:rB Go.Proofs.Tryz.prog T 18 aFJ=true:=by kernel_rfl
theorem a3A:rO Go.Proofs.Tryz.prog T lO=true:=by kernel_rfl
theorem a6A:rB Go.Proofs.Tryz.prog T 35 aEx=true:=by kernel_rfl
end Go.Ev.oO
namespace Go.Ev.oO
theorem a3C:rO Go.Proofs.Tryz.prog T aL=true:=by kernel_rfl
theorem a3B:rO Go.Proofs.Tryz.prog T wM=true:=by kernel_rfl
theorem aVD:rO Go.Proofs.Tryz.prog T xM=true:=by kernel_rfl
theorem a9D:rB Go.Proofs.Tryz.prog T 5 aFK=true:=by kernel_rfl
theorem a6n:rB Go.Proofs.Tryz.prog T 14 aJB=true:=by kernel_rfl
theorem a9F:rB Go.Proofs.Tryz.prog T 7 aIS=true:=by kernel_rfl
theorem a9C:rB Go.Proofs.Tryz.prog T 4 aFL=true:=by kernel_rfl
theorem a6s:rB Go.Proofs.Tryz.prog T 22 gY=true:=by kernel_rfl
theorem a6t:rB Go.Proofs.Tryz.prog T 23 wV=true:=by kernel_rfl
theorem a6H:rB Go.Proofs.Tryz.prog T 45 aHc=true:=by kernel_rfl
end Go.Ev.oO
namespace Go.Ev.oO
theorem a65:rB Go.Proofs.Tryz.prog T 84 oU=true:=by kernel_rfl
theorem a6T:rB Go.Proofs.Tryz.prog T 65 gX=true:=by kernel_rfl
theorem a6I:rB Go.Proofs.Tryz.prog T 46 aKA=true:=by kernel_rfl
theorem a6v:rB Go.Proofs.Tryz.prog T 28 c8=true:=by kernel_rfl
theorem a6w:rB Go.Proofs.Tryz.prog T 29 aBD=true:=by kernel_rfl
theorem a6B:rB Go.Proofs.Tryz.prog T 37 j8=true:=by kernel_rfl
theorem a6C:rB Go.Proofs.Tryz.prog T 38 n8=true:=by kernel_rfl
theorem a6F:rB Go.Proofs.Tryz.prog T 41 kY=true:=by kernel_rfl
theorem a6Q:rB Go.Proofs.Tryz.prog T 58 cR=true:=by kernel_rfl
theorem a6S:rB Go.Proofs.Tryz.prog T 60 lY=true:=by kernel_rfl
theorem a6G:rB Go.Proofs.Tryz.prog T 42 mY=true:=by kernel_rfl
end Go.Ev.oO
namespace Go.Ev.oO
theorem a6u:rB Go.Proofs.Tryz.prog T 24 s8=true:=by kernel_rfl
theorem a6l:rB Go.Proofs.Tryz.prog T 11 qY=true:=by kernel_rfl
theorem a6x:rB Go.Proofs.Tryz.prog T 31 bW=true:=by kernel_rfl
theorem aZw:rB Go.Proofs.Tryz.prog T 99 lD=true:=by kernel_rfl
theorem aVC:rB Go.Proofs.Tryz.prog T 118 wE=true:=by kernel_rfl
theorem aVB:rB Go.Proofs.Tryz.prog T 100 pF=true:=by kernel_rfl
theorem a3X:rO Go.Proofs.Tryz.prog T kE=true:=by kernel_rfl
theorem a6V:rB Go.Proofs.Tryz.prog T 67 xF=true:=by kernel_rfl
theorem a6K:rB Go.Proofs.Tryz.prog T 50 yP=true:=by kernel_rfl
end Go.Ev.oO
namespace Go.Ev.oO
theorem a6y:rB Go.Proofs.Tryz.prog T 32 mO=true:=by kernel_rfl
theorem a6m:rB Go.Proofs.Tryz.prog T 13 sY=true:=by kernel_rfl
theorem a9E:rB Go.Proofs.Tryz.prog T 6 z8=true:=by kernel_rfl
theorem a9B:rB Go.Proofs.Tryz.prog T 3 bQ=true:=by kernel_rfl
end Go.Ev.oO
