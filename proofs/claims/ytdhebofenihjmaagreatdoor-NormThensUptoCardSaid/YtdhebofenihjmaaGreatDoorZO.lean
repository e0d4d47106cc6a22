/-
  A part of the proof: what the functions of the program compute.
-/
import Derived.Test.YtdhebofenihjmaaGreatDoorZTab
import Derived.Test.YtdhebofenihjmaaGreatDoorProg
set_option linter.all false
set_option maxRecDepth 100000
namespace Go.Ev.dJ
theorem bBl (G:List Row→Option (List Row)):nB Go.Proofs.Tryz.prog (TW G) 24 aIp=true:=by kernel_rfl
theorem bBr (G:List Row→Option (List Row)):nB Go.Proofs.Tryz.prog (TW G) 30 aIq=true:=by kernel_rfl
theorem bBY (G:List Row→Option (List Row)):nB Go.Proofs.Tryz.prog (TW G) 68 aD6=true:=by kernel_rfl
theorem bBZ (G:List Row→Option (List Row)):nB Go.Proofs.Tryz.prog (TW G) 69 aGi=true:=by kernel_rfl
theorem bCg (G:List Row→Option (List Row)):nB Go.Proofs.Tryz.prog (TW G) 90 aAy=true:=by kernel_rfl
theorem bB0 (G:List Row→Option (List Row)):nB Go.Proofs.Tryz.prog (TW G) 70 aV=true:=by kernel_rfl
theorem bCh (G:List Row→Option (List Row)):nB Go.Proofs.Tryz.prog (TW G) 91 gE=true:=by kernel_rfl
theorem bB1 (G:List Row→Option (List Row)):nB Go.Proofs.Tryz.prog (TW G) 71 bV=true:=by kernel_rfl
theorem bB2 (G:List Row→Option (List Row)):nB Go.Proofs.Tryz.prog (TW G) 72 iF=true:=by kernel_rfl
theorem bB3 (G:List Row→Option (List Row)):nB Go.Proofs.Tryz.prog (TW G) 73 aEa=true:=by kernel_rfl
theorem bBG (G:List Row→Option (List Row)):nB Go.Proofs.Tryz.prog (TW G) 46 aIs=true:=by kernel_rfl
theorem bBn (G:List Row→Option (List Row)):nB Go.Proofs.Tryz.prog (TW G) 26 aGk=true:=by kernel_rfl
theorem bBw (G:List Row→Option (List Row)):nB Go.Proofs.Tryz.prog (TW G) 35 aGl=true:=by kernel_rfl
theorem bBL (G:List Row→Option (List Row)):nB Go.Proofs.Tryz.prog (TW G) 51 aGm=true:=by kernel_rfl
theorem bBM (G:List Row→Option (List Row)):nB Go.Proofs.Tryz.prog (TW G) 52 aGn=true:=by kernel_rfl
theorem bCm (G:List Row→Option (List Row)):nB Go.Proofs.Tryz.prog (TW G) 98 aCa=true:=by kernel_rfl
theorem bB7 (G:List Row→Option (List Row)):nB Go.Proofs.Tryz.prog (TW G) 79 aCb=true:=by kernel_rfl
theorem bB8 (G:List Row→Option (List Row)):nB Go.Proofs.Tryz.prog (TW G) 80 aCd=true:=by kernel_rfl
theorem a7G (G:List Row→Option (List Row)):nB Go.Proofs.Tryz.prog (TW G) 130 gG=true:=by kernel_rfl
theorem a7B (G:List Row→Option (List Row)):nB Go.Proofs.Tryz.prog (TW G) 118 uE=true:=by kernel_rfl
theorem a7C (G:List Row→Option (List Row)):nB Go.Proofs.Tryz.prog (TW G) 119 aAA=true:=by kernel_rfl
theorem bCn (G:List Row→Option (List Row)):nB Go.Proofs.Tryz.prog (TW G) 99 aEl=true:=by kernel_rfl
end Go.Ev.dJ
namespace Go.Ev.dJ
theorem a7s (G:List Row→Option (List Row)):nB Go.Proofs.Tryz.prog (TW G) 100 aGo=true:=by kernel_rfl
theorem bB9 (G:List Row→Option (List Row)):nB Go.Proofs.Tryz.prog (TW G) 81 aCi=true:=by kernel_rfl
theorem bBN (G:List Row→Option (List Row)):nB Go.Proofs.Tryz.prog (TW G) 53 aGp=true:=by kernel_rfl
theorem bBx (G:List Row→Option (List Row)):nB Go.Proofs.Tryz.prog (TW G) 36 aEs=true:=by kernel_rfl
theorem bBX (G:List Row→Option (List Row)):nB Go.Proofs.Tryz.prog (TW G) 65 aQz=true:=by kernel_rfl
theorem a7K (G:List Row→Option (List Row)):aN Go.Proofs.Tryz.prog (TW G) gJ=true:=by kernel_rfl
theorem a7L (G:List Row→Option (List Row)):aN Go.Proofs.Tryz.prog (TW G) hJ=true:=by kernel_rfl
theorem bB6 (G:List Row→Option (List Row)):nB Go.Proofs.Tryz.prog (TW G) 78 iE=true:=by kernel_rfl
theorem bBK (G:List Row→Option (List Row)):nB Go.Proofs.Tryz.prog (TW G) 50 uP=true:=by kernel_rfl
theorem a7O (G:List Row→Option (List Row)):aN Go.Proofs.Tryz.prog (TW G) qK=true:=by kernel_rfl
theorem a7Q (G:List Row→Option (List Row)):aN Go.Proofs.Tryz.prog (TW G) iH=true:=by kernel_rfl
theorem a7R (G:List Row→Option (List Row)):aN Go.Proofs.Tryz.prog (TW G) rK=true:=by kernel_rfl
end Go.Ev.dJ
namespace Go.Ev.dJ
theorem a7P (G:List Row→Option (List Row)):aN Go.Proofs.Tryz.prog (TW G) iI=true:=by kernel_rfl
theorem a7T (G:List Row→Option (List Row)):aN Go.Proofs.Tryz.prog (TW G) tN=true:=by kernel_rfl
theorem a7U (G:List Row→Option (List Row)):aN Go.Proofs.Tryz.prog (TW G) uN=true:=by kernel_rfl
theorem a7S (G:List Row→Option (List Row)):aN Go.Proofs.Tryz.prog (TW G) uF=true:=by kernel_rfl
theorem a7N (G:List Row→Option (List Row)):aN Go.Proofs.Tryz.prog (TW G) lJ=true:=by kernel_rfl
theorem a7E (G:List Row→Option (List Row)):nB Go.Proofs.Tryz.prog (TW G) 122 iV=true:=by kernel_rfl
theorem a7W (G:List Row→Option (List Row)):aN Go.Proofs.Tryz.prog (TW G) bM=true:=by kernel_rfl
end Go.Ev.dJ
namespace Go.Ev.dJ
theorem a7V (G:List Row→Option (List Row)):aN Go.Proofs.Tryz.prog (TW G) jI=true:=by kernel_rfl
theorem a7M (G:List Row→Option (List Row)):aN Go.Proofs.Tryz.prog (TW G) mJ=true:=by kernel_rfl
theorem a7X (G:List Row→Option (List Row)):aN Go.Proofs.Tryz.prog (TW G) cM=true:=by kernel_rfl
theorem a7Y (G:List Row→Option (List Row)):aN Go.Proofs.Tryz.prog (TW G) dM=true:=by kernel_rfl
theorem a7J (G:List Row→Option (List Row)):aN Go.Proofs.Tryz.prog (TW G) iG=true:=by kernel_rfl
theorem a7I (G:List Row→Option (List Row)):aN Go.Proofs.Tryz.prog (TW G) kE=true:=by kernel_rfl
theorem a7t (G:List Row→Option (List Row)):nB Go.Proofs.Tryz.prog (TW G) 101 aAB=true:=by kernel_rfl
theorem a7D (G:List Row→Option (List Row)):nB Go.Proofs.Tryz.prog (TW G) 121 wP=true:=by kernel_rfl
theorem a7Z (G:List Row→Option (List Row)):aN Go.Proofs.Tryz.prog (TW G) vN=true:=by kernel_rfl
end Go.Ev.dJ
namespace Go.Ev.dJ
theorem a7u (G:List Row→Option (List Row)):nB Go.Proofs.Tryz.prog (TW G) 103 jV=true:=by kernel_rfl
theorem a71 (G:List Row→Option (List Row)):aN Go.Proofs.Tryz.prog (TW G) eM=true:=by kernel_rfl
theorem a7v (G:List Row→Option (List Row)):nB Go.Proofs.Tryz.prog (TW G) 104 wN=true:=by kernel_rfl
theorem a7w (G:List Row→Option (List Row)):nB Go.Proofs.Tryz.prog (TW G) 105 xP=true:=by kernel_rfl
theorem a7H (G:List Row→Option (List Row)):aN Go.Proofs.Tryz.prog (TW G) zO=true:=by kernel_rfl
theorem bCa (G:List Row→Option (List Row)):nB Go.Proofs.Tryz.prog (TW G) 82 aAC=true:=by kernel_rfl
theorem bBP (G:List Row→Option (List Row)):nB Go.Proofs.Tryz.prog (TW G) 55 aAD=true:=by kernel_rfl
theorem bCi (G:List Row→Option (List Row)):nB Go.Proofs.Tryz.prog (TW G) 92 aGr=true:=by kernel_rfl
theorem a7F (G:List Row→Option (List Row)):nB Go.Proofs.Tryz.prog (TW G) 128 xN=true:=by kernel_rfl
theorem a7A (G:List Row→Option (List Row)):nB Go.Proofs.Tryz.prog (TW G) 112 nJ=true:=by kernel_rfl
theorem bCj (G:List Row→Option (List Row)):nB Go.Proofs.Tryz.prog (TW G) 93 aGs=true:=by kernel_rfl
end Go.Ev.dJ
namespace Go.Ev.dJ
theorem bCk (G:List Row→Option (List Row)):nB Go.Proofs.Tryz.prog (TW G) 94 aGt=true:=by kernel_rfl
theorem bB4 (G:List Row→Option (List Row)):nB Go.Proofs.Tryz.prog (TW G) 74 aCv=true:=by kernel_rfl
theorem bBH (G:List Row→Option (List Row)):nB Go.Proofs.Tryz.prog (TW G) 47 aIt=true:=by kernel_rfl
theorem bBs (G:List Row→Option (List Row)):nB Go.Proofs.Tryz.prog (TW G) 31 aIu=true:=by kernel_rfl
theorem bBb (G:List Row→Option (List Row)):nB Go.Proofs.Tryz.prog (TW G) 13 aGy=true:=by kernel_rfl
theorem a73 (G:List Row→Option (List Row)):aN Go.Proofs.Tryz.prog (TW G) lG=true:=by kernel_rfl
theorem bBD (G:List Row→Option (List Row)):nB Go.Proofs.Tryz.prog (TW G) 42 aGz=true:=by kernel_rfl
end Go.Ev.dJ
namespace Go.Ev.dJ
theorem bBh (G:List Row→Option (List Row)):nB Go.Proofs.Tryz.prog (TW G) 19 aIv=true:=by kernel_rfl
theorem bCc (G:List Row→Option (List Row)):nB Go.Proofs.Tryz.prog (TW G) 84 aIw=true:=by kernel_rfl
theorem a77 (G:List Row→Option (List Row)):aN Go.Proofs.Tryz.prog (TW G) tG=true:=by kernel_rfl
theorem bCd (G:List Row→Option (List Row)):nB Go.Proofs.Tryz.prog (TW G) 85 aCx=true:=by kernel_rfl
theorem a7z (G:List Row→Option (List Row)):nB Go.Proofs.Tryz.prog (TW G) 109 aEG=true:=by kernel_rfl
theorem bCe (G:List Row→Option (List Row)):nB Go.Proofs.Tryz.prog (TW G) 86 aL1=true:=by kernel_rfl
theorem bBU (G:List Row→Option (List Row)):nB Go.Proofs.Tryz.prog (TW G) 61 aGJ=true:=by kernel_rfl
theorem bBV (G:List Row→Option (List Row)):nB Go.Proofs.Tryz.prog (TW G) 62 yS=true:=by kernel_rfl
theorem a74 (G:List Row→Option (List Row)):aN Go.Proofs.Tryz.prog (TW G) nM=true:=by kernel_rfl
end Go.Ev.dJ
namespace Go.Ev.dJ
theorem bBE (G:List Row→Option (List Row)):nB Go.Proofs.Tryz.prog (TW G) 43 aIx=true:=by kernel_rfl
theorem bBi (G:List Row→Option (List Row)):nB Go.Proofs.Tryz.prog (TW G) 20 aGR=true:=by kernel_rfl
theorem bG5 (G:List Row→Option (List Row)):nB Go.Proofs.Tryz.prog (TW G) 9 aIy=true:=by kernel_rfl
theorem bBj (G:List Row→Option (List Row)):nB Go.Proofs.Tryz.prog (TW G) 22 aNI=true:=by kernel_rfl
theorem bA8 (G:List Row→Option (List Row)):nB Go.Proofs.Tryz.prog (TW G) 10 aML=true:=by kernel_rfl
theorem bBW (G:List Row→Option (List Row)):nB Go.Proofs.Tryz.prog (TW G) 64 aS8=true:=by kernel_rfl
theorem a79 (G:List Row→Option (List Row)):aN Go.Proofs.Tryz.prog (TW G) aCz=true:=by kernel_rfl
theorem bCf (G:List Row→Option (List Row)):nB Go.Proofs.Tryz.prog (TW G) 88 aQC=true:=by kernel_rfl
theorem a8b (G:List Row→Option (List Row)):aN Go.Proofs.Tryz.prog (TW G) aAk=true:=by kernel_rfl
theorem a8a (G:List Row→Option (List Row)):aN Go.Proofs.Tryz.prog (TW G) aBJ=true:=by kernel_rfl
theorem a78 (G:List Row→Option (List Row)):aN Go.Proofs.Tryz.prog (TW G) aBK=true:=by kernel_rfl
theorem bBk (G:List Row→Option (List Row)):nB Go.Proofs.Tryz.prog (TW G) 23 aS9=true:=by kernel_rfl
theorem bA9 (G:List Row→Option (List Row)):nB Go.Proofs.Tryz.prog (TW G) 11 aIz=true:=by kernel_rfl
theorem bBm (G:List Row→Option (List Row)):nB Go.Proofs.Tryz.prog (TW G) 25 aDm=true:=by kernel_rfl
theorem bBo (G:List Row→Option (List Row)):nB Go.Proofs.Tryz.prog (TW G) 27 yQ=true:=by kernel_rfl
theorem bBp (G:List Row→Option (List Row)):nB Go.Proofs.Tryz.prog (TW G) 28 aMM=true:=by kernel_rfl
theorem bBq (G:List Row→Option (List Row)):nB Go.Proofs.Tryz.prog (TW G) 29 kV=true:=by kernel_rfl
end Go.Ev.dJ
namespace Go.Ev.dJ
theorem bBa (G:List Row→Option (List Row)):nB Go.Proofs.Tryz.prog (TW G) 12 aQD=true:=by kernel_rfl
theorem bG0 (G:List Row→Option (List Row)):nB Go.Proofs.Tryz.prog (TW G) 4 bT=true:=by kernel_rfl
theorem bG1 (G:List Row→Option (List Row)):nB Go.Proofs.Tryz.prog (TW G) 5 aIB=true:=by kernel_rfl
theorem bBc (G:List Row→Option (List Row)):nB Go.Proofs.Tryz.prog (TW G) 14 pY=true:=by kernel_rfl
theorem bBd (G:List Row→Option (List Row)):nB Go.Proofs.Tryz.prog (TW G) 15 oV=true:=by kernel_rfl
theorem bBf (G:List Row→Option (List Row)):nB Go.Proofs.Tryz.prog (TW G) 17 aAG=true:=by kernel_rfl
theorem bBI (G:List Row→Option (List Row)):nB Go.Proofs.Tryz.prog (TW G) 48 aKq=true:=by kernel_rfl
theorem bCl (G:List Row→Option (List Row)):nB Go.Proofs.Tryz.prog (TW G) 96 tT=true:=by kernel_rfl
theorem bB5 (G:List Row→Option (List Row)):nB Go.Proofs.Tryz.prog (TW G) 77 iX=true:=by kernel_rfl
theorem bBJ (G:List Row→Option (List Row)):nB Go.Proofs.Tryz.prog (TW G) 49 aOV=true:=by kernel_rfl
theorem bBt (G:List Row→Option (List Row)):nB Go.Proofs.Tryz.prog (TW G) 32 aAH=true:=by kernel_rfl
theorem bBu (G:List Row→Option (List Row)):nB Go.Proofs.Tryz.prog (TW G) 33 aAI=true:=by kernel_rfl
theorem bBv (G:List Row→Option (List Row)):nB Go.Proofs.Tryz.prog (TW G) 34 aCE=true:=by kernel_rfl
theorem bBy (G:List Row→Option (List Row)):nB Go.Proofs.Tryz.prog (TW G) 37 tY=true:=by kernel_rfl
theorem bBO (G:List Row→Option (List Row)):nB Go.Proofs.Tryz.prog (TW G) 54 yP=true:=by kernel_rfl
end Go.Ev.dJ
namespace Go.Ev.dJ
theorem bBQ (G:List Row→Option (List Row)):nB Go.Proofs.Tryz.prog (TW G) 56 uY=true:=by kernel_rfl
theorem bBz (G:List Row→Option (List Row)):nB Go.Proofs.Tryz.prog (TW G) 38 vY=true:=by kernel_rfl
theorem bBe (G:List Row→Option (List Row)):nB Go.Proofs.Tryz.prog (TW G) 16 aAJ=true:=by kernel_rfl
theorem bG2 (G:List Row→Option (List Row)):nB Go.Proofs.Tryz.prog (TW G) 6 aZ=true:=by kernel_rfl
end Go.Ev.dJ
namespace Go.Ev.dJ
theorem bG3 (G:List Row→Option (List Row)):nB Go.Proofs.Tryz.prog (TW G) 7 bZ=true:=by kernel_rfl
theorem bBR (G:List Row→Option (List Row)):nB Go.Proofs.Tryz.prog (TW G) 57 gW=true:=by kernel_rfl
theorem bBA (G:List Row→Option (List Row)):nB Go.Proofs.Tryz.prog (TW G) 39 cZ=true:=by kernel_rfl
theorem bBB (G:List Row→Option (List Row)):nB Go.Proofs.Tryz.prog (TW G) 40 aAL=true:=by kernel_rfl
theorem bBT (G:List Row→Option (List Row)):nB Go.Proofs.Tryz.prog (TW G) 59 uG=true:=by kernel_rfl
theorem a7x (G:List Row→Option (List Row)):nB Go.Proofs.Tryz.prog (TW G) 106 gL=true:=by kernel_rfl
theorem a7y (G:List Row→Option (List Row)):nB Go.Proofs.Tryz.prog (TW G) 107 iL=true:=by kernel_rfl
theorem bCb (G:List Row→Option (List Row)):nB Go.Proofs.Tryz.prog (TW G) 83 yN=true:=by kernel_rfl
end Go.Ev.dJ
namespace Go.Ev.dJ
theorem bBS (G:List Row→Option (List Row)):nB Go.Proofs.Tryz.prog (TW G) 58 aC2=true:=by kernel_rfl
theorem bBC (G:List Row→Option (List Row)):nB Go.Proofs.Tryz.prog (TW G) 41 gZ=true:=by kernel_rfl
theorem bBg (G:List Row→Option (List Row)):nB Go.Proofs.Tryz.prog (TW G) 18 aC4=true:=by kernel_rfl
theorem bG4 (G:List Row→Option (List Row)):nB Go.Proofs.Tryz.prog (TW G) 8 aAW=true:=by kernel_rfl
theorem bGZ (G:List Row→Option (List Row)):nB Go.Proofs.Tryz.prog (TW G) 3 fP=true:=by kernel_rfl
theorem bBF (G:List Row→Option (List Row)):nB Go.Proofs.Tryz.prog (TW G) 44 aMl=true:=by kernel_rfl
end Go.Ev.dJ
