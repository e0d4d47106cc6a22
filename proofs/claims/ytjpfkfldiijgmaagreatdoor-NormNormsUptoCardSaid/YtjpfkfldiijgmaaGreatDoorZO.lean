/-
  A part of the proof: what the functions of the program compute.
-/
import Derived.Test.YtjpfkfldiijgmaaGreatDoorZTab
import Derived.Test.YtjpfkfldiijgmaaGreatDoorProg
set_option linter.all false
set_option maxRecDepth 100000
namespace Go.Ev.jJ
theorem bBx (G:List Row→Option (List Row)):nB Go.Proofs.Tryz.prog (TW G) 23 aIC=true:=by kernel_rfl
theorem bBD (G:List Row→Option (List Row)):nB Go.Proofs.Tryz.prog (TW G) 29 aID=true:=by kernel_rfl
theorem bB4 (G:List Row→Option (List Row)):nB Go.Proofs.Tryz.prog (TW G) 61 aEl=true:=by kernel_rfl
theorem bB5 (G:List Row→Option (List Row)):nB Go.Proofs.Tryz.prog (TW G) 62 aGx=true:=by kernel_rfl
theorem bCp (G:List Row→Option (List Row)):nB Go.Proofs.Tryz.prog (TW G) 84 aAK=true:=by kernel_rfl
theorem bB6 (G:List Row→Option (List Row)):nB Go.Proofs.Tryz.prog (TW G) 63 kV=true:=by kernel_rfl
theorem bCq (G:List Row→Option (List Row)):nB Go.Proofs.Tryz.prog (TW G) 85 eE=true:=by kernel_rfl
theorem bB7 (G:List Row→Option (List Row)):nB Go.Proofs.Tryz.prog (TW G) 64 lV=true:=by kernel_rfl
theorem bB8 (G:List Row→Option (List Row)):nB Go.Proofs.Tryz.prog (TW G) 65 eF=true:=by kernel_rfl
theorem bB9 (G:List Row→Option (List Row)):nB Go.Proofs.Tryz.prog (TW G) 66 aEp=true:=by kernel_rfl
theorem bBO (G:List Row→Option (List Row)):nB Go.Proofs.Tryz.prog (TW G) 41 aIF=true:=by kernel_rfl
theorem bBz (G:List Row→Option (List Row)):nB Go.Proofs.Tryz.prog (TW G) 25 aGz=true:=by kernel_rfl
theorem bBV (G:List Row→Option (List Row)):nB Go.Proofs.Tryz.prog (TW G) 49 aGA=true:=by kernel_rfl
theorem bCh (G:List Row→Option (List Row)):nB Go.Proofs.Tryz.prog (TW G) 74 aGB=true:=by kernel_rfl
theorem bCi (G:List Row→Option (List Row)):nB Go.Proofs.Tryz.prog (TW G) 75 aGC=true:=by kernel_rfl
theorem a7J (G:List Row→Option (List Row)):nB Go.Proofs.Tryz.prog (TW G) 107 aCo=true:=by kernel_rfl
theorem bCx (G:List Row→Option (List Row)):nB Go.Proofs.Tryz.prog (TW G) 95 aCp=true:=by kernel_rfl
theorem bCy (G:List Row→Option (List Row)):nB Go.Proofs.Tryz.prog (TW G) 96 aCr=true:=by kernel_rfl
theorem a7V (G:List Row→Option (List Row)):nB Go.Proofs.Tryz.prog (TW G) 137 gG=true:=by kernel_rfl
theorem a7R (G:List Row→Option (List Row)):nB Go.Proofs.Tryz.prog (TW G) 125 sE=true:=by kernel_rfl
theorem a7S (G:List Row→Option (List Row)):nB Go.Proofs.Tryz.prog (TW G) 126 aAM=true:=by kernel_rfl
theorem a7K (G:List Row→Option (List Row)):nB Go.Proofs.Tryz.prog (TW G) 108 aEA=true:=by kernel_rfl
end Go.Ev.jJ
namespace Go.Ev.jJ
theorem a7L (G:List Row→Option (List Row)):nB Go.Proofs.Tryz.prog (TW G) 109 aGD=true:=by kernel_rfl
theorem bCz (G:List Row→Option (List Row)):nB Go.Proofs.Tryz.prog (TW G) 97 aCw=true:=by kernel_rfl
theorem bCj (G:List Row→Option (List Row)):nB Go.Proofs.Tryz.prog (TW G) 76 aGE=true:=by kernel_rfl
theorem bBW (G:List Row→Option (List Row)):nB Go.Proofs.Tryz.prog (TW G) 50 aEH=true:=by kernel_rfl
theorem bB3 (G:List Row→Option (List Row)):nB Go.Proofs.Tryz.prog (TW G) 58 aQF=true:=by kernel_rfl
theorem a7Z (G:List Row→Option (List Row)):jN Go.Proofs.Tryz.prog (TW G) lJ=true:=by kernel_rfl
theorem a71 (G:List Row→Option (List Row)):jN Go.Proofs.Tryz.prog (TW G) mJ=true:=by kernel_rfl
theorem bCw (G:List Row→Option (List Row)):nB Go.Proofs.Tryz.prog (TW G) 94 fE=true:=by kernel_rfl
theorem bCg (G:List Row→Option (List Row)):nB Go.Proofs.Tryz.prog (TW G) 73 zP=true:=by kernel_rfl
theorem a77 (G:List Row→Option (List Row)):jN Go.Proofs.Tryz.prog (TW G) uK=true:=by kernel_rfl
theorem a79 (G:List Row→Option (List Row)):jN Go.Proofs.Tryz.prog (TW G) mH=true:=by kernel_rfl
theorem a8a (G:List Row→Option (List Row)):jN Go.Proofs.Tryz.prog (TW G) vK=true:=by kernel_rfl
end Go.Ev.jJ
namespace Go.Ev.jJ
theorem a78 (G:List Row→Option (List Row)):jN Go.Proofs.Tryz.prog (TW G) oI=true:=by kernel_rfl
theorem a8c (G:List Row→Option (List Row)):jN Go.Proofs.Tryz.prog (TW G) bO=true:=by kernel_rfl
theorem a8d (G:List Row→Option (List Row)):jN Go.Proofs.Tryz.prog (TW G) cO=true:=by kernel_rfl
theorem a8b (G:List Row→Option (List Row)):jN Go.Proofs.Tryz.prog (TW G) sF=true:=by kernel_rfl
theorem a74 (G:List Row→Option (List Row)):jN Go.Proofs.Tryz.prog (TW G) qJ=true:=by kernel_rfl
theorem a7U (G:List Row→Option (List Row)):nB Go.Proofs.Tryz.prog (TW G) 129 rV=true:=by kernel_rfl
theorem a8f (G:List Row→Option (List Row)):jN Go.Proofs.Tryz.prog (TW G) jM=true:=by kernel_rfl
end Go.Ev.jJ
namespace Go.Ev.jJ
theorem a8e (G:List Row→Option (List Row)):jN Go.Proofs.Tryz.prog (TW G) qI=true:=by kernel_rfl
theorem a73 (G:List Row→Option (List Row)):jN Go.Proofs.Tryz.prog (TW G) rJ=true:=by kernel_rfl
theorem a8g (G:List Row→Option (List Row)):jN Go.Proofs.Tryz.prog (TW G) kM=true:=by kernel_rfl
theorem a8h (G:List Row→Option (List Row)):jN Go.Proofs.Tryz.prog (TW G) lM=true:=by kernel_rfl
theorem a7Y (G:List Row→Option (List Row)):jN Go.Proofs.Tryz.prog (TW G) iG=true:=by kernel_rfl
theorem a7X (G:List Row→Option (List Row)):jN Go.Proofs.Tryz.prog (TW G) iE=true:=by kernel_rfl
theorem a7M (G:List Row→Option (List Row)):nB Go.Proofs.Tryz.prog (TW G) 110 aAN=true:=by kernel_rfl
theorem a7T (G:List Row→Option (List Row)):nB Go.Proofs.Tryz.prog (TW G) 128 bQ=true:=by kernel_rfl
theorem a8i (G:List Row→Option (List Row)):jN Go.Proofs.Tryz.prog (TW G) dO=true:=by kernel_rfl
end Go.Ev.jJ
namespace Go.Ev.jJ
theorem a7N (G:List Row→Option (List Row)):nB Go.Proofs.Tryz.prog (TW G) 112 sV=true:=by kernel_rfl
theorem a8j (G:List Row→Option (List Row)):jN Go.Proofs.Tryz.prog (TW G) mM=true:=by kernel_rfl
theorem a7O (G:List Row→Option (List Row)):nB Go.Proofs.Tryz.prog (TW G) 113 eO=true:=by kernel_rfl
theorem a7P (G:List Row→Option (List Row)):nB Go.Proofs.Tryz.prog (TW G) 114 cQ=true:=by kernel_rfl
theorem a7W (G:List Row→Option (List Row)):jN Go.Proofs.Tryz.prog (TW G) gP=true:=by kernel_rfl
theorem bCA (G:List Row→Option (List Row)):nB Go.Proofs.Tryz.prog (TW G) 98 aAO=true:=by kernel_rfl
theorem bCl (G:List Row→Option (List Row)):nB Go.Proofs.Tryz.prog (TW G) 78 aAP=true:=by kernel_rfl
theorem bCr (G:List Row→Option (List Row)):nB Go.Proofs.Tryz.prog (TW G) 86 aGG=true:=by kernel_rfl
theorem a7Q (G:List Row→Option (List Row)):nB Go.Proofs.Tryz.prog (TW G) 119 fO=true:=by kernel_rfl
theorem a7H (G:List Row→Option (List Row)):nB Go.Proofs.Tryz.prog (TW G) 103 sJ=true:=by kernel_rfl
theorem bCs (G:List Row→Option (List Row)):nB Go.Proofs.Tryz.prog (TW G) 87 aGH=true:=by kernel_rfl
end Go.Ev.jJ
namespace Go.Ev.jJ
theorem bCt (G:List Row→Option (List Row)):nB Go.Proofs.Tryz.prog (TW G) 88 aGI=true:=by kernel_rfl
theorem bCa (G:List Row→Option (List Row)):nB Go.Proofs.Tryz.prog (TW G) 67 aCJ=true:=by kernel_rfl
theorem bBP (G:List Row→Option (List Row)):nB Go.Proofs.Tryz.prog (TW G) 42 aIG=true:=by kernel_rfl
theorem bBE (G:List Row→Option (List Row)):nB Go.Proofs.Tryz.prog (TW G) 30 aIH=true:=by kernel_rfl
theorem bBo (G:List Row→Option (List Row)):nB Go.Proofs.Tryz.prog (TW G) 13 aGN=true:=by kernel_rfl
theorem a8k (G:List Row→Option (List Row)):jN Go.Proofs.Tryz.prog (TW G) lG=true:=by kernel_rfl
theorem bBF (G:List Row→Option (List Row)):nB Go.Proofs.Tryz.prog (TW G) 31 aGO=true:=by kernel_rfl
end Go.Ev.jJ
namespace Go.Ev.jJ
theorem bBp (G:List Row→Option (List Row)):nB Go.Proofs.Tryz.prog (TW G) 14 aII=true:=by kernel_rfl
theorem bCb (G:List Row→Option (List Row)):nB Go.Proofs.Tryz.prog (TW G) 68 aIJ=true:=by kernel_rfl
theorem a8m (G:List Row→Option (List Row)):jN Go.Proofs.Tryz.prog (TW G) tG=true:=by kernel_rfl
theorem bCc (G:List Row→Option (List Row)):nB Go.Proofs.Tryz.prog (TW G) 69 aCL=true:=by kernel_rfl
theorem bCu (G:List Row→Option (List Row)):nB Go.Proofs.Tryz.prog (TW G) 90 aEV=true:=by kernel_rfl
theorem bCd (G:List Row→Option (List Row)):nB Go.Proofs.Tryz.prog (TW G) 70 aMc=true:=by kernel_rfl
theorem bBQ (G:List Row→Option (List Row)):nB Go.Proofs.Tryz.prog (TW G) 44 aGY=true:=by kernel_rfl
theorem bBR (G:List Row→Option (List Row)):nB Go.Proofs.Tryz.prog (TW G) 45 iT=true:=by kernel_rfl
theorem a8l (G:List Row→Option (List Row)):jN Go.Proofs.Tryz.prog (TW G) uM=true:=by kernel_rfl
end Go.Ev.jJ
namespace Go.Ev.jJ
theorem bBG (G:List Row→Option (List Row)):nB Go.Proofs.Tryz.prog (TW G) 32 aIK=true:=by kernel_rfl
theorem bBq (G:List Row→Option (List Row)):nB Go.Proofs.Tryz.prog (TW G) 15 aG6=true:=by kernel_rfl
theorem bHa (G:List Row→Option (List Row)):nB Go.Proofs.Tryz.prog (TW G) 5 aIL=true:=by kernel_rfl
theorem bBv (G:List Row→Option (List Row)):nB Go.Proofs.Tryz.prog (TW G) 21 aNQ=true:=by kernel_rfl
theorem bBl (G:List Row→Option (List Row)):nB Go.Proofs.Tryz.prog (TW G) 10 aMT=true:=by kernel_rfl
theorem bB2 (G:List Row→Option (List Row)):nB Go.Proofs.Tryz.prog (TW G) 57 aTe=true:=by kernel_rfl
theorem a8o (G:List Row→Option (List Row)):jN Go.Proofs.Tryz.prog (TW G) aCN=true:=by kernel_rfl
theorem bCo (G:List Row→Option (List Row)):nB Go.Proofs.Tryz.prog (TW G) 82 aQI=true:=by kernel_rfl
theorem a8q (G:List Row→Option (List Row)):jN Go.Proofs.Tryz.prog (TW G) aAw=true:=by kernel_rfl
theorem a8p (G:List Row→Option (List Row)):jN Go.Proofs.Tryz.prog (TW G) aBV=true:=by kernel_rfl
theorem a8n (G:List Row→Option (List Row)):jN Go.Proofs.Tryz.prog (TW G) aBW=true:=by kernel_rfl
theorem bBw (G:List Row→Option (List Row)):nB Go.Proofs.Tryz.prog (TW G) 22 aTf=true:=by kernel_rfl
theorem bBm (G:List Row→Option (List Row)):nB Go.Proofs.Tryz.prog (TW G) 11 aIM=true:=by kernel_rfl
theorem bBy (G:List Row→Option (List Row)):nB Go.Proofs.Tryz.prog (TW G) 24 aDB=true:=by kernel_rfl
theorem bBA (G:List Row→Option (List Row)):nB Go.Proofs.Tryz.prog (TW G) 26 jR=true:=by kernel_rfl
theorem bBB (G:List Row→Option (List Row)):nB Go.Proofs.Tryz.prog (TW G) 27 aMU=true:=by kernel_rfl
theorem bBC (G:List Row→Option (List Row)):nB Go.Proofs.Tryz.prog (TW G) 28 uV=true:=by kernel_rfl
end Go.Ev.jJ
namespace Go.Ev.jJ
theorem bBn (G:List Row→Option (List Row)):nB Go.Proofs.Tryz.prog (TW G) 12 aQJ=true:=by kernel_rfl
theorem bG9 (G:List Row→Option (List Row)):nB Go.Proofs.Tryz.prog (TW G) 4 mT=true:=by kernel_rfl
theorem bBI (G:List Row→Option (List Row)):nB Go.Proofs.Tryz.prog (TW G) 34 wY=true:=by kernel_rfl
theorem bBJ (G:List Row→Option (List Row)):nB Go.Proofs.Tryz.prog (TW G) 35 yV=true:=by kernel_rfl
theorem bBt (G:List Row→Option (List Row)):nB Go.Proofs.Tryz.prog (TW G) 19 aAS=true:=by kernel_rfl
theorem bCe (G:List Row→Option (List Row)):nB Go.Proofs.Tryz.prog (TW G) 71 aKz=true:=by kernel_rfl
theorem a7I (G:List Row→Option (List Row)):nB Go.Proofs.Tryz.prog (TW G) 105 fU=true:=by kernel_rfl
theorem bCv (G:List Row→Option (List Row)):nB Go.Proofs.Tryz.prog (TW G) 93 sX=true:=by kernel_rfl
theorem bCf (G:List Row→Option (List Row)):nB Go.Proofs.Tryz.prog (TW G) 72 aO4=true:=by kernel_rfl
theorem bBS (G:List Row→Option (List Row)):nB Go.Proofs.Tryz.prog (TW G) 46 aAT=true:=by kernel_rfl
theorem bBT (G:List Row→Option (List Row)):nB Go.Proofs.Tryz.prog (TW G) 47 aAU=true:=by kernel_rfl
theorem bBU (G:List Row→Option (List Row)):nB Go.Proofs.Tryz.prog (TW G) 48 aCR=true:=by kernel_rfl
theorem bBX (G:List Row→Option (List Row)):nB Go.Proofs.Tryz.prog (TW G) 51 aZ=true:=by kernel_rfl
theorem bCk (G:List Row→Option (List Row)):nB Go.Proofs.Tryz.prog (TW G) 77 dQ=true:=by kernel_rfl
theorem bCm (G:List Row→Option (List Row)):nB Go.Proofs.Tryz.prog (TW G) 79 bZ=true:=by kernel_rfl
end Go.Ev.jJ
namespace Go.Ev.jJ
theorem bBY (G:List Row→Option (List Row)):nB Go.Proofs.Tryz.prog (TW G) 52 cZ=true:=by kernel_rfl
theorem bBK (G:List Row→Option (List Row)):nB Go.Proofs.Tryz.prog (TW G) 36 aAV=true:=by kernel_rfl
theorem bBr (G:List Row→Option (List Row)):nB Go.Proofs.Tryz.prog (TW G) 17 iZ=true:=by kernel_rfl
theorem bBZ (G:List Row→Option (List Row)):nB Go.Proofs.Tryz.prog (TW G) 53 gW=true:=by kernel_rfl
theorem bBL (G:List Row→Option (List Row)):nB Go.Proofs.Tryz.prog (TW G) 37 jZ=true:=by kernel_rfl
theorem bBM (G:List Row→Option (List Row)):nB Go.Proofs.Tryz.prog (TW G) 38 aAX=true:=by kernel_rfl
theorem bB1 (G:List Row→Option (List Row)):nB Go.Proofs.Tryz.prog (TW G) 55 uG=true:=by kernel_rfl
theorem bCB (G:List Row→Option (List Row)):nB Go.Proofs.Tryz.prog (TW G) 99 nL=true:=by kernel_rfl
theorem a7G (G:List Row→Option (List Row)):nB Go.Proofs.Tryz.prog (TW G) 100 oL=true:=by kernel_rfl
end Go.Ev.jJ
namespace Go.Ev.jJ
theorem bCn (G:List Row→Option (List Row)):nB Go.Proofs.Tryz.prog (TW G) 80 gO=true:=by kernel_rfl
theorem bB0 (G:List Row→Option (List Row)):nB Go.Proofs.Tryz.prog (TW G) 54 aC6=true:=by kernel_rfl
theorem bBN (G:List Row→Option (List Row)):nB Go.Proofs.Tryz.prog (TW G) 39 oZ=true:=by kernel_rfl
theorem bBs (G:List Row→Option (List Row)):nB Go.Proofs.Tryz.prog (TW G) 18 aC8=true:=by kernel_rfl
theorem bHb (G:List Row→Option (List Row)):nB Go.Proofs.Tryz.prog (TW G) 6 aA8=true:=by kernel_rfl
end Go.Ev.jJ
namespace Go.Ev.jJ
theorem bHc (G:List Row→Option (List Row)):nB Go.Proofs.Tryz.prog (TW G) 7 tZ=true:=by kernel_rfl
theorem bHd (G:List Row→Option (List Row)):nB Go.Proofs.Tryz.prog (TW G) 8 jE=true:=by kernel_rfl
theorem bBu (G:List Row→Option (List Row)):nB Go.Proofs.Tryz.prog (TW G) 20 qT=true:=by kernel_rfl
theorem bHe (G:List Row→Option (List Row)):nB Go.Proofs.Tryz.prog (TW G) 9 kQ=true:=by kernel_rfl
theorem bG8 (G:List Row→Option (List Row)):nB Go.Proofs.Tryz.prog (TW G) 3 mP=true:=by kernel_rfl
theorem bBH (G:List Row→Option (List Row)):nB Go.Proofs.Tryz.prog (TW G) 33 aMt=true:=by kernel_rfl
end Go.Ev.jJ
