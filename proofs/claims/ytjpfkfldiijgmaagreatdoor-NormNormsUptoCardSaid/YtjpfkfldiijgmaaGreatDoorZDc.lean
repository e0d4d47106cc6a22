/-
  A part of the proof: what the functions of the program compute.
-/
import Derived.Test.YtjpfkfldiijgmaaGreatDoorZNum
import Derived.Test.YtjpfkfldiijgmaaGreatDoorEvZe
set_option linter.all false
set_option maxRecDepth 100000
namespace Go.Ev
def kO:List (kD):=[.c lI [.int 1],.c lI [.int 0],.c lI [.int 9223372036854775807],.c lI [.int (-1)],.c lB [.bool false],.c lI [.int 3],.c (.one (.fn 109)) [.fn kJ []],.c lU [.int 97],.c lU [.int 122],.c lU [.int 48],.c lU [.int 57],.c lB [.bool true],.c lU [.int 45],.c lS [.str []],.c lI [.int 16],.c lI [.int 5],.c lI [.int 11],.c lI [.int 4],.c lI [.int 2],.c lI [.int (-9007199254740992)],.c lI [.int 9007199254740992],.c lI [.int 4194304],.c lI [.int 15],.c lI [.int 8],.c lI [.int 4000],.c lI [.int 9],.c lI [.int 6],.c lI [.int 24],.c lI [.int 7],.c lI [.int 200],.c lI [.int 12],.c lI [.int 10],.c lI [.int 2000],.c lI [.int 40],.c lI [.int 17],.c lI [.int 13],.c lI [.int 14],.c lI [.int 18],.c lU [.int 0],.c lU [.int 93],.c lU [.int 94],.c lU [.int 92],.c lU [.int 64],.c lW [.int 1],.c lI [.int 64],.c lI [.int 255],.c lU [.int 40],.c lU [.int 41],.c lU [.int 46],.c lU [.int 91],.c lS [.str [124,42,43,63,40,41,91,93]],.c lU [.int 42],.c lU [.int 43],.c lU [.int 63],.c lU [.int 124],.c lI [.int 256],.c (.one (.ref 200)) [.aTu],.c lW [.int 0],.c lI [.int 400],.c (.one (.int .i16)) [.int 0],.c lI [.int 999999999],.c lI [.int 19],.c lI [.int 120],.c (.one (.sl 9)) [.bA],.c (.one (.sl 56)) [.bA],.c (.one (.sl 29)) [.bA],.c (.one (.sl 3)) [.bA],.c (.one (.sl 42)) [.bA],.c lS [.str [98]],.c lS [.str [115,97,109,101]],.c lS [.str [116,104,101,110]],.c lS [.str [97,116]],.c lS [.str [114,101,110,97,109,101]],.c lS [.str [100,114,111,112]],.c lS [.str [97,100,100]],.c lS [.str [110,101,115,116]],.c lS [.str [102,108,97,116]],.c lS [.str [109,111,118,101]],.c lS [.str [115,112,108,105,116]],.c lS [.str [103,108,117,101]],.c lS [.str [108,111,111,107]],.c lS [.str [110,117,109,98,101,114]],.c lS [.str [101,97,99,104]],.c lS [.str [99,97,115,101]],.c lS [.str [115,101,108,101,99,116]],.c lS [.str [116,97,103]],.c lS [.str [117,110,116,97,103]],.c lS [.str [102,105,108,108]],.c lU [.int 32],.c lU [.int 33],.c lU [.int 126],.c lU [.int 34],.c lW [.int 4],.c lS [.str [48,49,50,51,52,53,54,55,56,57,97,98,99,100,101,102]],.c lU [.int 15],.c lI [.int 60],.c lW [.int 15],.c lS [.str [117,110,105,116]],.c lS [.str [98,111,111,108]],.c lS [.str [105,110,116]],.c lS [.str [100,97,121]],.c lS [.str [109,97,114,107]],.c lS [.str [102,108,111,97,116]],.c lS [.str [116,101,120,116]],.c lS [.str [114,101,99,111,114,100]],.c lS [.str [99,104,111,105,99,101]],.c lS [.str [108,105,115,116]],.c lS [.str [109,97,112]],.c lS [.str [40]],.c lS [.str [41]],.c lS [.str [45]],.c lS [.str [100,114,111,112,32,98,32,105,110,116,32,55]],.c (.one (.fn 64)) [.fn aTV []],.c (.one (.fn 38)) [.fn aMo []],.c (.one (.ref 127)) [.dp wX],.c lU [.int 128],.c lS [.str [115,97,109,101,58,32,116,104,101,110,58,43,32,97,116,58,110,49,32,114,101,110,97,109,101,58,110,116,32,100,114,111,112,58,110,118,32,97,100,100,58,110,118,32,110,101,115,116,58,116,115,32,102,108,97,116,58,110,32,109,111,118,101,58,110,105,32,115,112,108,105,116,58,110,116,115,112,32,103,108,117,101,58,110,116,112,32,108,111,111,107,58,108,32,110,117,109,98,101,114,58,98,32,101,97,99,104,58,110,49,32,99,97,115,101,58,115,43,32,115,101,108,101,99,116,58,110,118,32,116,97,103,58,110,32,117,110,116,97,103,58,110,32,102,105,108,108,58,118]],.c lS [.str [58]],.c lS [.str [32]],.c lU [.int 110],.c lU [.int 116],.c lU [.int 115],.c lU [.int 105],.c lU [.int 98],.c lU [.int 112],.c lU [.int 118],.c lU [.int 108],.c lU [.int 49],.c (.one (.sl 40)) [.bA],.c (.one (.sl 43)) [.bA],.c (.one (.fn 44)) [.fn mF []]]
def kL:List (L):=[hM,lI,.one (.sl 29),lB,lS,lA1,lA2,.one (.sl 3),.one (.sl 77),.one (.fn 109),lU,.one (.fn 192),lA3,lW,uR,lA6,.one (.ref 158),lA4,.one (.sl 194),.one (.ref 194),.agg (List.replicate 1024 (.int .u64)),.one (.sl 158),.one (.int .i16),lA7,.agg (List.replicate 256 (.int .i16)),.one (.ref 162),.one (.ref 200),.one (.sl 9),lA8,.one (.sl 56),lA9,.agg [.str,.str,.str,.str,.str,.str,.str,.str,.str,.str,.str,.str,.str,.str,.str,.str,.str,.str,.str],.agg [.str,.str,.str,.str,.str,.str,.str,.str,.str,.str,.str,.str],.agg [.str,.str,.str,.str,.str,.str,.str,.str,.str,.str],.one (.fn 64),.one (.fn 38),.one (.sl 42),bJR,.one (.sl 40),bJS,.one (.sl 43),.one (.fn 44)]
def kR:List (Row):=[[.int 0,.str [],.str [],.bA,.int 0,.int 0,.int 0,.int 0,.int 0,.int 0,.str [],.bA,.bA,.bA],[.str [],.int 0,.int 0,.str [],.bA],[.int 0],[.bool false,.bool false,.bool false,.bool false,.bool false,.bool false,.bool false,.bool false,.int 0],[.int 0,.int 0,.int 0,.int 0],[.bool false,.int 0,.int 0,.int 0,.int 0,.int 0,.int 0,.int 0,.int 0],[.bA,.bA,.bool false,.int 0,.int 0,.int 0,.int 0,.int 0,.int 0,.int 0,.int 0],List.replicate 1024 (C.int 0),[.bA,.bA],List.replicate 256 (C.int 0),[.bool false],[.int 0,.int 0,.str [],.bA,.int 0,.int 0,.str [],.bA],[.int 0,.int 0,.str [],.bA],[.bA,.int 0,.int 0],[.str [],.str [],.str [],.str [],.str [],.str [],.str [],.str [],.str [],.str [],.str [],.str [],.str [],.str [],.str [],.str [],.str [],.str [],.str []],[.str []],[.str [],.str [],.str [],.str [],.str [],.str [],.str [],.str [],.str [],.str [],.str [],.str []],[.str [],.str [],.str [],.str [],.str [],.str [],.str [],.str [],.str [],.str []],[.int 0,.bool false],[.bA],[.int 0,.int 0]]
def kB:List (BinOp):=[.lss,.add,.and,.sub,.neq,.gtr,.geq,.eql,.leq,.quo,.rem,.shl,.or,.shr,.mul]
def kI:List (IntKind):=[.i64,.u8,.i16,.u64]
def kS:List (Shape):=[aLF,aLI,aI5,jI,aI8,aJb,aJe,cK,aHz,aJi,aJl,qP,aAs,aAt,j0,j3,j4,j5,oV,pV,mN,qN,aAq,aAr,aCz,aCA,aCB,aCC,lO,mO,bX,cX,sQ,tQ,vQ,aBH,aBI,uN,u5,j6,eX,fX,zQ,cR,s6,u6,aBJ,aBK,aBL,aBM,iK,vR,wR,wG,aCE,aCF,aBj,aBm,fR,aBN,aBO,zS,lX,aDN,aDQ,aDz,aDA,aDT,eT,aJu,aJx,aJA,aJD,aFK,aL0,xR,yR,aJG,aL3,aL6,aL9,dU,eU,aBR,aBS,aMe,aMh,aJK,aMk,aKB,aWY,aBT,aBU,j7,n7,aIh,aIi,aAz,aAA,aJW,aJX,aJY,aAx,aAy,aMu,aDt,aF7,aCP,aBr,aDZ,aQ4,aQ5,aQ6,aQ7,uX,aCU,aCX,aD3,aC0,aC3,aD6,aFU,aFX,aF0,aF4,aD9,aDa,aDd,aDg,aH,aAd]
def kU:List (List (eB×Shape)):=[aLG,aLJ,aI6,mI,[(.normal,{slots:=[(2,.d (.one (.ref 25))),(3,.d (.one (.ref 25))),(5,.d lI),(6,.d lI)],objs:=[]})],[(.normal,{slots:=[(23,.d (.one (.sl 5))),(24,.d lI),(25,.d lI)],objs:=[]}),(.ret,{slots:=[(2,.d lB)],objs:=[]})],[(.normal,{slots:=[(0,.d lS),(21,.d lB)],objs:=[]})],aI9,aJc,aJf,[(.normal,{slots:=[(1,.d (.one (.ref 25))),(3,.d lB)],objs:=[]})],dK,aHA,[(.normal,{slots:=[(1,.d (.one (.ref 25))),(6,.d (.one (.sl 77))),(7,.d lI),(8,.d lI)],objs:=[]}),(.ret,{slots:=[(2,.d lI)],objs:=[]})],[(.normal,{slots:=[(1,.d (.one (.ref 25))),(3,.d lI),(4,.ptr 0 0),(6,.d (.one (.sl 77))),(7,.d lI),(8,.d lI),(13,.d lB)],objs:=[.var lA1]})],aJj,[(.normal,{slots:=[(2,.d (.one (.ref 25)))],objs:=[]}),(.ret,{slots:=[(4,.d lI)],objs:=[]})],[(.normal,{slots:=[(2,.d (.one (.ref 25))),(9,.d lB)],objs:=[]})],aJm,[(.normal,{slots:=[(2,.ptr 0 0)],objs:=[.var lA3]}),(.ret,{slots:=[(2,.ptr 0 0)],objs:=[.var lA3]})],[(.normal,{slots:=[(2,.ptr 0 0),(3,.d lI),(13,.d lB)],objs:=[.var lA3]})],[(.normal,{slots:=[(2,.ptr 0 0),(3,.d lI),(21,.d lB)],objs:=[.var lA3]})],rP,[(.normal,{slots:=[(0,.ptr 0 0),(3,.d lU),(42,.d lB)],objs:=bS3,m:=3})],[(.normal,{slots:=[(0,.ptr 0 0),(3,.d lU)],objs:=bS3,m:=3})],[(.normal,{slots:=[(0,.ptr 0 0),(2,.ptr 3 0),(3,.ptr 4 0),(4,.d lB),(37,.d lB)],objs:=bS4,m:=3})],[(.normal,{slots:=[(0,.ptr 0 0),(2,.ptr 3 0),(3,.ptr 4 0),(4,.d lB),(5,.d lU),(6,.d lU),(47,.d lB)],objs:=bS4,m:=3})],[(.normal,{slots:=[(0,.ptr 0 0),(2,.ptr 3 0),(3,.ptr 4 0),(4,.d lB),(5,.d lU),(6,.d lU)],objs:=bS4,m:=3})],nN,[(.normal,{slots:=[(0,.ptr 0 0),(2,.ptr 3 0),(3,.ptr 4 0),(4,.d lB)],objs:=bS4,m:=3})],rN,[(.normal,{slots:=[(0,.ptr 0 0),(2,.ptr 3 0),(4,.ptr 4 0)],objs:=[oS4,.zA 194 uR,.arr uR,.var lA6,.var uR],m:=3}),(.ret,{slots:=[(2,.ptr 3 0)],objs:=[oS4,.zA 194 uR,.arr uR,.var lA6],m:=3})],[(.normal,{slots:=[(0,.ptr 0 0),(2,.ptr 3 0),(5,.ptr 4 0)],objs:=bS5,m:=3})],wQ,vN,[(.normal,{slots:=[(0,.ptr 0 0),(2,.ptr 3 0),(3,.ptr 4 0),(4,.d lU),(22,.d lB)],objs:=bS5,m:=3})],aR,dR,[(.normal,{slots:=[(0,.ptr 0 0),(2,.ptr 3 0),(3,.ptr 4 0),(17,.d lB)],objs:=bS5,m:=3})],[(.normal,{slots:=[(0,.ptr 0 0),(2,.ptr 3 0),(3,.ptr 4 0),(4,.ptr 5 0)],objs:=bS7,m:=3})],jK,[(.normal,{slots:=[(0,.ptr 0 0),(2,.ptr 3 0),(3,.ptr 4 0),(13,.d lB)],objs:=bS5,m:=3})],xG,[(.normal,{slots:=[(2,.ptr 0 0),(4,.ptr 1 0),(5,.ptr 2 0),(32,.d lB)],objs:=[.var lA4,.cells false [.d lS,.d lI,.sw 3,.whole 4,.d lB,.d lW,.d lW,.d lW,.d lW,.d lW,.d lW,.d lW,.d lW,.d lB],.var lA6,.zA 194 uR,.arr uR]})],aBk,aBn,iR,aT,[(.normal,{slots:=[(0,.d (.one (.ref 162))),(3,.d (.one (.ref 158))),(13,.d lB)],objs:=[]})],mX,aDO,aDR,aDU,fT,aJv,[(.normal,{slots:=[(0,.d (.one (.sl 56))),(3,.d lI),(4,.d (.one (.ref 56))),(5,.d lI),(15,.d (.one (.sl 56))),(16,.d lI),(17,.d lI),(22,.d lI),(50,.d lB)],objs:=[]})],aJy,aJB,aJE,aFL,[(.normal,{slots:=[(1,.d (.one (.ref 29))),(12,.d lB)],objs:=[]})],[(.normal,{slots:=[(1,.d (.one (.ref 29))),(3,.ptr 0 0),(102,.d lB)],objs:=[.var lA3]})],[(.normal,{slots:=[(1,.d (.one (.ref 29))),(3,.ptr 0 0),(124,.d lB)],objs:=[.var lA3]})],[(.normal,{slots:=[(1,.d (.one (.ref 29))),(3,.ptr 0 0),(153,.d lB)],objs:=[.var lA3]})],aL1,aJH,aL4,aL7,[(.normal,{slots:=[(2,.d (.one (.ref 29))),(4,.ptr 0 0),(30,.d lB)],objs:=[.var hM]})],aMa,[(.normal,{slots:=[(2,.d (.one (.ref 29))),(3,.d (.one (.ref 29))),(5,.d lB)],objs:=[]})],[(.normal,{slots:=[(2,.d (.one (.ref 29))),(3,.d (.one (.ref 29))),(33,.d lB)],objs:=[]})],[(.normal,{slots:=[(2,.d (.one (.ref 29))),(3,.d (.one (.ref 29))),(47,.d lB)],objs:=[]})],[(.normal,{slots:=[(3,.d (.one (.ref 29))),(4,.d (.one (.ref 29))),(25,.d lB)],objs:=[]})],[(.normal,{slots:=[(3,.d (.one (.ref 29))),(4,.d (.one (.ref 29))),(53,.d lB)],objs:=[]})],[(.normal,{slots:=[(3,.d (.one (.ref 29))),(4,.d (.one (.ref 29))),(107,.d lB)],objs:=[]})],[(.normal,{slots:=[(1,.d lI),(2,.d lI),(3,.d (.one (.ref 29))),(6,.ptr 0 0),(31,.d lB)],objs:=[.var hM]})],aMf,aMi,aJL,[(.normal,{slots:=[(1,.ptr 0 0),(2,.ptr 1 0),(6,.sw 2),(7,.ptr 3 0),(8,.d lB),(29,.d lB)],objs:=[.var hM,.var hM,.zA 42 lA9,.var lA9]})],aMl,[(.normal,{slots:=[(0,.ptr 0 0),(5,.d lS),(6,.d (.one (.sl 9))),(7,.d lI),(8,.d lI)],objs:=[.cells false [.sw 1],.zA 5 lU],m:=2})],aKC,[(.normal,{slots:=[(0,.d lS),(3,.sw 0),(8,.d lI),(9,.d lI)],objs:=[.zA 5 lU]})],[(.normal,{slots:=[(0,.d lS),(3,.sw 0),(5,.d lU),(8,.d lI),(9,.d lI),(28,.d lB)],objs:=[.zA 5 lU]})],aWZ,[(.normal,{slots:=[(0,.ptr 0 0),(3,.d (.one (.ref 25))),(18,.d (.one (.sl 77))),(19,.d lI),(20,.d lI)],objs:=[.cells false [.sw 1],.zA 5 lU],m:=2})],[(.normal,{slots:=[(0,.ptr 0 0),(3,.d (.one (.ref 25))),(7,.ptr 2 0),(18,.d (.one (.sl 77))),(19,.d lI),(20,.d lI)],objs:=[.cells false [.sw 1],.zA 5 lU,.var lA1],m:=2})],[(.normal,{slots:=[(0,.ptr 0 0),(3,.d (.one (.ref 25))),(7,.ptr 2 0),(18,.d (.one (.sl 77))),(19,.d lI),(20,.d lI),(25,.d lI),(26,.d lB)],objs:=[.cells false [.sw 1],.zA 5 lU,.var lA1],m:=2})],[(.normal,{slots:=[(0,.ptr 0 0),(3,.d (.one (.ref 25))),(9,.d lI),(55,.d lB)],objs:=[.cells false [.sw 1],.zA 5 lU],m:=2})],aIj,aIk,[(.normal,{slots:=[(0,.ptr 0 0),(4,.d (.one (.ref 29))),(5,.d (.one (.ref 101)))],objs:=[.cells false [.sw 1],.zA 5 lU],m:=2})],aJZ,aJ0,aJ1,[(.normal,{slots:=[(0,.ptr 0 0),(3,.d (.one (.ref 29))),(4,.ptr 2 0)],objs:=[.cells false [.sw 1],.zA 5 lU,.var lA3],m:=2})],aMv,aDu,aF8,[(.normal,{slots:=[(2,.d (.one (.ref 29))),(3,.d (.one (.ref 29))),(51,.d lB)],objs:=[]})],[(.normal,{slots:=[(2,.d (.one (.ref 29))),(3,.d (.one (.ref 29))),(73,.d lB)],objs:=[]})],aCQ,aBs,[(.normal,{slots:=[(2,.d (.one (.ref 25))),(3,.d (.one (.ref 25))),(34,.d lB)],objs:=[]})],aD0,aQ8,aQ9,aRa,aRb,[(.ret,{slots:=[(4,.d lI)],objs:=[]})],[(.normal,{slots:=[(0,.d lS),(1,.d lS),(5,.d lI),(16,.d lB)],objs:=[]})],vX,[(.normal,{slots:=[(0,.d (.one (.sl 56))),(3,.ptr 0 0),(6,.d lI),(7,.ptr 1 0),(19,.d (.one (.sl 56))),(20,.d lI),(21,.d lI),(25,.d lA8),(26,.d lI),(49,.d lB)],objs:=[.cells false [.map 2,.map 3],.var lA2,.map lS lB,.map lS lB]})],aCV,aCY,[(.normal,{slots:=[(1,.d (.one (.ref 29))),(17,.d lB)],objs:=[]})],[(.normal,{slots:=[(1,.d (.one (.ref 29))),(4,.d lS),(65,.d (.one (.sl 88))),(66,.d lI),(67,.d lI)],objs:=[]})],aD4,[(.normal,{slots:=[(1,.d (.one (.ref 29))),(4,.d lS)],objs:=[]}),(.ret,{slots:=[(2,.d lI)],objs:=[]})],[(.normal,{slots:=[(1,.d (.one (.ref 29))),(4,.d lS),(7,.d lI),(84,.d lB)],objs:=[]})],[(.normal,{slots:=[(1,.d (.one (.ref 29))),(4,.d lS),(126,.d lB)],objs:=[]})],[(.normal,{slots:=[(1,.d (.one (.ref 29))),(4,.d lS),(134,.d lB)],objs:=[]})],[(.normal,{slots:=[(1,.d (.one (.ref 29)))],objs:=[]}),(.ret,{slots:=[(2,.d lI)],objs:=[]})],[(.normal,{slots:=[(3,.d (.one (.sl 29))),(16,.d lB)],objs:=[]})],aC1,aC4,aD7,[(.normal,{slots:=[],objs:=[]}),(.ret,{slots:=[(6,.d (.one (.sl 29))),(7,.d lB)],objs:=[]})],[(.normal,{slots:=[(3,.d (.one (.ref 29))),(4,.d (.one (.ref 29))),(24,.d lB)],objs:=[]})],[(.normal,{slots:=[(3,.d (.one (.ref 29))),(6,.ptr 0 0),(8,.d lB)],objs:=[.var hM]})],aFV,[(.normal,{slots:=[(1,.d lI),(2,.d lI),(3,.d (.one (.ref 29))),(6,.ptr 0 0),(69,.d lB)],objs:=[.var hM]})],[(.normal,{slots:=[(2,.d lI),(3,.d (.one (.ref 29))),(6,.ptr 0 0),(12,.d lI),(13,.d (.one (.sl 29))),(14,.d lB)],objs:=[.var hM]})],[(.normal,{slots:=[(1,.d (.one (.sl 3))),(2,.d lI),(3,.d lI),(4,.ptr 0 0),(8,.ptr 1 0),(33,.d lB)],objs:=[.var hM,.var hM]})],aFY,aF1,aF5,aEa,[(.normal,{slots:=[(2,.d (.one (.ref 29))),(3,.d (.one (.ref 29))),(62,.d lB)],objs:=[]})],[(.normal,{slots:=[(2,.d (.one (.ref 29))),(3,.d (.one (.ref 29))),(87,.d lB)],objs:=[]})],aDb,aDe,aDh,bH,aAe,[(.normal,{slots:=[(2,.d (.one (.sl 3))),(3,.ptr 0 0),(4,.d (.one (.ref 42))),(6,.ptr 1 0),(10,.d lI),(40,.d lB)],objs:=[oS1,.var hM]})]]
def kF:List (List (Nat×TypeId×Option L)):=[[],[(4,77,some lA1)],[(3,200,some (.agg (List.replicate 1024 (.int .u64))))],[(4,162,some lA4)],[(8,56,some lA8)],[(4,56,some lA8)]]
def kG:List (aSJ):=[.frz 4 3 158 uR,.lft 9 (some 1) 4 lB,.lft 9 (some 0) 170 (.agg (List.replicate 256 (.int .i16))),.frz 1 3 77 lA1,.lft 17 (some 1) 29 hM,.lft 17 (some 0) 56 lA8,.lft 5 (some 0) 5 lU]
def kK:List (List K):=[[.ref 77],[.ref 29,.ref 29]]
def kZ:List (List (Option (K×C))):=[[some (.sl 194,.bA),some (.sl 158,.bA),some (.bool,.bool false),some (.int .u64,.int 0),some (.int .u64,.int 0),some (.int .u64,.int 0),some (.int .u64,.int 0),some (.int .u64,.int 0),some (.int .u64,.int 0),some (.int .u64,.int 0),some (.int .u64,.int 0)],[some (.str,.str []),some (.int .i64,.int 0),some (.sl 194,.bA),some (.sl 158,.bA),some (.bool,.bool false),some (.int .u64,.int 0),some (.int .u64,.int 0),some (.int .u64,.int 0),some (.int .u64,.int 0),some (.int .u64,.int 0),some (.int .u64,.int 0),some (.int .u64,.int 0),some (.int .u64,.int 0),some (.bool,.bool false)],[some (.sl 170,.bA),some (.sl 4,.bA)],[some (.int .i64,.int 0),some (.str,.str []),some (.str,.str []),some (.sl 9,.bA),some (.int .i64,.int 0),some (.int .i64,.int 0),some (.int .i64,.int 0),some (.int .u8,.int 0),some (.int .i64,.int 0),some (.int .i64,.int 0),some (.str,.str []),some (.sl 77,.bA),some (.sl 56,.bA),some (.sl 29,.bA)],[some (.sl 5,.bA)],[none,none]]
def pO:P kD:=fun l=>match pN l with |(n,l)=>(match n % 2 with |0=> .t (n/2)|_=>kO.getD (n/2) (.t 0),l)
def pL:P L:=pt kL
def pR:P Row:=pt kR
def pB:P BinOp:=pt kB
def pI:P IntKind:=pt kI
def pS:P Shape:=pt kS
def pU:P (List (eB×Shape)):=pt kU
def pK:P (List K):=pt kK
def pZ:P (List (Option (K×C))):=pt kZ
def opP:List (P oP):=[pa (pa (pa (pr oP.a6p) pB) pO) pO,
 pa (pa (pa (pa (pr oP.iad) pN) pL) pO) pO,
 pa (pa (pa (pr oP.ld) pL) pN) pO,
 pa (pa (pa (pr oP.aRy) pN) pL) pR,
 pa (pa (pa (pr oP.st) pL) pO) pO,
 pa (pr oP.mov) pO,
 pa (pa (pa (pa (pr oP.call) pN) (pl pL)) (pl pL)) (pl pO),
 pa (pa (pa (pr oP.a6o) pB) pO) pO,
 pa (pa (pa (pr oP.a6t) pL) pN) pO,
 pa (pa (pa (pa (pa (pr oP.fad) pN) pN) pN) pN) pO,
 pa (pr oP.a2j) pO,
 pa (pa (pr oP.imin) pb) (pl pO),
 pa (pa (pa (pr oP.a44) pN) pO) pO,
 pa (pa (pa (pa (pa (pr oP.callv) pN) (pl pL)) (pl pL)) pO) (pl pO),
 pa (pa (pa (pa (pa (pr oP.bsl) pN) pL) pN) pR) (pl (pp pN pO)),
 pa (pa (pa (pr oP.pick) pO) pO) pO,
 pa (pr oP.not) pO,
 pa (pa (pa (pr oP.a6r) pB) pO) pO,
 pa (pr oP.a6u) pO,
 pa (pa (pr oP.a41) pO) pO,
 pa (pa (pr oP.s2b) pN) pO,
 pa (pa (pa (pa (pa (pr oP.slc) pN) pL) pO) (pq pO)) (pq pO),
 pa (pa (pa (pa (pr oP.mkf) pN) pN) pK) (pl pO),
 pa (pa (pa (pr oP.bld) pL) pR) (pl (pp pN (pp pN pO))),
 pa (pr oP.a2f) pO,
 pa (pr oP.ldC) pO,
 pa (pa (pa (pr oP.a43) pN) pO) pO,
 pa (pa (pa (pa (pa (pa (pr oP.a2i) pN) pN) pN) pL) pO) pO,
 pa (pr oP.a6s) pO,
 pa (pa (pr oP.stC) pO) pO,
 pa (pa (pa (pr oP.idiv) pB) pO) pO,
 pa (pa (pa (pr oP.shf) pB) pO) pO,
 pa (pa (pr oP.i2i) pI) pO,
 pa (pa (pa (pa (pa (pa (pa (pa (pr oP.aCd) pN) pN) pS) pS) (pl pN)) pN) (pq pO)) (pl pO),
 pa (pa (pa (pa (pr oP.aeq) pb) pL) pO) pO,
 pa (pa (pa (pa (pa (pa (pr oP.aUC) pN) pN) pL) pN) pO) pO,
 pa (pa (pa (pa (pa (pa (pr oP.app) pN) pN) pL) pN) pO) pO,
 pa (pa (pa (pa (pa (pa (pr oP.bslS) pN) pN) pL) pN) pR) (pl (pp pN pO)),
 pa (pa (pa (pa (pa (pa (pr oP.bslO) pN) pN) pL) pN) pR) (pl (pp pN pO)),
 pa (pa (pr oP.bldA) pZ) (pl (pp pN (pp pN pO))),
 pa (pa (pr oP.a2k) pN) pO,
 pa (pa (pa (pr oP.stA) pN) pO) pO,
 pa (pa (pr oP.ldA) pN) pO,
 pa (pa (pa (pa (pa (pa (pr oP.lk) pL) pL) pR) pO) pO) pb,
 pa (pa (pr oP.ext) pN) pO,
 pa (pa (pa (pa (pr oP.mup) pL) pO) pO) pO,
 pa (pa (pa (pr oP.mkm) pN) pL) pL,
 pa (pa (pr oP.aPd) pN) pZ,
 pa (pa (pr oP.a2g) pN) pL,
 pa (pa (pr oP.aUB) pb) pO,
 pa (pa (pa (pr oP.a2h) pN) pN) pL,
 pa (pa (pa (pr oP.a4Z) pN) pL) pO,
 pa (pa (pa (pa (pr oP.a42) pN) pL) pO) pO,
 pa (pa (pa (pa (pr oP.aUD) pN) pN) pO) pO,
 pa (pa (pr oP.b2s) pN) pO,
 pa (pa (pa (pa (pa (pa (pa (pr oP.mk) pN) pN) pL) pR) pN) pO) pO,
 pa (pa (pa (pr oP.slcS) pO) (pq pO)) (pq pO),
 pr oP.bad,
 pa (pa (pr oP.a6q) pO) pO,
 pa (pa (pa (pa (pr oP.a2l) pN) pN) pO) pO]
def dC (cs:List rB) (n:Nat):rB:=(pC pO (pU) pS (pt kF) (pt kG) opP cs 4000 (by4 100000 n)).1
end Go.Ev
