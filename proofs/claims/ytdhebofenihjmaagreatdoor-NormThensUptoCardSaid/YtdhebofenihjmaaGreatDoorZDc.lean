/-
  A part of the proof: what the functions of the program compute.
-/
import Derived.Test.YtdhebofenihjmaaGreatDoorZNum
import Derived.Test.YtdhebofenihjmaaGreatDoorEvZe
set_option linter.all false
set_option maxRecDepth 100000
namespace Go.Ev
def kO:List (rD):=[.c lI [.int 1],.c lI [.int 0],.c lI [.int 9223372036854775807],.c lI [.int (-1)],.c lB [.bool false],.c lI [.int 3],.c (.one (.fn 116)) [.fn fJ []],.c lU [.int 97],.c lU [.int 122],.c lU [.int 48],.c lU [.int 57],.c lB [.bool true],.c lU [.int 45],.c lS [.str []],.c lI [.int 16],.c lI [.int 5],.c lI [.int 11],.c lI [.int 4],.c lI [.int 2],.c lI [.int (-9007199254740992)],.c lI [.int 9007199254740992],.c lI [.int 4194304],.c lI [.int 15],.c lI [.int 8],.c lI [.int 4000],.c lI [.int 9],.c lI [.int 6],.c lI [.int 24],.c lI [.int 7],.c lI [.int 200],.c lI [.int 12],.c lI [.int 10],.c lI [.int 2000],.c lI [.int 40],.c lI [.int 17],.c lI [.int 13],.c lI [.int 14],.c lI [.int 18],.c lU [.int 0],.c lU [.int 93],.c lU [.int 94],.c lU [.int 92],.c lU [.int 64],.c lW [.int 1],.c lI [.int 64],.c lI [.int 255],.c lU [.int 40],.c lU [.int 41],.c lU [.int 46],.c lU [.int 91],.c lS [.str [124,42,43,63,40,41,91,93]],.c lU [.int 42],.c lU [.int 43],.c lU [.int 63],.c lU [.int 124],.c lI [.int 256],.c (.one (.ref 192)) [.aTm],.c lW [.int 0],.c lI [.int 400],.c (.one (.int .i16)) [.int 0],.c lI [.int 999999999],.c lI [.int 19],.c lI [.int 120],.c (.one (.sl 9)) [.bA],.c (.one (.sl 49)) [.bA],.c (.one (.sl 29)) [.bA],.c (.one (.sl 3)) [.bA],.c (.one (.sl 45)) [.bA],.c lS [.str [98]],.c lS [.str [115,97,109,101]],.c lS [.str [116,104,101,110]],.c lS [.str [97,116]],.c lS [.str [114,101,110,97,109,101]],.c lS [.str [100,114,111,112]],.c lS [.str [97,100,100]],.c lS [.str [110,101,115,116]],.c lS [.str [102,108,97,116]],.c lS [.str [109,111,118,101]],.c lS [.str [115,112,108,105,116]],.c lS [.str [103,108,117,101]],.c lS [.str [108,111,111,107]],.c lS [.str [110,117,109,98,101,114]],.c lS [.str [101,97,99,104]],.c lS [.str [99,97,115,101]],.c lS [.str [115,101,108,101,99,116]],.c lS [.str [116,97,103]],.c lS [.str [117,110,116,97,103]],.c lS [.str [102,105,108,108]],.c lU [.int 32],.c lU [.int 33],.c lU [.int 126],.c lU [.int 34],.c lW [.int 4],.c lS [.str [48,49,50,51,52,53,54,55,56,57,97,98,99,100,101,102]],.c lU [.int 15],.c lI [.int 60],.c lW [.int 15],.c lS [.str [117,110,105,116]],.c lS [.str [98,111,111,108]],.c lS [.str [105,110,116]],.c lS [.str [100,97,121]],.c lS [.str [109,97,114,107]],.c lS [.str [102,108,111,97,116]],.c lS [.str [116,101,120,116]],.c lS [.str [114,101,99,111,114,100]],.c lS [.str [99,104,111,105,99,101]],.c lS [.str [108,105,115,116]],.c lS [.str [109,97,112]],.c lS [.str [40]],.c lS [.str [41]],.c lS [.str [45]],.c lS [.str [100,114,111,112,32,98,32,105,110,116,32,55]],.c (.one (.fn 63)) [.fn aTN []],.c (.one (.fn 35)) [.fn aMd []],.c (.one (.ref 117)) [.dp mX],.c lU [.int 128],.c lS [.str [115,97,109,101,58,32,116,104,101,110,58,43,32,97,116,58,110,49,32,114,101,110,97,109,101,58,110,116,32,100,114,111,112,58,110,118,32,97,100,100,58,110,118,32,110,101,115,116,58,116,115,32,102,108,97,116,58,110,32,109,111,118,101,58,110,105,32,115,112,108,105,116,58,110,116,115,112,32,103,108,117,101,58,110,116,112,32,108,111,111,107,58,108,32,110,117,109,98,101,114,58,98,32,101,97,99,104,58,110,49,32,99,97,115,101,58,115,43,32,115,101,108,101,99,116,58,110,118,32,116,97,103,58,110,32,117,110,116,97,103,58,110,32,102,105,108,108,58,118]],.c lS [.str [58]],.c lS [.str [32]],.c lU [.int 110],.c lU [.int 116],.c lU [.int 115],.c lU [.int 105],.c lU [.int 98],.c lU [.int 112],.c lU [.int 118],.c lU [.int 108],.c lU [.int 49],.c (.one (.sl 43)) [.bA],.c (.one (.sl 50)) [.bA]]
def kL:List (L):=[eJ,lI,.one (.sl 29),lB,lS,lA1,lA2,.one (.sl 3),.one (.sl 75),.one (.fn 116),lU,.one (.fn 184),lA3,lW,jR,lA6,.one (.ref 148),lA4,.one (.sl 186),.one (.ref 186),.agg (List.replicate 1024 (.int .u64)),.one (.sl 148),.one (.int .i16),lA7,.agg (List.replicate 256 (.int .i16)),.one (.ref 152),.one (.ref 192),.one (.sl 9),lA8,.one (.sl 49),lA9,.agg [.str,.str,.str,.str,.str,.str,.str,.str,.str,.str,.str,.str,.str,.str,.str,.str,.str,.str,.str],.agg [.str,.str,.str,.str,.str,.str,.str,.str,.str,.str,.str,.str],.agg [.str,.str,.str,.str,.str,.str,.str,.str,.str,.str],.one (.fn 63),.one (.fn 35),.one (.sl 45),bJI,.one (.sl 43),bJJ,.one (.sl 50)]
def kR:List (Row):=[[.int 0,.str [],.str [],.bA,.int 0,.int 0,.int 0,.int 0,.int 0,.int 0,.str [],.bA,.bA,.bA],[.str [],.int 0,.int 0,.str [],.bA],[.int 0],[.bool false,.bool false,.bool false,.bool false,.bool false,.bool false,.bool false,.bool false,.int 0],[.int 0,.int 0,.int 0,.int 0],[.bool false,.int 0,.int 0,.int 0,.int 0,.int 0,.int 0,.int 0,.int 0],[.bA,.bA,.bool false,.int 0,.int 0,.int 0,.int 0,.int 0,.int 0,.int 0,.int 0],List.replicate 1024 (C.int 0),[.bA,.bA],List.replicate 256 (C.int 0),[.bool false],[.int 0,.int 0,.str [],.bA,.int 0,.int 0,.str [],.bA],[.int 0,.int 0,.str [],.bA],[.bA,.int 0,.int 0],[.str [],.str [],.str [],.str [],.str [],.str [],.str [],.str [],.str [],.str [],.str [],.str [],.str [],.str [],.str [],.str [],.str [],.str [],.str []],[.str []],[.str [],.str [],.str [],.str [],.str [],.str [],.str [],.str [],.str [],.str [],.str [],.str []],[.str [],.str [],.str [],.str [],.str [],.str [],.str [],.str [],.str [],.str []],[.int 0,.bool false],[.bA],[.int 0,.int 0]]
def kB:List (BinOp):=[.lss,.add,.and,.sub,.neq,.gtr,.geq,.eql,.leq,.quo,.rem,.shl,.or,.shr,.mul]
def kI:List (IntKind):=[.i64,.u8,.i16,.u64]
def kS:List (Shape):=[aLu,aLx,aIT,dI,aIW,aIZ,aI2,xJ,aHl,aI6,aI9,lP,aAg,aAh,sZ,tZ,uZ,vZ,eV,fV,dN,gN,aAe,aAf,aCl,aCm,aCn,aCo,dO,eO,sW,tW,jQ,kQ,mQ,aBv,aBw,lN,wZ,xZ,vW,wW,qQ,tQ,yZ,zZ,aBx,aBy,aBz,aBA,cK,lR,mR,wG,aCq,aCr,aA7,aBa,wQ,aBB,aBC,oS,bX,aDy,aDB,aDk,aDl,aDE,uS,aJi,aJl,aJo,aJr,aFv,aLP,nR,oR,aJu,aLS,aLV,aLY,qT,rT,aBF,aBG,aL3,aL6,aJy,aL9,aKs,aWR,aBH,aBI,j0,j3,aH4,aH5,aAn,aAo,aJK,aJL,aJM,aAl,aAm,aMm,aDe,aFS,aMf,aCC,aBf,aDK,aQY,aQZ,aQ0,aQ1,kX,aCH,aCK,aDO,aCN,aCQ,aCT,aCW,aCZ,aDR,aFF,aFI,aFL,aFP,aDU,oU]
def kU:List (List (eB×Shape)):=[aLv,aLy,aIU,eI,[(.normal,{slots:=[(2,.d (.one (.ref 25))),(3,.d (.one (.ref 25))),(5,.d lI),(6,.d lI)],objs:=[]})],[(.normal,{slots:=[(23,.d (.one (.sl 5))),(24,.d lI),(25,.d lI)],objs:=[]}),(.ret,{slots:=[(2,.d lB)],objs:=[]})],[(.normal,{slots:=[(0,.d lS),(21,.d lB)],objs:=[]})],aIX,aI0,aI3,[(.normal,{slots:=[(1,.d (.one (.ref 25))),(3,.d lB)],objs:=[]})],yJ,aHm,[(.normal,{slots:=[(1,.d (.one (.ref 25))),(6,.d (.one (.sl 75))),(7,.d lI),(8,.d lI)],objs:=[]}),(.ret,{slots:=[(2,.d lI)],objs:=[]})],[(.normal,{slots:=[(1,.d (.one (.ref 25))),(3,.d lI),(4,.ptr 0 0),(6,.d (.one (.sl 75))),(7,.d lI),(8,.d lI),(13,.d lB)],objs:=[.var lA1]})],aI7,[(.normal,{slots:=[(2,.d (.one (.ref 25)))],objs:=[]}),(.ret,{slots:=[(4,.d lI)],objs:=[]})],[(.normal,{slots:=[(2,.d (.one (.ref 25))),(9,.d lB)],objs:=[]})],aJa,[(.normal,{slots:=[(2,.ptr 0 0)],objs:=[.var lA3]}),(.ret,{slots:=[(2,.ptr 0 0)],objs:=[.var lA3]})],[(.normal,{slots:=[(2,.ptr 0 0),(3,.d lI),(13,.d lB)],objs:=[.var lA3]})],[(.normal,{slots:=[(2,.ptr 0 0),(3,.d lI),(21,.d lB)],objs:=[.var lA3]})],mP,[(.normal,{slots:=[(0,.ptr 0 0),(3,.d lU),(42,.d lB)],objs:=bS3,m:=3})],[(.normal,{slots:=[(0,.ptr 0 0),(3,.d lU)],objs:=bS3,m:=3})],[(.normal,{slots:=[(0,.ptr 0 0),(2,.ptr 3 0),(3,.ptr 4 0),(4,.d lB),(37,.d lB)],objs:=bS4,m:=3})],[(.normal,{slots:=[(0,.ptr 0 0),(2,.ptr 3 0),(3,.ptr 4 0),(4,.d lB),(5,.d lU),(6,.d lU),(47,.d lB)],objs:=bS4,m:=3})],[(.normal,{slots:=[(0,.ptr 0 0),(2,.ptr 3 0),(3,.ptr 4 0),(4,.d lB),(5,.d lU),(6,.d lU)],objs:=bS4,m:=3})],eN,[(.normal,{slots:=[(0,.ptr 0 0),(2,.ptr 3 0),(3,.ptr 4 0),(4,.d lB)],objs:=bS4,m:=3})],iN,[(.normal,{slots:=[(0,.ptr 0 0),(2,.ptr 3 0),(4,.ptr 4 0)],objs:=[oS4,.zA 186 jR,.arr jR,.var lA6,.var jR],m:=3}),(.ret,{slots:=[(2,.ptr 3 0)],objs:=[oS4,.zA 186 jR,.arr jR,.var lA6],m:=3})],[(.normal,{slots:=[(0,.ptr 0 0),(2,.ptr 3 0),(5,.ptr 4 0)],objs:=bS5,m:=3})],nQ,mN,[(.normal,{slots:=[(0,.ptr 0 0),(2,.ptr 3 0),(3,.ptr 4 0),(4,.d lU),(22,.d lB)],objs:=bS5,m:=3})],rQ,uQ,[(.normal,{slots:=[(0,.ptr 0 0),(2,.ptr 3 0),(3,.ptr 4 0),(17,.d lB)],objs:=bS5,m:=3})],[(.normal,{slots:=[(0,.ptr 0 0),(2,.ptr 3 0),(3,.ptr 4 0),(4,.ptr 5 0)],objs:=bS7,m:=3})],dK,[(.normal,{slots:=[(0,.ptr 0 0),(2,.ptr 3 0),(3,.ptr 4 0),(13,.d lB)],objs:=bS5,m:=3})],xG,[(.normal,{slots:=[(2,.ptr 0 0),(4,.ptr 1 0),(5,.ptr 2 0),(32,.d lB)],objs:=[.var lA4,.cells false [.d lS,.d lI,.sw 3,.whole 4,.d lB,.d lW,.d lW,.d lW,.d lW,.d lW,.d lW,.d lW,.d lW,.d lB],.var lA6,.zA 186 jR,.arr jR]})],aA8,aBb,xQ,qS,[(.normal,{slots:=[(0,.d (.one (.ref 152))),(3,.d (.one (.ref 148))),(13,.d lB)],objs:=[]})],cX,aDz,aDC,aDF,wS,aJj,[(.normal,{slots:=[(0,.d (.one (.sl 49))),(3,.d lI),(4,.d (.one (.ref 49))),(5,.d lI),(15,.d (.one (.sl 49))),(16,.d lI),(17,.d lI),(22,.d lI),(50,.d lB)],objs:=[]})],aJm,aJp,aJs,aFw,[(.normal,{slots:=[(1,.d (.one (.ref 29))),(12,.d lB)],objs:=[]})],[(.normal,{slots:=[(1,.d (.one (.ref 29))),(3,.ptr 0 0),(102,.d lB)],objs:=[.var lA3]})],[(.normal,{slots:=[(1,.d (.one (.ref 29))),(3,.ptr 0 0),(124,.d lB)],objs:=[.var lA3]})],[(.normal,{slots:=[(1,.d (.one (.ref 29))),(3,.ptr 0 0),(153,.d lB)],objs:=[.var lA3]})],aLQ,aJv,aLT,aLW,[(.normal,{slots:=[(2,.d (.one (.ref 29))),(4,.ptr 0 0),(30,.d lB)],objs:=[.var eJ]})],aLZ,[(.normal,{slots:=[(2,.d (.one (.ref 29))),(3,.d (.one (.ref 29))),(5,.d lB)],objs:=[]})],[(.normal,{slots:=[(2,.d (.one (.ref 29))),(3,.d (.one (.ref 29))),(33,.d lB)],objs:=[]})],[(.normal,{slots:=[(2,.d (.one (.ref 29))),(3,.d (.one (.ref 29))),(47,.d lB)],objs:=[]})],[(.normal,{slots:=[(3,.d (.one (.ref 29))),(4,.d (.one (.ref 29))),(25,.d lB)],objs:=[]})],[(.normal,{slots:=[(3,.d (.one (.ref 29))),(4,.d (.one (.ref 29))),(53,.d lB)],objs:=[]})],[(.normal,{slots:=[(3,.d (.one (.ref 29))),(4,.d (.one (.ref 29))),(107,.d lB)],objs:=[]})],[(.normal,{slots:=[(1,.d lI),(2,.d lI),(3,.d (.one (.ref 29))),(6,.ptr 0 0),(31,.d lB)],objs:=[.var eJ]})],aL4,aL7,aJz,[(.normal,{slots:=[(1,.ptr 0 0),(2,.ptr 1 0),(6,.sw 2),(7,.ptr 3 0),(8,.d lB),(29,.d lB)],objs:=[.var eJ,.var eJ,.zA 45 lA9,.var lA9]})],aMa,[(.normal,{slots:=[(0,.ptr 0 0),(5,.d lS),(6,.d (.one (.sl 9))),(7,.d lI),(8,.d lI)],objs:=[.cells false [.sw 1],.zA 5 lU],m:=2})],aKt,[(.normal,{slots:=[(0,.d lS),(3,.sw 0),(8,.d lI),(9,.d lI)],objs:=[.zA 5 lU]})],[(.normal,{slots:=[(0,.d lS),(3,.sw 0),(5,.d lU),(8,.d lI),(9,.d lI),(28,.d lB)],objs:=[.zA 5 lU]})],aWS,[(.normal,{slots:=[(0,.ptr 0 0),(3,.d (.one (.ref 25))),(18,.d (.one (.sl 75))),(19,.d lI),(20,.d lI)],objs:=[.cells false [.sw 1],.zA 5 lU],m:=2})],[(.normal,{slots:=[(0,.ptr 0 0),(3,.d (.one (.ref 25))),(7,.ptr 2 0),(18,.d (.one (.sl 75))),(19,.d lI),(20,.d lI)],objs:=[.cells false [.sw 1],.zA 5 lU,.var lA1],m:=2})],[(.normal,{slots:=[(0,.ptr 0 0),(3,.d (.one (.ref 25))),(7,.ptr 2 0),(18,.d (.one (.sl 75))),(19,.d lI),(20,.d lI),(25,.d lI),(26,.d lB)],objs:=[.cells false [.sw 1],.zA 5 lU,.var lA1],m:=2})],[(.normal,{slots:=[(0,.ptr 0 0),(3,.d (.one (.ref 25))),(9,.d lI),(55,.d lB)],objs:=[.cells false [.sw 1],.zA 5 lU],m:=2})],aH6,aH7,[(.normal,{slots:=[(0,.ptr 0 0),(4,.d (.one (.ref 29))),(5,.d (.one (.ref 108)))],objs:=[.cells false [.sw 1],.zA 5 lU],m:=2})],aJN,aJO,aJP,[(.normal,{slots:=[(0,.ptr 0 0),(3,.d (.one (.ref 29))),(4,.ptr 2 0)],objs:=[.cells false [.sw 1],.zA 5 lU,.var lA3],m:=2})],aMn,aDf,aFT,[(.normal,{slots:=[(2,.d (.one (.ref 29))),(3,.d (.one (.ref 29))),(51,.d lB)],objs:=[]})],[(.normal,{slots:=[(2,.d (.one (.ref 29))),(3,.d (.one (.ref 29))),(73,.d lB)],objs:=[]})],aMg,aCD,aBg,[(.normal,{slots:=[(2,.d (.one (.ref 25))),(3,.d (.one (.ref 25))),(34,.d lB)],objs:=[]})],aDL,aQ2,aQ3,aQ4,aQ5,[(.ret,{slots:=[(4,.d lI)],objs:=[]})],[(.normal,{slots:=[(0,.d lS),(1,.d lS),(5,.d lI),(16,.d lB)],objs:=[]})],lX,[(.normal,{slots:=[(0,.d (.one (.sl 49))),(3,.ptr 0 0),(6,.d lI),(7,.ptr 1 0),(19,.d (.one (.sl 49))),(20,.d lI),(21,.d lI),(25,.d lA8),(26,.d lI),(49,.d lB)],objs:=[.cells false [.map 2,.map 3],.var lA2,.map lS lB,.map lS lB]})],aCI,aCL,[(.normal,{slots:=[(1,.d (.one (.ref 29))),(17,.d lB)],objs:=[]})],[(.normal,{slots:=[(1,.d (.one (.ref 29))),(4,.d lS),(65,.d (.one (.sl 67))),(66,.d lI),(67,.d lI)],objs:=[]})],aDP,[(.normal,{slots:=[(1,.d (.one (.ref 29))),(4,.d lS)],objs:=[]}),(.ret,{slots:=[(2,.d lI)],objs:=[]})],[(.normal,{slots:=[(1,.d (.one (.ref 29))),(4,.d lS),(7,.d lI),(84,.d lB)],objs:=[]})],[(.normal,{slots:=[(1,.d (.one (.ref 29))),(4,.d lS),(126,.d lB)],objs:=[]})],[(.normal,{slots:=[(1,.d (.one (.ref 29))),(4,.d lS),(134,.d lB)],objs:=[]})],[(.normal,{slots:=[(1,.d (.one (.ref 29)))],objs:=[]}),(.ret,{slots:=[(2,.d lI)],objs:=[]})],[(.normal,{slots:=[(3,.d (.one (.sl 29))),(16,.d lB)],objs:=[]})],aCO,[(.normal,{slots:=[(2,.d (.one (.ref 29))),(3,.d (.one (.ref 29))),(62,.d lB)],objs:=[]})],[(.normal,{slots:=[(2,.d (.one (.ref 29))),(3,.d (.one (.ref 29))),(87,.d lB)],objs:=[]})],aCR,aCU,aCX,aC0,aDS,[(.normal,{slots:=[],objs:=[]}),(.ret,{slots:=[(6,.d (.one (.sl 29))),(7,.d lB)],objs:=[]})],[(.normal,{slots:=[(3,.d (.one (.ref 29))),(4,.d (.one (.ref 29))),(24,.d lB)],objs:=[]})],[(.normal,{slots:=[(3,.d (.one (.ref 29))),(6,.ptr 0 0),(8,.d lB)],objs:=[.var eJ]})],aFG,[(.normal,{slots:=[(1,.d lI),(2,.d lI),(3,.d (.one (.ref 29))),(6,.ptr 0 0),(69,.d lB)],objs:=[.var eJ]})],[(.normal,{slots:=[(2,.d lI),(3,.d (.one (.ref 29))),(6,.ptr 0 0),(12,.d lI),(13,.d (.one (.sl 29))),(14,.d lB)],objs:=[.var eJ]})],[(.normal,{slots:=[(1,.d (.one (.sl 3))),(2,.d lI),(3,.d lI),(4,.ptr 0 0),(8,.ptr 1 0),(33,.d lB)],objs:=[.var eJ,.var eJ]})],aFJ,aFM,aFQ,aDV,qU,[(.normal,{slots:=[(2,.d (.one (.sl 3))),(3,.ptr 0 0),(4,.d (.one (.ref 45))),(6,.ptr 1 0),(10,.d lI),(40,.d lB)],objs:=[oS1,.var eJ]})]]
def kF:List (List (Nat×TypeId×Option L)):=[[],[(4,75,some lA1)],[(3,192,some (.agg (List.replicate 1024 (.int .u64))))],[(4,152,some lA4)],[(8,49,some lA8)],[(4,49,some lA8)]]
def kG:List (aSD):=[.frz 4 3 148 jR,.lft 9 (some 1) 4 lB,.lft 9 (some 0) 160 (.agg (List.replicate 256 (.int .i16))),.frz 1 3 75 lA1,.lft 17 (some 1) 29 eJ,.lft 17 (some 0) 49 lA8,.lft 5 (some 0) 5 lU]
def kK:List (List K):=[[.ref 75],[.ref 29,.ref 29]]
def kZ:List (List (Option (K×C))):=[[some (.sl 186,.bA),some (.sl 148,.bA),some (.bool,.bool false),some (.int .u64,.int 0),some (.int .u64,.int 0),some (.int .u64,.int 0),some (.int .u64,.int 0),some (.int .u64,.int 0),some (.int .u64,.int 0),some (.int .u64,.int 0),some (.int .u64,.int 0)],[some (.str,.str []),some (.int .i64,.int 0),some (.sl 186,.bA),some (.sl 148,.bA),some (.bool,.bool false),some (.int .u64,.int 0),some (.int .u64,.int 0),some (.int .u64,.int 0),some (.int .u64,.int 0),some (.int .u64,.int 0),some (.int .u64,.int 0),some (.int .u64,.int 0),some (.int .u64,.int 0),some (.bool,.bool false)],[some (.sl 160,.bA),some (.sl 4,.bA)],[some (.int .i64,.int 0),some (.str,.str []),some (.str,.str []),some (.sl 9,.bA),some (.int .i64,.int 0),some (.int .i64,.int 0),some (.int .i64,.int 0),some (.int .u8,.int 0),some (.int .i64,.int 0),some (.int .i64,.int 0),some (.str,.str []),some (.sl 75,.bA),some (.sl 49,.bA),some (.sl 29,.bA)],[some (.sl 5,.bA)],[none,none]]
def pO:P rD:=fun l=>match pN l with |(n,l)=>(match n % 2 with |0=> .t (n/2)|_=>kO.getD (n/2) (.t 0),l)
def pL:P L:=pt kL
def pR:P Row:=pt kR
def pB:P BinOp:=pt kB
def pI:P IntKind:=pt kI
def pS:P Shape:=pt kS
def pU:P (List (eB×Shape)):=pt kU
def pK:P (List K):=pt kK
def pZ:P (List (Option (K×C))):=pt kZ
def opP:List (P jP):=[pa (pa (pa (pr jP.a6d) pB) pO) pO,
 pa (pa (pa (pa (pr jP.iad) pN) pL) pO) pO,
 pa (pa (pa (pr jP.ld) pL) pN) pO,
 pa (pa (pa (pr jP.aRr) pN) pL) pR,
 pa (pa (pa (pr jP.st) pL) pO) pO,
 pa (pr jP.mov) pO,
 pa (pa (pa (pa (pr jP.call) pN) (pl pL)) (pl pL)) (pl pO),
 pa (pa (pa (pr jP.a6c) pB) pO) pO,
 pa (pa (pa (pr jP.a6h) pL) pN) pO,
 pa (pa (pa (pa (pa (pr jP.fad) pN) pN) pN) pN) pO,
 pa (pr jP.a17) pO,
 pa (pa (pr jP.imin) pb) (pl pO),
 pa (pa (pa (pr jP.a4P) pN) pO) pO,
 pa (pa (pa (pa (pa (pr jP.callv) pN) (pl pL)) (pl pL)) pO) (pl pO),
 pa (pa (pa (pa (pa (pr jP.bsl) pN) pL) pN) pR) (pl (pp pN pO)),
 pa (pa (pa (pr jP.pick) pO) pO) pO,
 pa (pr jP.not) pO,
 pa (pa (pa (pr jP.a6f) pB) pO) pO,
 pa (pr jP.a6i) pO,
 pa (pa (pr jP.a4M) pO) pO,
 pa (pa (pr jP.s2b) pN) pO,
 pa (pa (pa (pa (pa (pr jP.slc) pN) pL) pO) (pq pO)) (pq pO),
 pa (pa (pa (pa (pr jP.mkf) pN) pN) pK) (pl pO),
 pa (pa (pa (pr jP.bld) pL) pR) (pl (pp pN (pp pN pO))),
 pa (pr jP.a1Y) pO,
 pa (pr jP.ldC) pO,
 pa (pa (pa (pr jP.a4O) pN) pO) pO,
 pa (pa (pa (pa (pa (pa (pr jP.a15) pN) pN) pN) pL) pO) pO,
 pa (pr jP.a6g) pO,
 pa (pa (pr jP.stC) pO) pO,
 pa (pa (pa (pr jP.idiv) pB) pO) pO,
 pa (pa (pa (pr jP.shf) pB) pO) pO,
 pa (pa (pr jP.i2i) pI) pO,
 pa (pa (pa (pa (pa (pa (pa (pa (pr jP.aBZ) pN) pN) pS) pS) (pl pN)) pN) (pq pO)) (pl pO),
 pa (pa (pa (pa (pr jP.aeq) pb) pL) pO) pO,
 pa (pa (pa (pa (pa (pa (pr jP.aUt) pN) pN) pL) pN) pO) pO,
 pa (pa (pa (pa (pa (pa (pr jP.app) pN) pN) pL) pN) pO) pO,
 pa (pa (pa (pa (pa (pa (pr jP.bslS) pN) pN) pL) pN) pR) (pl (pp pN pO)),
 pa (pa (pa (pa (pa (pa (pr jP.bslO) pN) pN) pL) pN) pR) (pl (pp pN pO)),
 pa (pa (pr jP.bldA) pZ) (pl (pp pN (pp pN pO))),
 pa (pa (pr jP.a18) pN) pO,
 pa (pa (pa (pr jP.stA) pN) pO) pO,
 pa (pa (pr jP.ldA) pN) pO,
 pa (pa (pa (pa (pa (pa (pr jP.lk) pL) pL) pR) pO) pO) pb,
 pa (pa (pr jP.ext) pN) pO,
 pa (pa (pa (pa (pr jP.mup) pL) pO) pO) pO,
 pa (pa (pa (pr jP.mkm) pN) pL) pL,
 pa (pa (pr jP.aO5) pN) pZ,
 pa (pa (pr jP.a1Z) pN) pL,
 pa (pa (pr jP.aUs) pb) pO,
 pa (pa (pa (pr jP.a14) pN) pN) pL,
 pa (pa (pa (pr jP.a4L) pN) pL) pO,
 pa (pa (pa (pa (pr jP.a4N) pN) pL) pO) pO,
 pa (pa (pa (pa (pr jP.aUu) pN) pN) pO) pO,
 pa (pa (pr jP.b2s) pN) pO,
 pa (pa (pa (pa (pa (pa (pa (pr jP.mk) pN) pN) pL) pR) pN) pO) pO,
 pa (pa (pa (pr jP.slcS) pO) (pq pO)) (pq pO),
 pr jP.bad,
 pa (pa (pr jP.a6e) pO) pO,
 pa (pa (pa (pa (pr jP.a19) pN) pN) pO) pO]
def dC (cs:List rB) (n:Nat):rB:=(pC pO (pU) pS (pt kF) (pt kG) opP cs 4000 (by4 100000 n)).1
end Go.Ev
