/-
  Codes written as numbers, and how they are read.
-/
import Derived.Test.YtdhebofenihjmaaGreatDoorEvZ
set_option linter.all false
namespace Go.Ev
abbrev P (A:Type):=List Nat→A×List Nat
def by4:Nat→Nat→List Nat
 |0,_=>[]
 |k+1,n=>n % 16::by4 k (n/16)
def pr {A:Type} (a:A):P A:=fun l=>(a,l)
def pa {A B:Type} (f:P (A→B)) (x:P A):P B:=fun l=>match f l with |(g,l)=>match x l with |(a,l)=>(g a,l)
def nx:P Nat:=fun l=>match l with |[]=>(0,[])|b::l=>(b,l)
def pN:P Nat:=fun l=>match nx l with
 |(b,l)=>match Nat.blt b 11 with
  |true=>(b,l)
  |false=>match nx l with
   |(c,l)=>match Nat.beq b 15 with
    |false=>((b - 11)*16+c+11,l)
    |true=>match nx l with
     |(d,l)=>match Nat.beq c 15 with
      |false=>(75+c*16+d,l)
      |true=>match nx l with
       |(e,l)=>match nx l with
        |(f,l)=>(315+d*256+e*16+f,l)
def pt {A:Type} [Inhabited A] (t:List A):P A:=fun l=>match pN l with |(n,l)=>(t.getD n default,l)
def pm {A:Type} (p:P A):Nat→P (List A)
 |0=>pr []
 |k+1=>fun l=>match p l with |(a,l)=>match pm p k l with |(as,l)=>(a::as,l)
def pl {A:Type} (p:P A):P (List A):=fun l=>match pN l with |(n,l)=>pm p n l
def pp {A B:Type} (p:P A) (q:P B):P (A×B):=pa (pa (pr Prod.mk) p) q
def pb:P Bool:=fun l=>match pN l with |(n,l)=>(Nat.beq n 1,l)
def pq {A:Type} (p:P A):P (Option A):=fun l=>match pN l with
 |(n,l)=>match n with
  |0=>(none,l)
  |_=>match p l with |(a,l)=>(some a,l)
def pD:P (Option Nat):=fun l=>match pN l with
 |(n,l)=>(match n with |0=>none |k+1=>some k,l)
def pG:P (Nat×Bool):=pp pN pb
def pE (o:List Nat→Option (Nat×Bool)→lK):P lK:=fun l=>match pN l with
 |(n,l)=>match n with
  |0=>(o [] none,l)
  |1=>match pN l with |(k,l)=>(o (List.range k) none,l)
  |2=>match pG l with |(g,l)=>match pN l with |(k,l)=>(o (List.range k) (some g),l)
  |3=>match pl pN l with |(b,l)=>(o b none,l)
  |_=>match pG l with |(g,l)=>match pl pN l with |(b,l)=>(o b (some g),l)
def pX (ops:List (P jP)):P lK:=fun l=>match pD l with
 |(d,l)=>match pN l with
  |(n,l)=>match ops.getD n (pr .bad) l with
   |(o,l)=>pE (fun b g=>⟨d,o,g,b⟩) l
section
variable (pO:P rD) (pU:P (List (eB×Shape))) (pS:P Shape) (pF:P (List (Nat×TypeId×Option L))) (pH:P aSD) (ops:List (P jP)) (cs:List rB)
def pC:Nat→P rB
 |0=>pr .bad
 |k+1=>fun l=>match pN l with
  |(n,l)=>([pr .skip,pr .ret,pr .bad,pa (pa (pr .seq) (pC k)) (pC k),pa (pa (pa (pr .cond) pO) (pC k)) (pC k),pa (pa (pr .block) pN) (pC k),pa (pa (pa (pr .loop) pS) pU) (pC k),pa (pa (pr .join) pU) (pC k),pa (pr .exit) pN,
   pa (pr fun o=> .region [] o false 0) (pl (pX ops)),pa (pa (pa (pa (pr .region) pF) (pl (pX ops))) pb) pN,pa (pa (pr .ghost) pH) (pC k),pa (pa (pr .post) pH) (pC k),pt cs,pa (pa (pr fun o=> .seq (.region [] o false 0)) (pl (pX ops))) (pC k)].getD n (pr .bad)) l
end
end Go.Ev
