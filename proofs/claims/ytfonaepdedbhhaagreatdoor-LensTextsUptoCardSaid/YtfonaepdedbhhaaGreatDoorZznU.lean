/-
  Numerals of base 16, for one byte: the contract.
-/
import Derived.Test.YtfonaepdedbhhaaGreatDoorZznR0
import Derived.Test.YtfonaepdedbhhaaGreatDoorZznR1
import Derived.Test.YtfonaepdedbhhaaGreatDoorZznR2
import Derived.Test.YtfonaepdedbhhaaGreatDoorZznR3
set_option linter.all false
namespace Go.Ev.Zzn
open Go.Proofs.Bld (aGX)
open Go.RowKit (Below)
theorem a0d:∀k,k<16→aJU k=true
 |0,_=>r0
 |1,_=>r1
 |2,_=>r2
 |3,_=>r3
 |4,_=>r4
 |5,_=>r5
 |6,_=>r6
 |7,_=>r7
 |8,_=>r8
 |9,_=>r9
 |10,_=>r10
 |11,_=>r11
 |12,_=>r12
 |13,_=>r13
 |14,_=>r14
 |15,_=>r15
 |_+16,h=>by omega
theorem a0e (c:Nat) (h:c<256):a4f c=true:=a7P a4f a0d c h
theorem a3Y (c:Nat) (h:c<256):(iE T 12).pc 49 [[.int ((c:Int)+256)],[.int 16]]=some [[.str (aGX c)]]:=isStr_eq _ _ (a0e c h)
end Go.Ev.Zzn
