/-
  How a string is quoted.
-/
import Derived.Test.YtfonaepdedbhhaaGreatDoorEvZj
set_option linter.all false
namespace Go.Proofs.Bld
def fZ (n:Nat):UInt8:=if n<10 then UInt8.ofNat (48+n)else UInt8.ofNat (87+n)
def aGX (c:Nat):List UInt8:=[49,fZ (c/16),fZ (c % 16)]
def qb (c:UInt8):List UInt8:=if 32<c.toNat∧c.toNat<127∧c.toNat≠34∧c.toNat≠92 then [c]else 92::(aGX c.toNat).drop 1
def cH (s:List UInt8):List UInt8:=34::(s.flatMap qb++[34])
theorem a35 (c:UInt8):(qb c).length≤3:=by unfold qb;split<;>simp[aGX]
theorem aDo (l:List UInt8):(l.flatMap qb).length≤3*l.length:=by
 induction l with
 |nil=>simp
 |cons a l ih=>simp only[List.flatMap_cons,List.length_append,List.length_cons];have:=a35 a;omega
end Go.Proofs.Bld
