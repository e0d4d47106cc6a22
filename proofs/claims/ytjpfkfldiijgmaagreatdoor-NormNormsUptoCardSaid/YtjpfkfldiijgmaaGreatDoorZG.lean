/-
  A given function that never answers.
-/
import Derived.Test.YtjpfkfldiijgmaaGreatDoorEvZ
set_option linter.all false
namespace Go.Ev
def vA:List Row→Option (List Row):=fun _=>none
theorem bEh {P:Program} (T:Nat→yF) {f:Nat} {ps rs:List L}:aIA P T f ps rs vA:=by
 intro rows out h;simp[vA]at h
end Go.Ev
