/-
  A given function that never answers.
-/
import Derived.Test.YtdhebofenihjmaaGreatDoorEvZ
set_option linter.all false
namespace Go.Ev
def wA:List Row→Option (List Row):=fun _=>none
theorem bD7 {P:Program} (T:Nat→yF) {f:Nat} {ps rs:List L}:aIn P T f ps rs wA:=by
 intro rows out h;simp[wA]at h
end Go.Ev
