/- Numerals of base 16, computed. -/
import Derived.Test.YtfonaepdedbhhaaGreatDoorZznNum
set_option linter.all false
set_option maxRecDepth 100000
namespace Go.Ev.Zzn
theorem r12:aJU 12=true:=by kernel_rfl
theorem r13:aJU 13=true:=by kernel_rfl
theorem r14:aJU 14=true:=by kernel_rfl
theorem r15:aJU 15=true:=by kernel_rfl
end Go.Ev.Zzn
