/- Numerals of base 16, computed. -/
import Derived.Test.YtfonaepdedbhhaaGreatDoorZznNum
set_option linter.all false
set_option maxRecDepth 100000
namespace Go.Ev.Zzn
theorem r0:aJU 0=true:=by kernel_rfl
theorem r1:aJU 1=true:=by kernel_rfl
theorem r2:aJU 2=true:=by kernel_rfl
theorem r3:aJU 3=true:=by kernel_rfl
end Go.Ev.Zzn
