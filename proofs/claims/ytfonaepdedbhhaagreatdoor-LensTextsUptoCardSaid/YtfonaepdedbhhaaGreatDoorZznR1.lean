/- Numerals of base 16, computed. -/
import Derived.Test.YtfonaepdedbhhaaGreatDoorZznNum
set_option linter.all false
set_option maxRecDepth 100000
namespace Go.Ev.Zzn
theorem r4:aJU 4=true:=by kernel_rfl
theorem r5:aJU 5=true:=by kernel_rfl
theorem r6:aJU 6=true:=by kernel_rfl
theorem r7:aJU 7=true:=by kernel_rfl
end Go.Ev.Zzn
