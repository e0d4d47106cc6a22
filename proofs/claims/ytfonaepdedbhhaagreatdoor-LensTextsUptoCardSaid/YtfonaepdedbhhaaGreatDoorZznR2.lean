/- Numerals of base 16, computed. -/
import Derived.Test.YtfonaepdedbhhaaGreatDoorZznNum
set_option linter.all false
set_option maxRecDepth 100000
namespace Go.Ev.Zzn
theorem r8:aJU 8=true:=by kernel_rfl
theorem r9:aJU 9=true:=by kernel_rfl
theorem r10:aJU 10=true:=by kernel_rfl
theorem r11:aJU 11=true:=by kernel_rfl
end Go.Ev.Zzn
