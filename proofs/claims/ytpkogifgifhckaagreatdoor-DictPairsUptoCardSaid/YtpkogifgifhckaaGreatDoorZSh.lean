/-
  The library's numerals, at this program.
-/
import Derived.Shelf.Small.Bits
import Derived.Shelf.Small.Strs
import Derived.Shelf.Small.Wraps
import Derived.Shelf.Strconv.Itoa0
import Derived.Shelf.Strconv.Itoa1
import Derived.Shelf.LaysM
import Derived.Shelf.Strconv.Itoa2
import Derived.Shelf.Strconv.Itoa3
import Derived.Ground.Names2Prog
import Derived.Test.YtpkogifgifhckaaGreatDoorProg
set_option linter.all false
namespace Go.Proofs
open Go.Shelf
def Tryz.laysM171_ren:Go.Shelf.Ren:=⟨fun |171=>24 |243=>42 |246=>53 |283=>61 |284=>62 |285=>63 |286=>64 |129=>74 |317=>80 |318=>81 |319=>82 |320=>83 |337=>94 |338=>95 |n=>n,fun |3=>3 |9=>9 |2=>2 |4=>4 |171=>83 |0=>0 |53=>84 |37=>87 |5=>5 |173=>88 |212=>107 |51=>99 |20=>20 |213=>108 |46=>81 |232=>128 |233=>129 |n=>n,fun |17=>1 |18=>2 |19=>3 |n=>n⟩
theorem Tryz.laysM171:Go.Proofs.LaysM.n171 Tryz.prog Tryz.laysM171_ren:={
 mixed:=by kernel_rfl
 f129:=Tryz.func74.trans (congrArg some (by kernel_rfl))
 f171:=Tryz.func24.trans (congrArg some (by kernel_rfl))
 f243:=Tryz.func42.trans (congrArg some (by kernel_rfl))
 f246:=Tryz.func53.trans (congrArg some (by kernel_rfl))
 f283:=Tryz.func61.trans (congrArg some (by kernel_rfl))
 f284:=Tryz.func62.trans (congrArg some (by kernel_rfl))
 f285:=Tryz.func63.trans (congrArg some (by kernel_rfl))
 f286:=Tryz.func64.trans (congrArg some (by kernel_rfl))
 f317:=Tryz.func80.trans (congrArg some (by kernel_rfl))
 f318:=Tryz.func81.trans (congrArg some (by kernel_rfl))
 f319:=Tryz.func82.trans (congrArg some (by kernel_rfl))
 f320:=Tryz.func83.trans (congrArg some (by kernel_rfl))
 f337:=Tryz.func94.trans (congrArg some (by kernel_rfl))
 f338:=Tryz.func95.trans (congrArg some (by kernel_rfl))
 t0:=Tryz.underlying0
 a0:=Tryz.isAgg0
 z0:=Tryz.sizeOf0
 v0:=Tryz.zeroValue0
 t2:=Tryz.underlying2
 a2:=Tryz.isAgg2
 z2:=Tryz.sizeOf2
 v2:=Tryz.zeroValue2
 t3:=Tryz.underlying3
 a3:=Tryz.isAgg3
 z3:=Tryz.sizeOf3
 v3:=Tryz.zeroValue3
 t4:=Tryz.underlying4
 a4:=Tryz.isAgg4
 z4:=Tryz.sizeOf4
 v4:=Tryz.zeroValue4
 t5:=Tryz.underlying5
 a5:=Tryz.isAgg5
 z5:=Tryz.sizeOf5
 v5:=Tryz.zeroValue5
 t9:=Tryz.underlying9
 a9:=Tryz.isAgg9
 z9:=Tryz.sizeOf9
 v9:=Tryz.zeroValue9
 t20:=Tryz.underlying20
 a20:=Tryz.isAgg20
 z20:=Tryz.sizeOf20
 v20:=Tryz.zeroValue20
 t37:=Tryz.underlying87
 a37:=Tryz.isAgg87
 z37:=Tryz.sizeOf87
 v37:=Tryz.zeroValue87
 t46:=Tryz.underlying81
 a46:=Tryz.isAgg81
 z46:=Tryz.sizeOf81
 v46:=Tryz.zeroValue81
 t51:=Tryz.underlying99
 a51:=Tryz.isAgg99
 z51:=Tryz.sizeOf99
 v51:=Tryz.zeroValue99
 t53:=Tryz.underlying84
 a53:=Tryz.isAgg84
 z53:=Tryz.sizeOf84
 v53:=Tryz.zeroValue84
 t171:=Tryz.underlying83
 a171:=Tryz.isAgg83
 z171:=Tryz.sizeOf83
 v171:=Tryz.zeroValue83
 t173:=Tryz.underlying88
 a173:=Tryz.isAgg88
 z173:=Tryz.sizeOf88
 v173:=Tryz.zeroValue88
 t212:=Tryz.underlying107
 a212:=Tryz.isAgg107
 z212:=Tryz.sizeOf107
 v212:=Tryz.zeroValue107
 t213:=Tryz.underlying108
 a213:=Tryz.isAgg108
 z213:=Tryz.sizeOf108
 t232:=Tryz.underlying128
 a232:=Tryz.isAgg128
 z232:=Tryz.sizeOf128
 v232:=Tryz.zeroValue128
 t233:=Tryz.underlying129
 a233:=Tryz.isAgg129
 z233:=Tryz.sizeOf129
 v233:=Tryz.zeroValue129
 g17:=by kernel_rfl
 g18:=by kernel_rfl
 g19:=by kernel_rfl
 i0:=by kernel_rfl
 i2:=by kernel_rfl
 i3:=by kernel_rfl
 i4:=by kernel_rfl
 i5:=by kernel_rfl
 i9:=by kernel_rfl
 i20:=by kernel_rfl
 i37:=by kernel_rfl
 i46:=by kernel_rfl
 i51:=by kernel_rfl
 i53:=by kernel_rfl
 i171:=by kernel_rfl
 i173:=by kernel_rfl
 i212:=by kernel_rfl
 i232:=by kernel_rfl
 i233:=by kernel_rfl
 m17:=by kernel_rfl
 m18:=by kernel_rfl
 m19:=by kernel_rfl}
open Go.RowKit Go.Sort Go.Lib in
theorem Tryz.strconv_Itoa (n:Int) (h0: -9223372036854775808≤n) (h1:n≤9223372036854775807) (w:World) (htab:Lib.TabIs Tryz.prog w "internal/strconv.uint64pow10" .u64 Lib.pow10Tab):
 Calls Tryz.prog 24 #[.int .i64 n] w fun e w'=>e= .returned (.string ⟨(Lib.itoa n).toArray⟩)∧∃k os,w'=grow (w.drewN k) os:=Any.strconv_Itoa Tryz.laysM171 n h0 h1 w htab
end Go.Proofs
