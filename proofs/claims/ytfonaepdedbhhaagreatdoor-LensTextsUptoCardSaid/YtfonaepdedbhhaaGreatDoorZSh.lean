/-
  The library's numerals, at this program.
-/
import Derived.Shelf.Strings.Builder1
import Derived.Shelf.Strings.Builder2
import Derived.Shelf.Strings.OnBuilder
import Derived.Shelf.Small.Strs
import Derived.Shelf.Small.Wraps
import Derived.Shelf.Strconv.Itoa0
import Derived.Shelf.Strconv.Itoa1
import Derived.Shelf.LaysM
import Derived.Shelf.Strconv.Itoa2
import Derived.Shelf.Strconv.Itoa3
import Derived.Shelf.Strconv.Itoa4
import Derived.Shelf.Bits.Mul64
import Derived.Shelf.Strings.Repeat
import Derived.Ground.Names2Prog
import Derived.Test.YtfonaepdedbhhaaGreatDoorProg
set_option linter.all false
namespace Go.Proofs
open Go.Shelf
def Tryz.aOn:Go.Shelf.Ren:=⟨fun |169=>27 |n=>n,fun |70=>53 |9=>9 |0=>0 |72=>55 |37=>38 |127=>78 |3=>3 |5=>5 |n=>n,fun |n=>n⟩
theorem Tryz.a1j:Go.Proofs.Lays.n169 Tryz.prog Tryz.aOn:={
 mixed:=by kernel_rfl
 f169:=Tryz.func27.trans (congrArg some (by kernel_rfl))
 t0:=Tryz.underlying0
 a0:=Tryz.isAgg0
 z0:=Tryz.sizeOf0
 v0:=Tryz.zeroValue0
 t3:=Tryz.underlying3
 a3:=Tryz.isAgg3
 z3:=Tryz.sizeOf3
 v3:=Tryz.zeroValue3
 t9:=Tryz.underlying9
 a9:=Tryz.isAgg9
 z9:=Tryz.sizeOf9
 v9:=Tryz.zeroValue9
 t37:=Tryz.underlying38
 a37:=Tryz.isAgg38
 z37:=Tryz.sizeOf38
 v37:=Tryz.zeroValue38
 t70:=Tryz.underlying53
 a70:=Tryz.isAgg53
 z70:=Tryz.sizeOf53
 v70:=Tryz.zeroValue53
 t72:=Tryz.underlying55
 a72:=Tryz.isAgg55
 z72:=Tryz.sizeOf55
 v72:=Tryz.zeroValue55
 t127:=Tryz.underlying78
 a127:=Tryz.isAgg78
 z127:=Tryz.sizeOf78
 v127:=Tryz.zeroValue78}
theorem Tryz.aMN:Builder.Extra Tryz.prog Tryz.aOn:={
 sizeBuilder:=by kernel_rfl
 liesBuilder:=by kernel_rfl
 t5:=Tryz.underlying5
 a5:=Tryz.isAgg5
 z5:=Tryz.sizeOf5
 v5:=Tryz.zeroValue5
 infoByte:=by kernel_rfl
 cellsByte:=by kernel_rfl
 sizeByte:=by kernel_rfl
 neB5:=by decide}
open Go.RowKit in
open Go.RowKit in
open Go.RowKit in
theorem Tryz.Builder_String_any (B b:Nat) (l:List UInt8) (w:World) (h:Lib.IsBuilder 55 5 B b (Lib.byteCells l) w) (hBw:B≤w.heap.size):
 Calls Tryz.prog 27 #[.pointer (some ⟨b,0,none⟩)] w fun e w'=>e= .returned (.string ⟨l.toArray⟩)∧Below B w w':=Any.Builder_String_any Tryz.a1j Tryz.aMN B b l w h hBw
def Tryz.aOo:Go.Shelf.Ren:=⟨fun |156=>12 |165=>25 |166=>26 |169=>27 |240=>43 |241=>44 |276=>61 |277=>62 |n=>n,fun |31=>22 |9=>9 |3=>3 |4=>4 |0=>0 |20=>20 |72=>55 |76=>59 |70=>53 |37=>38 |75=>58 |127=>78 |164=>98 |5=>5 |80=>61 |n=>n,fun |n=>n⟩
theorem Tryz.aPe:Go.Proofs.Lays.n156 Tryz.prog Tryz.aOo:={
 mixed:=by kernel_rfl
 f156:=Tryz.func12.trans (congrArg some (by kernel_rfl))
 f165:=Tryz.func25.trans (congrArg some (by kernel_rfl))
 f166:=Tryz.func26.trans (congrArg some (by kernel_rfl))
 f169:=Tryz.func27.trans (congrArg some (by kernel_rfl))
 f240:=Tryz.func43.trans (congrArg some (by kernel_rfl))
 f241:=Tryz.func44.trans (congrArg some (by kernel_rfl))
 f276:=Tryz.func61.trans (congrArg some (by kernel_rfl))
 f277:=Tryz.func62.trans (congrArg some (by kernel_rfl))
 t0:=Tryz.underlying0
 a0:=Tryz.isAgg0
 z0:=Tryz.sizeOf0
 v0:=Tryz.zeroValue0
 t3:=Tryz.underlying3
 a3:=Tryz.isAgg3
 z3:=Tryz.sizeOf3
 v3:=Tryz.zeroValue3
 t4:=Tryz.underlying4
 a4:=Tryz.isAgg4
 z4:=Tryz.sizeOf4
 v4:=Tryz.zeroValue4
 t9:=Tryz.underlying9
 a9:=Tryz.isAgg9
 z9:=Tryz.sizeOf9
 v9:=Tryz.zeroValue9
 t20:=Tryz.underlying20
 a20:=Tryz.isAgg20
 z20:=Tryz.sizeOf20
 v20:=Tryz.zeroValue20
 t31:=Tryz.underlying22
 a31:=Tryz.isAgg22
 z31:=Tryz.sizeOf22
 v31:=Tryz.zeroValue22
 t37:=Tryz.underlying38
 a37:=Tryz.isAgg38
 z37:=Tryz.sizeOf38
 v37:=Tryz.zeroValue38
 t70:=Tryz.underlying53
 a70:=Tryz.isAgg53
 z70:=Tryz.sizeOf53
 v70:=Tryz.zeroValue53
 t72:=Tryz.underlying55
 a72:=Tryz.isAgg55
 z72:=Tryz.sizeOf55
 v72:=Tryz.zeroValue55
 t75:=Tryz.underlying58
 a75:=Tryz.isAgg58
 z75:=Tryz.sizeOf58
 v75:=Tryz.zeroValue58
 t76:=Tryz.underlying59
 a76:=Tryz.isAgg59
 z76:=Tryz.sizeOf59
 v76:=Tryz.zeroValue59
 t127:=Tryz.underlying78
 a127:=Tryz.isAgg78
 z127:=Tryz.sizeOf78
 v127:=Tryz.zeroValue78
 t164:=Tryz.underlying98
 a164:=Tryz.isAgg98
 z164:=Tryz.sizeOf98
 v164:=Tryz.zeroValue98}
theorem Tryz.pK:Builder.Extra Tryz.prog Tryz.aOo:={
 sizeBuilder:=by kernel_rfl
 liesBuilder:=by kernel_rfl
 t5:=Tryz.underlying5
 a5:=Tryz.isAgg5
 z5:=Tryz.sizeOf5
 v5:=Tryz.zeroValue5
 infoByte:=by kernel_rfl
 cellsByte:=by kernel_rfl
 sizeByte:=by kernel_rfl
 neB5:=by decide}
open Go.RowKit in
theorem Tryz.strings_Join_none (a:Option Addr) (c:Nat) (sep:ByteArray) (w:World):
 Calls Tryz.prog 12 #[.slice a 0 c, .string sep] w fun e w'=>e= .returned (.string ⟨#[]⟩)∧w'=w:=Any.strings_Join_none Tryz.aPe Tryz.pK a c sep w
open Go.RowKit in
theorem Tryz.strings_Join (bk o c:Nat) (xs:List ByteArray) (sep:ByteArray) (w:World) (hcells:∀(j:Nat) x,xs[j]? =some x→w.cell? ⟨bk,o+j,none⟩=some (.string x)) (hbk:bk<w.heap.size) (hN:xs.length≤140737488355328) (hcap:xs.length≤c) (hlen:(Lib.join (xs.map (·.data.toList)) sep.data.toList).length≤140737488355328):
 Calls Tryz.prog 12 #[.slice (some ⟨bk,o,none⟩) xs.length c, .string sep] w fun e w'=>e= .returned (.string ⟨(Lib.join (xs.map (·.data.toList)) sep.data.toList).toArray⟩)∧Below w.heap.size w w':=Any.strings_Join Tryz.aPe Tryz.pK bk o c xs sep w hcells hbk hN hcap hlen
def Tryz.aOp:Go.Shelf.Ren:=⟨fun |105=>51 |212=>68 |99=>69 |165=>25 |166=>26 |170=>70 |169=>27 |263=>86 |264=>87 |206=>88 |240=>43 |241=>44 |276=>61 |277=>62 |n=>n,fun |9=>9 |3=>3 |4=>4 |20=>20 |0=>0 |46=>90 |109=>104 |5=>5 |72=>55 |76=>59 |51=>127 |146=>131 |53=>86 |148=>133 |70=>53 |37=>38 |75=>58 |127=>78 |164=>98 |80=>61 |n=>n,fun |n=>n⟩
theorem Tryz.aTo:Go.Proofs.Lays.n105 Tryz.prog Tryz.aOp:={
 mixed:=by kernel_rfl
 f99:=Tryz.func69.trans (congrArg some (by kernel_rfl))
 f105:=Tryz.func51.trans (congrArg some (by kernel_rfl))
 f165:=Tryz.func25.trans (congrArg some (by kernel_rfl))
 f166:=Tryz.func26.trans (congrArg some (by kernel_rfl))
 f169:=Tryz.func27.trans (congrArg some (by kernel_rfl))
 f170:=Tryz.func70.trans (congrArg some (by kernel_rfl))
 f206:=Tryz.func88.trans (congrArg some (by kernel_rfl))
 f212:=Tryz.func68.trans (congrArg some (by kernel_rfl))
 f240:=Tryz.func43.trans (congrArg some (by kernel_rfl))
 f241:=Tryz.func44.trans (congrArg some (by kernel_rfl))
 f263:=Tryz.func86.trans (congrArg some (by kernel_rfl))
 f264:=Tryz.func87.trans (congrArg some (by kernel_rfl))
 f276:=Tryz.func61.trans (congrArg some (by kernel_rfl))
 f277:=Tryz.func62.trans (congrArg some (by kernel_rfl))
 t0:=Tryz.underlying0
 a0:=Tryz.isAgg0
 z0:=Tryz.sizeOf0
 v0:=Tryz.zeroValue0
 t3:=Tryz.underlying3
 a3:=Tryz.isAgg3
 z3:=Tryz.sizeOf3
 v3:=Tryz.zeroValue3
 t4:=Tryz.underlying4
 a4:=Tryz.isAgg4
 z4:=Tryz.sizeOf4
 v4:=Tryz.zeroValue4
 t5:=Tryz.underlying5
 a5:=Tryz.isAgg5
 z5:=Tryz.sizeOf5
 v5:=Tryz.zeroValue5
 t9:=Tryz.underlying9
 a9:=Tryz.isAgg9
 z9:=Tryz.sizeOf9
 v9:=Tryz.zeroValue9
 t20:=Tryz.underlying20
 a20:=Tryz.isAgg20
 z20:=Tryz.sizeOf20
 v20:=Tryz.zeroValue20
 t37:=Tryz.underlying38
 a37:=Tryz.isAgg38
 z37:=Tryz.sizeOf38
 v37:=Tryz.zeroValue38
 t46:=Tryz.underlying90
 a46:=Tryz.isAgg90
 z46:=Tryz.sizeOf90
 v46:=Tryz.zeroValue90
 t51:=Tryz.underlying127
 a51:=Tryz.isAgg127
 z51:=Tryz.sizeOf127
 v51:=Tryz.zeroValue127
 t53:=Tryz.underlying86
 a53:=Tryz.isAgg86
 z53:=Tryz.sizeOf86
 v53:=Tryz.zeroValue86
 t70:=Tryz.underlying53
 a70:=Tryz.isAgg53
 z70:=Tryz.sizeOf53
 v70:=Tryz.zeroValue53
 t72:=Tryz.underlying55
 a72:=Tryz.isAgg55
 z72:=Tryz.sizeOf55
 v72:=Tryz.zeroValue55
 t75:=Tryz.underlying58
 a75:=Tryz.isAgg58
 z75:=Tryz.sizeOf58
 v75:=Tryz.zeroValue58
 t76:=Tryz.underlying59
 a76:=Tryz.isAgg59
 z76:=Tryz.sizeOf59
 v76:=Tryz.zeroValue59
 t109:=Tryz.underlying104
 a109:=Tryz.isAgg104
 z109:=Tryz.sizeOf104
 v109:=Tryz.zeroValue104
 t127:=Tryz.underlying78
 a127:=Tryz.isAgg78
 z127:=Tryz.sizeOf78
 v127:=Tryz.zeroValue78
 t146:=Tryz.underlying131
 a146:=Tryz.isAgg131
 z146:=Tryz.sizeOf131
 v146:=Tryz.zeroValue131
 t148:=Tryz.underlying133
 a148:=Tryz.isAgg133
 z148:=Tryz.sizeOf133
 v148:=Tryz.zeroValue133
 t164:=Tryz.underlying98
 a164:=Tryz.isAgg98
 z164:=Tryz.sizeOf98
 v164:=Tryz.zeroValue98}
theorem Tryz.aMO:Builder.Extra Tryz.prog Tryz.aOp:={
 sizeBuilder:=by kernel_rfl
 liesBuilder:=by kernel_rfl
 t5:=Tryz.underlying5
 a5:=Tryz.isAgg5
 z5:=Tryz.sizeOf5
 v5:=Tryz.zeroValue5
 infoByte:=by kernel_rfl
 cellsByte:=by kernel_rfl
 sizeByte:=by kernel_rfl
 neB5:=by decide}
open Go.RowKit Go.Lib in
theorem Tryz.strings_Repeat_main (s:ByteArray) (c:Nat) (w:World) (hc2:2≤c) (hc:c≤9223372036854775807) (hlen:s.size*c≤140737488355328) (h0:0<s.size):
 Calls Tryz.prog 51 #[.string s, .int .i64 c] w fun e w'=>e= .returned (.string ⟨(Lib.repeatL s.data.toList c).toArray⟩)∧Below w.heap.size w w':=Any.strings_Repeat_main Tryz.aTo Tryz.aMO s c w hc2 hc hlen h0
open Go.RowKit Go.Lib in
theorem Tryz.strings_Repeat_zero (s:ByteArray) (w:World):
 Calls Tryz.prog 51 #[.string s, .int .i64 0] w fun e w'=>e= .returned (.string ⟨#[]⟩)∧w'=w:=Any.strings_Repeat_zero Tryz.aTo s w
open Go.RowKit Go.Lib in
theorem Tryz.strings_Repeat_one (s:ByteArray) (w:World):
 Calls Tryz.prog 51 #[.string s, .int .i64 1] w fun e w'=>e= .returned (.string s)∧w'=w:=Any.strings_Repeat_one Tryz.aTo s w
def Tryz.aTp:Go.Shelf.Ren:=⟨fun |171=>20 |243=>34 |246=>54 |283=>75 |284=>76 |285=>77 |286=>78 |129=>97 |317=>96 |318=>98 |319=>99 |320=>100 |337=>117 |338=>118 |n=>n,fun |3=>3 |9=>9 |2=>2 |4=>4 |171=>109 |0=>0 |53=>86 |37=>38 |5=>5 |173=>112 |212=>142 |51=>127 |20=>20 |213=>143 |46=>90 |232=>193 |233=>194 |n=>n,fun |17=>3 |18=>4 |19=>5 |n=>n⟩
theorem Tryz.aZ4:Go.Proofs.LaysM.n171 Tryz.prog Tryz.aTp:={
 mixed:=by kernel_rfl
 f129:=Tryz.func97.trans (congrArg some (by kernel_rfl))
 f171:=Tryz.func20.trans (congrArg some (by kernel_rfl))
 f243:=Tryz.func34.trans (congrArg some (by kernel_rfl))
 f246:=Tryz.func54.trans (congrArg some (by kernel_rfl))
 f283:=Tryz.func75.trans (congrArg some (by kernel_rfl))
 f284:=Tryz.func76.trans (congrArg some (by kernel_rfl))
 f285:=Tryz.func77.trans (congrArg some (by kernel_rfl))
 f286:=Tryz.func78.trans (congrArg some (by kernel_rfl))
 f317:=Tryz.func96.trans (congrArg some (by kernel_rfl))
 f318:=Tryz.func98.trans (congrArg some (by kernel_rfl))
 f319:=Tryz.func99.trans (congrArg some (by kernel_rfl))
 f320:=Tryz.func100.trans (congrArg some (by kernel_rfl))
 f337:=Tryz.func117.trans (congrArg some (by kernel_rfl))
 f338:=Tryz.func118.trans (congrArg some (by kernel_rfl))
 t0:=Tryz.underlying0
 a0:=Tryz.isAgg0
 z0:=Tryz.sizeOf0
 v0:=Tryz.zeroValue0
 t2:=Tryz.underlying2
 a2:=Tryz.isAgg2
 z2:=Tryz.sizeOf2
 v2:=Tryz.zeroValue2
 t3:=Tryz.underlying3
 a3:=Tryz.isAgg3
 z3:=Tryz.sizeOf3
 v3:=Tryz.zeroValue3
 t4:=Tryz.underlying4
 a4:=Tryz.isAgg4
 z4:=Tryz.sizeOf4
 v4:=Tryz.zeroValue4
 t5:=Tryz.underlying5
 a5:=Tryz.isAgg5
 z5:=Tryz.sizeOf5
 v5:=Tryz.zeroValue5
 t9:=Tryz.underlying9
 a9:=Tryz.isAgg9
 z9:=Tryz.sizeOf9
 v9:=Tryz.zeroValue9
 t20:=Tryz.underlying20
 a20:=Tryz.isAgg20
 z20:=Tryz.sizeOf20
 v20:=Tryz.zeroValue20
 t37:=Tryz.underlying38
 a37:=Tryz.isAgg38
 z37:=Tryz.sizeOf38
 v37:=Tryz.zeroValue38
 t46:=Tryz.underlying90
 a46:=Tryz.isAgg90
 z46:=Tryz.sizeOf90
 v46:=Tryz.zeroValue90
 t51:=Tryz.underlying127
 a51:=Tryz.isAgg127
 z51:=Tryz.sizeOf127
 v51:=Tryz.zeroValue127
 t53:=Tryz.underlying86
 a53:=Tryz.isAgg86
 z53:=Tryz.sizeOf86
 v53:=Tryz.zeroValue86
 t171:=Tryz.underlying109
 a171:=Tryz.isAgg109
 z171:=Tryz.sizeOf109
 v171:=Tryz.zeroValue109
 t173:=Tryz.underlying112
 a173:=Tryz.isAgg112
 z173:=Tryz.sizeOf112
 v173:=Tryz.zeroValue112
 t212:=Tryz.underlying142
 a212:=Tryz.isAgg142
 z212:=Tryz.sizeOf142
 v212:=Tryz.zeroValue142
 t213:=Tryz.underlying143
 a213:=Tryz.isAgg143
 z213:=Tryz.sizeOf143
 t232:=Tryz.underlying193
 a232:=Tryz.isAgg193
 z232:=Tryz.sizeOf193
 v232:=Tryz.zeroValue193
 t233:=Tryz.underlying194
 a233:=Tryz.isAgg194
 z233:=Tryz.sizeOf194
 v233:=Tryz.zeroValue194
 g17:=by kernel_rfl
 g18:=by kernel_rfl
 g19:=by kernel_rfl
 i0:=by kernel_rfl
 i2:=by kernel_rfl
 i3:=by kernel_rfl
 i4:=by kernel_rfl
 i5:=by kernel_rfl
 i9:=by kernel_rfl
 i20:=by kernel_rfl
 i37:=by kernel_rfl
 i46:=by kernel_rfl
 i51:=by kernel_rfl
 i53:=by kernel_rfl
 i171:=by kernel_rfl
 i173:=by kernel_rfl
 i212:=by kernel_rfl
 i232:=by kernel_rfl
 i233:=by kernel_rfl
 m17:=by kernel_rfl
 m18:=by kernel_rfl
 m19:=by kernel_rfl}
open Go.RowKit Go.Sort Go.Lib in
theorem Tryz.strconv_Itoa (n:Int) (h0: -9223372036854775808≤n) (h1:n≤9223372036854775807) (w:World) (htab:Lib.TabIs Tryz.prog w "internal/strconv.uint64pow10" .u64 Lib.pow10Tab):
 Calls Tryz.prog 20 #[.int .i64 n] w fun e w'=>e= .returned (.string ⟨(Lib.itoa n).toArray⟩)∧∃k os,w'=grow (w.drewN k) os:=Any.strconv_Itoa Tryz.aZ4 n h0 h1 w htab
end Go.Proofs
