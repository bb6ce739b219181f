import Derived.Shelf.Strings.Builder1
import Derived.Shelf.Strings.Builder2
import Derived.Shelf.Strings.BuilderF
import Derived.Shelf.Strings.BuilderK
import Derived.Shelf.Strings.Builder2Cap
import Derived.Shelf.Strings.Prefix
import Derived.Shelf.Bits.Mul64
import Derived.Shelf.Strings.Repeat
import Derived.Shelf.Strings.BuilderCap
import Derived.Shelf.Slices.Turned
import Derived.Test.YtmfplddmccggkaaGreatProg
namespace Go.Proofs.YtmfplddmccggkaaGreat
open Go.Shelf
set_option linter.unusedVariables false
def Tryz.lays212_ren :Go.Shelf.Ren:=⟨fun|212=>149|263=>179|264=>180|n=>n,fun|46=>190|51=>222|146=>223|53=>225|148=>226|n=>n,fun|n=>n⟩
theorem Tryz.lays212 :Go.Proofs.Lays.n212 Tryz.prog Tryz.lays212_ren:={
 mixed:=by kernel_rfl
 f212:=Tryz.func149.trans (congrArg some (by kernel_rfl))
 f263:=Tryz.func179.trans (congrArg some (by kernel_rfl))
 f264:=Tryz.func180.trans (congrArg some (by kernel_rfl))
 t46:=Tryz.underlying190
 a46:=Tryz.isAgg190
 z46:=Tryz.sizeOf190
 v46:=Tryz.zeroValue190
 t51:=Tryz.underlying222
 a51:=Tryz.isAgg222
 z51:=Tryz.sizeOf222
 v51:=Tryz.zeroValue222
 t53:=Tryz.underlying225
 a53:=Tryz.isAgg225
 z53:=Tryz.sizeOf225
 v53:=Tryz.zeroValue225
 t146:=Tryz.underlying223
 a146:=Tryz.isAgg223
 z146:=Tryz.sizeOf223
 v146:=Tryz.zeroValue223
 t148:=Tryz.underlying226
 a148:=Tryz.isAgg226
 z148:=Tryz.sizeOf226
 v148:=Tryz.zeroValue226}
open Go.RowKit Go.Lib in
theorem Tryz.bits_Mul (x y:Nat) (hx:x<18446744073709551616) (hy:y<18446744073709551616) (w:World):
 Calls Tryz.prog 149 #[.int .u64 x,.int .u64 y] w fun e w'=>e=.returned (.tuple #[.int .u64 ((x * y / 18446744073709551616:Nat):Int),.int .u64 ((x * y % 18446744073709551616:Nat):Int)])∧w'=w:=Any.bits_Mul Tryz.lays212 x y hx hy w
def Tryz.lays105_ren :Go.Shelf.Ren:=⟨fun|105=>150|212=>149|99=>120|165=>181|166=>182|170=>183|169=>184|263=>179|264=>180|206=>156|240=>200|241=>201|276=>209|277=>210|n=>n,fun|9=>9|3=>3|4=>4|20=>20|0=>0|46=>190|109=>191|5=>5|72=>230|76=>234|51=>222|146=>223|53=>225|148=>226|70=>228|37=>170|75=>233|127=>248|164=>252|80=>237|n=>n,fun|n=>n⟩
theorem Tryz.lays105 :Go.Proofs.Lays.n105 Tryz.prog Tryz.lays105_ren:={
 mixed:=by kernel_rfl
 f99:=Tryz.func120.trans (congrArg some (by kernel_rfl))
 f105:=Tryz.func150.trans (congrArg some (by kernel_rfl))
 f165:=Tryz.func181.trans (congrArg some (by kernel_rfl))
 f166:=Tryz.func182.trans (congrArg some (by kernel_rfl))
 f169:=Tryz.func184.trans (congrArg some (by kernel_rfl))
 f170:=Tryz.func183.trans (congrArg some (by kernel_rfl))
 f206:=Tryz.func156.trans (congrArg some (by kernel_rfl))
 f212:=Tryz.func149.trans (congrArg some (by kernel_rfl))
 f240:=Tryz.func200.trans (congrArg some (by kernel_rfl))
 f241:=Tryz.func201.trans (congrArg some (by kernel_rfl))
 f263:=Tryz.func179.trans (congrArg some (by kernel_rfl))
 f264:=Tryz.func180.trans (congrArg some (by kernel_rfl))
 f276:=Tryz.func209.trans (congrArg some (by kernel_rfl))
 f277:=Tryz.func210.trans (congrArg some (by kernel_rfl))
 t0:=Tryz.underlying0
 a0:=Tryz.isAgg0
 z0:=Tryz.sizeOf0
 v0:=Tryz.zeroValue0
 t3:=Tryz.underlying3
 a3:=Tryz.isAgg3
 z3:=Tryz.sizeOf3
 v3:=Tryz.zeroValue3
 t4:=Tryz.underlying4
 a4:=Tryz.isAgg4
 z4:=Tryz.sizeOf4
 v4:=Tryz.zeroValue4
 t5:=Tryz.underlying5
 a5:=Tryz.isAgg5
 z5:=Tryz.sizeOf5
 v5:=Tryz.zeroValue5
 t9:=Tryz.underlying9
 a9:=Tryz.isAgg9
 z9:=Tryz.sizeOf9
 v9:=Tryz.zeroValue9
 t20:=Tryz.underlying20
 a20:=Tryz.isAgg20
 z20:=Tryz.sizeOf20
 v20:=Tryz.zeroValue20
 t37:=Tryz.underlying170
 a37:=Tryz.isAgg170
 z37:=Tryz.sizeOf170
 v37:=Tryz.zeroValue170
 t46:=Tryz.underlying190
 a46:=Tryz.isAgg190
 z46:=Tryz.sizeOf190
 v46:=Tryz.zeroValue190
 t51:=Tryz.underlying222
 a51:=Tryz.isAgg222
 z51:=Tryz.sizeOf222
 v51:=Tryz.zeroValue222
 t53:=Tryz.underlying225
 a53:=Tryz.isAgg225
 z53:=Tryz.sizeOf225
 v53:=Tryz.zeroValue225
 t70:=Tryz.underlying228
 a70:=Tryz.isAgg228
 z70:=Tryz.sizeOf228
 v70:=Tryz.zeroValue228
 t72:=Tryz.underlying230
 a72:=Tryz.isAgg230
 z72:=Tryz.sizeOf230
 v72:=Tryz.zeroValue230
 t75:=Tryz.underlying233
 a75:=Tryz.isAgg233
 z75:=Tryz.sizeOf233
 v75:=Tryz.zeroValue233
 t76:=Tryz.underlying234
 a76:=Tryz.isAgg234
 z76:=Tryz.sizeOf234
 v76:=Tryz.zeroValue234
 t109:=Tryz.underlying191
 a109:=Tryz.isAgg191
 z109:=Tryz.sizeOf191
 v109:=Tryz.zeroValue191
 t127:=Tryz.underlying248
 a127:=Tryz.isAgg248
 z127:=Tryz.sizeOf248
 v127:=Tryz.zeroValue248
 t146:=Tryz.underlying223
 a146:=Tryz.isAgg223
 z146:=Tryz.sizeOf223
 v146:=Tryz.zeroValue223
 t148:=Tryz.underlying226
 a148:=Tryz.isAgg226
 z148:=Tryz.sizeOf226
 v148:=Tryz.zeroValue226
 t164:=Tryz.underlying252
 a164:=Tryz.isAgg252
 z164:=Tryz.sizeOf252
 v164:=Tryz.zeroValue252}
theorem Tryz.Builder_Extra_105 :Builder.Extra Tryz.prog Tryz.lays105_ren:={
 sizeBuilder:=by kernel_rfl
 liesBuilder:=by kernel_rfl
 t5:=Tryz.underlying5
 a5:=Tryz.isAgg5
 z5:=Tryz.sizeOf5
 v5:=Tryz.zeroValue5
 infoByte:=by kernel_rfl
 cellsByte:=by kernel_rfl
 sizeByte:=by kernel_rfl
 neB5:=by decide}
open Go.RowKit Go.Lib in
theorem Tryz.strings_Repeat (s:ByteArray) (c:Nat) (w:World) (hc:c≤9223372036854775807) (hlen:s.size * c≤140737488355328):
 Calls Tryz.prog 150 #[.string s,.int .i64 c] w fun e w'=>e=.returned (.string ⟨(Lib.repeatL s.data.toList c).toArray⟩)∧Below w.heap.size w w':=Any.strings_Repeat Tryz.lays105 Tryz.Builder_Extra_105 s c w hc hlen
end Go.Proofs.YtmfplddmccggkaaGreat
