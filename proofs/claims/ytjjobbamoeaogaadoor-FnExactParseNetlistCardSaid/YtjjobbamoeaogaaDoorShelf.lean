import Derived.Shelf.Strings.Builder1
import Derived.Shelf.Strings.Builder2
import Derived.Shelf.Strings.OnBuilder
import Derived.Shelf.Small.Wraps
import Derived.Shelf.Strings.BuilderF
import Derived.Shelf.Strings.BuilderK
import Derived.Shelf.Utf8.RuneCount
import Derived.Shelf.Strings.Builder2Cap
import Derived.Shelf.Strings.Search1
import Derived.Shelf.Strings.Search2
import Derived.Shelf.Strings.Search3
import Derived.Shelf.Strings.Count
import Derived.Shelf.LaysM
import Derived.Shelf.Strings.Shaped
import Derived.Shelf.Strings.Prefix
import Derived.Shelf.Strings.Split
import Derived.Shelf.Strings.SplitShaped
import Derived.Shelf.Unicode.Decode
import Derived.Shelf.Strings.RuneCount
import Derived.Shelf.Strings.Explode
import Derived.Shelf.Unicode.DecodeSlow
import Derived.Shelf.Unicode.DecodeAny
import Derived.Shelf.Strings.BuilderCap
import Derived.Shelf.Slices.Turned
import Derived.Test.YtjjobbamoeaogaaDoorProg
namespace Go.Proofs.YtjjobbamoeaogaaDoor
open Go.Shelf
set_option linter.unusedVariables false
def Tryd.lays156_ren :Go.Shelf.Ren:=⟨fun|156=>36|165=>58|166=>59|169=>60|240=>75|241=>76|276=>88|277=>89|n=>n,fun|31=>31|9=>9|3=>3|4=>4|0=>0|20=>20|72=>80|76=>84|70=>77|37=>78|75=>83|127=>99|164=>107|5=>5|80=>86|n=>n,fun|n=>n⟩
theorem Tryd.lays156 :Go.Proofs.Lays.n156 Tryd.prog Tryd.lays156_ren:={
 mixed:=by kernel_rfl
 f156:=Tryd.func36.trans (congrArg some (by kernel_rfl))
 f165:=Tryd.func58.trans (congrArg some (by kernel_rfl))
 f166:=Tryd.func59.trans (congrArg some (by kernel_rfl))
 f169:=Tryd.func60.trans (congrArg some (by kernel_rfl))
 f240:=Tryd.func75.trans (congrArg some (by kernel_rfl))
 f241:=Tryd.func76.trans (congrArg some (by kernel_rfl))
 f276:=Tryd.func88.trans (congrArg some (by kernel_rfl))
 f277:=Tryd.func89.trans (congrArg some (by kernel_rfl))
 t0:=Tryd.underlying0
 a0:=Tryd.isAgg0
 z0:=Tryd.sizeOf0
 v0:=Tryd.zeroValue0
 t3:=Tryd.underlying3
 a3:=Tryd.isAgg3
 z3:=Tryd.sizeOf3
 v3:=Tryd.zeroValue3
 t4:=Tryd.underlying4
 a4:=Tryd.isAgg4
 z4:=Tryd.sizeOf4
 v4:=Tryd.zeroValue4
 t9:=Tryd.underlying9
 a9:=Tryd.isAgg9
 z9:=Tryd.sizeOf9
 v9:=Tryd.zeroValue9
 t20:=Tryd.underlying20
 a20:=Tryd.isAgg20
 z20:=Tryd.sizeOf20
 v20:=Tryd.zeroValue20
 t31:=Tryd.underlying31
 a31:=Tryd.isAgg31
 z31:=Tryd.sizeOf31
 v31:=Tryd.zeroValue31
 t37:=Tryd.underlying78
 a37:=Tryd.isAgg78
 z37:=Tryd.sizeOf78
 v37:=Tryd.zeroValue78
 t70:=Tryd.underlying77
 a70:=Tryd.isAgg77
 z70:=Tryd.sizeOf77
 v70:=Tryd.zeroValue77
 t72:=Tryd.underlying80
 a72:=Tryd.isAgg80
 z72:=Tryd.sizeOf80
 v72:=Tryd.zeroValue80
 t75:=Tryd.underlying83
 a75:=Tryd.isAgg83
 z75:=Tryd.sizeOf83
 v75:=Tryd.zeroValue83
 t76:=Tryd.underlying84
 a76:=Tryd.isAgg84
 z76:=Tryd.sizeOf84
 v76:=Tryd.zeroValue84
 t127:=Tryd.underlying99
 a127:=Tryd.isAgg99
 z127:=Tryd.sizeOf99
 v127:=Tryd.zeroValue99
 t164:=Tryd.underlying107
 a164:=Tryd.isAgg107
 z164:=Tryd.sizeOf107
 v164:=Tryd.zeroValue107}
theorem Tryd.Builder_Extra_156 :Builder.Extra Tryd.prog Tryd.lays156_ren:={
 sizeBuilder:=by kernel_rfl
 liesBuilder:=by kernel_rfl
 t5:=Tryd.underlying5
 a5:=Tryd.isAgg5
 z5:=Tryd.sizeOf5
 v5:=Tryd.zeroValue5
 infoByte:=by kernel_rfl
 cellsByte:=by kernel_rfl
 sizeByte:=by kernel_rfl
 neB5:=by decide}
open Go.RowKit in
theorem Tryd.strings_Join_none (a:Option Addr) (c:Nat) (sep:ByteArray) (w:World):
 Calls Tryd.prog 36 #[.slice a 0 c,.string sep] w fun e w'=>e=.returned (.string ⟨#[]⟩)∧w'=w:=Any.strings_Join_none Tryd.lays156 Tryd.Builder_Extra_156 a c sep w
open Go.RowKit in
theorem Tryd.strings_Join (bk o c:Nat) (xs:List ByteArray) (sep:ByteArray) (w:World) (hcells:∀(j:Nat) x,xs[j]?=some x→w.cell? ⟨bk,o+j,none⟩=some (.string x)) (hbk:bk<w.heap.size) (hN:xs.length≤140737488355328) (hcap:xs.length≤c) (hlen:(Lib.join (xs.map (·.data.toList)) sep.data.toList).length≤140737488355328):
 Calls Tryd.prog 36 #[.slice (some ⟨bk,o,none⟩) xs.length c,.string sep] w fun e w'=>e=.returned (.string ⟨(Lib.join (xs.map (·.data.toList)) sep.data.toList).toArray⟩)∧Below w.heap.size w w':=Any.strings_Join Tryd.lays156 Tryd.Builder_Extra_156 bk o c xs sep w hcells hbk hN hcap hlen
def Tryd.lays143_ren :Go.Shelf.Ren:=⟨fun|143=>50|219=>67|217=>79|225=>80|224=>81|267=>82|266=>90|314=>91|n=>n,fun|9=>9|3=>3|4=>4|5=>5|46=>102|146=>115|51=>114|n=>n,fun|1=>2|n=>n⟩
theorem Tryd.lays143 :Go.Proofs.Lays.n143 Tryd.prog Tryd.lays143_ren:={
 mixed:=by kernel_rfl
 f143:=Tryd.func50.trans (congrArg some (by kernel_rfl))
 f217:=Tryd.func79.trans (congrArg some (by kernel_rfl))
 f219:=Tryd.func67.trans (congrArg some (by kernel_rfl))
 f224:=Tryd.func81.trans (congrArg some (by kernel_rfl))
 f225:=Tryd.func80.trans (congrArg some (by kernel_rfl))
 f266:=Tryd.func90.trans (congrArg some (by kernel_rfl))
 f267:=Tryd.func82.trans (congrArg some (by kernel_rfl))
 f314:=Tryd.func91.trans (congrArg some (by kernel_rfl))
 t3:=Tryd.underlying3
 a3:=Tryd.isAgg3
 z3:=Tryd.sizeOf3
 v3:=Tryd.zeroValue3
 t4:=Tryd.underlying4
 a4:=Tryd.isAgg4
 z4:=Tryd.sizeOf4
 v4:=Tryd.zeroValue4
 t5:=Tryd.underlying5
 a5:=Tryd.isAgg5
 z5:=Tryd.sizeOf5
 v5:=Tryd.zeroValue5
 t9:=Tryd.underlying9
 a9:=Tryd.isAgg9
 z9:=Tryd.sizeOf9
 v9:=Tryd.zeroValue9
 t46:=Tryd.underlying102
 a46:=Tryd.isAgg102
 z46:=Tryd.sizeOf102
 v46:=Tryd.zeroValue102
 t51:=Tryd.underlying114
 a51:=Tryd.isAgg114
 z51:=Tryd.sizeOf114
 v51:=Tryd.zeroValue114
 t146:=Tryd.underlying115
 a146:=Tryd.isAgg115
 z146:=Tryd.sizeOf115
 v146:=Tryd.zeroValue115
 g1:=by kernel_rfl}
open Go.RowKit Go.Lib in
theorem Tryd.strings_Index_one (s:ByteArray) (c:UInt8) (w:World):
 Calls Tryd.prog 50 #[.string s,.string ⟨#[c]⟩] w fun e w'=>e=.returned (.int .i64 (Lib.indexByte s.data.toList c))∧w'=w:=Any.strings_Index_one Tryd.lays143 s c w
def Tryd.lays138_ren :Go.Shelf.Ren:=⟨fun|138=>49|195=>64|218=>66|143=>50|219=>67|217=>79|225=>80|224=>81|267=>82|266=>90|314=>91|n=>n,fun|9=>9|3=>3|4=>4|5=>5|0=>0|46=>102|146=>115|51=>114|n=>n,fun|1=>2|n=>n⟩
theorem Tryd.lays138 :Go.Proofs.Lays.n138 Tryd.prog Tryd.lays138_ren:={
 mixed:=by kernel_rfl
 f138:=Tryd.func49.trans (congrArg some (by kernel_rfl))
 f143:=Tryd.func50.trans (congrArg some (by kernel_rfl))
 f195:=Tryd.func64.trans (congrArg some (by kernel_rfl))
 f217:=Tryd.func79.trans (congrArg some (by kernel_rfl))
 f218:=Tryd.func66.trans (congrArg some (by kernel_rfl))
 f219:=Tryd.func67.trans (congrArg some (by kernel_rfl))
 f224:=Tryd.func81.trans (congrArg some (by kernel_rfl))
 f225:=Tryd.func80.trans (congrArg some (by kernel_rfl))
 f266:=Tryd.func90.trans (congrArg some (by kernel_rfl))
 f267:=Tryd.func82.trans (congrArg some (by kernel_rfl))
 f314:=Tryd.func91.trans (congrArg some (by kernel_rfl))
 t0:=Tryd.underlying0
 a0:=Tryd.isAgg0
 z0:=Tryd.sizeOf0
 v0:=Tryd.zeroValue0
 t3:=Tryd.underlying3
 a3:=Tryd.isAgg3
 z3:=Tryd.sizeOf3
 v3:=Tryd.zeroValue3
 t4:=Tryd.underlying4
 a4:=Tryd.isAgg4
 z4:=Tryd.sizeOf4
 v4:=Tryd.zeroValue4
 t5:=Tryd.underlying5
 a5:=Tryd.isAgg5
 z5:=Tryd.sizeOf5
 v5:=Tryd.zeroValue5
 t9:=Tryd.underlying9
 a9:=Tryd.isAgg9
 z9:=Tryd.sizeOf9
 v9:=Tryd.zeroValue9
 t46:=Tryd.underlying102
 a46:=Tryd.isAgg102
 z46:=Tryd.sizeOf102
 v46:=Tryd.zeroValue102
 t51:=Tryd.underlying114
 a51:=Tryd.isAgg114
 z51:=Tryd.sizeOf114
 v51:=Tryd.zeroValue114
 t146:=Tryd.underlying115
 a146:=Tryd.isAgg115
 z146:=Tryd.sizeOf115
 v146:=Tryd.zeroValue115
 g1:=by kernel_rfl}
open Go.RowKit Go.Lib in
theorem Tryd.strings_Count_one (s:ByteArray) (c:UInt8) (w:World):
 Calls Tryd.prog 49 #[.string s,.string ⟨#[c]⟩] w fun e w'=>e=.returned (.int .i64 (Lib.countByte s.data.toList c))∧w'=w:=Any.strings_Count_one Tryd.lays138 s c w
def Tryd.lays146_ren :Go.Shelf.Ren:=⟨fun|146=>15|221=>32|268=>48|138=>49|143=>50|195=>64|197=>65|218=>66|219=>67|260=>78|217=>79|225=>80|224=>81|267=>82|266=>90|314=>91|n=>n,fun|9=>9|31=>31|3=>3|4=>4|0=>0|105=>90|21=>21|5=>5|46=>102|119=>110|139=>113|138=>112|146=>115|51=>114|n=>n,fun|1=>2|3=>3|4=>4|n=>n⟩
theorem Tryd.lays146 :Go.Proofs.Lays.n146 Tryd.prog Tryd.lays146_ren:={
 mixed:=by kernel_rfl
 f138:=Tryd.func49.trans (congrArg some (by kernel_rfl))
 f143:=Tryd.func50.trans (congrArg some (by kernel_rfl))
 f146:=Tryd.func15.trans (congrArg some (by kernel_rfl))
 f195:=Tryd.func64.trans (congrArg some (by kernel_rfl))
 f197:=Tryd.func65.trans (congrArg some (by kernel_rfl))
 f217:=Tryd.func79.trans (congrArg some (by kernel_rfl))
 f218:=Tryd.func66.trans (congrArg some (by kernel_rfl))
 f219:=Tryd.func67.trans (congrArg some (by kernel_rfl))
 f221:=Tryd.func32.trans (congrArg some (by kernel_rfl))
 f224:=Tryd.func81.trans (congrArg some (by kernel_rfl))
 f225:=Tryd.func80.trans (congrArg some (by kernel_rfl))
 f260:=Tryd.func78.trans (congrArg some (by kernel_rfl))
 f266:=Tryd.func90.trans (congrArg some (by kernel_rfl))
 f267:=Tryd.func82.trans (congrArg some (by kernel_rfl))
 f268:=Tryd.func48.trans (congrArg some (by kernel_rfl))
 f314:=Tryd.func91.trans (congrArg some (by kernel_rfl))
 t0:=Tryd.underlying0
 a0:=Tryd.isAgg0
 z0:=Tryd.sizeOf0
 v0:=Tryd.zeroValue0
 t3:=Tryd.underlying3
 a3:=Tryd.isAgg3
 z3:=Tryd.sizeOf3
 v3:=Tryd.zeroValue3
 t4:=Tryd.underlying4
 a4:=Tryd.isAgg4
 z4:=Tryd.sizeOf4
 v4:=Tryd.zeroValue4
 t5:=Tryd.underlying5
 a5:=Tryd.isAgg5
 z5:=Tryd.sizeOf5
 v5:=Tryd.zeroValue5
 t9:=Tryd.underlying9
 a9:=Tryd.isAgg9
 z9:=Tryd.sizeOf9
 v9:=Tryd.zeroValue9
 t21:=Tryd.underlying21
 a21:=Tryd.isAgg21
 z21:=Tryd.sizeOf21
 v21:=Tryd.zeroValue21
 t31:=Tryd.underlying31
 a31:=Tryd.isAgg31
 z31:=Tryd.sizeOf31
 v31:=Tryd.zeroValue31
 t46:=Tryd.underlying102
 a46:=Tryd.isAgg102
 z46:=Tryd.sizeOf102
 v46:=Tryd.zeroValue102
 t51:=Tryd.underlying114
 a51:=Tryd.isAgg114
 z51:=Tryd.sizeOf114
 v51:=Tryd.zeroValue114
 t105:=Tryd.underlying90
 a105:=Tryd.isAgg90
 z105:=Tryd.sizeOf90
 v105:=Tryd.zeroValue90
 t119:=Tryd.underlying110
 a119:=Tryd.isAgg110
 z119:=Tryd.sizeOf110
 t138:=Tryd.underlying112
 a138:=Tryd.isAgg112
 z138:=Tryd.sizeOf112
 v138:=Tryd.zeroValue112
 t139:=Tryd.underlying113
 a139:=Tryd.isAgg113
 z139:=Tryd.sizeOf113
 v139:=Tryd.zeroValue113
 t146:=Tryd.underlying115
 a146:=Tryd.isAgg115
 z146:=Tryd.sizeOf115
 v146:=Tryd.zeroValue115
 g1:=by kernel_rfl
 g3:=by kernel_rfl
 g4:=by kernel_rfl}
end Go.Proofs.YtjjobbamoeaogaaDoor
