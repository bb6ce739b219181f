import Derived.Shelf.Strings.Builder1
import Derived.Shelf.Strings.Builder2
import Derived.Shelf.Strings.OnBuilder
import Derived.Shelf.Small.Wraps
import Derived.Shelf.Strings.BuilderF
import Derived.Shelf.Strings.BuilderK
import Derived.Shelf.Utf8.RuneCount
import Derived.Shelf.Strings.Builder2Cap
import Derived.Shelf.Strconv.Itoa0
import Derived.Shelf.Strconv.Itoa1
import Derived.Shelf.LaysM
import Derived.Shelf.Strconv.Itoa2
import Derived.Shelf.Strconv.Itoa3
import Derived.Shelf.Strings.Search1
import Derived.Shelf.Strings.Search2
import Derived.Shelf.Strings.Search3
import Derived.Shelf.Strings.Count
import Derived.Shelf.Strings.Shaped
import Derived.Shelf.Strings.Prefix
import Derived.Shelf.Strings.Split
import Derived.Shelf.Strings.SplitShaped
import Derived.Shelf.Unicode.Decode
import Derived.Shelf.Strings.RuneCount
import Derived.Shelf.Strings.Explode
import Derived.Shelf.Unicode.DecodeSlow
import Derived.Shelf.Unicode.DecodeAny
import Derived.Shelf.Strings.BuilderCap
import Derived.Shelf.Slices.Turned
import Derived.Shelf.Slices.Equal
import Derived.Ground.Names2Prog
import Derived.Shelf.Slices.Clone
import Derived.Shelf.Slices.Empties2
import Derived.Test.YtkgnjijonikchaaDoorProg
namespace Go.Proofs.YtkgnjijonikchaaDoor
open Go.Shelf
set_option linter.unusedVariables false
def Tryd.lays156_ren :Go.Shelf.Ren:=⟨fun|156=>83|165=>107|166=>108|169=>109|240=>123|241=>124|276=>135|277=>136|n=>n,fun|31=>50|9=>9|3=>3|4=>4|0=>0|20=>20|72=>137|76=>141|70=>135|37=>122|75=>140|127=>156|164=>166|5=>5|80=>143|n=>n,fun|n=>n⟩
theorem Tryd.lays156 :Go.Proofs.Lays.n156 Tryd.prog Tryd.lays156_ren:={
 mixed:=by kernel_rfl
 f156:=Tryd.func83.trans (congrArg some (by kernel_rfl))
 f165:=Tryd.func107.trans (congrArg some (by kernel_rfl))
 f166:=Tryd.func108.trans (congrArg some (by kernel_rfl))
 f169:=Tryd.func109.trans (congrArg some (by kernel_rfl))
 f240:=Tryd.func123.trans (congrArg some (by kernel_rfl))
 f241:=Tryd.func124.trans (congrArg some (by kernel_rfl))
 f276:=Tryd.func135.trans (congrArg some (by kernel_rfl))
 f277:=Tryd.func136.trans (congrArg some (by kernel_rfl))
 t0:=Tryd.underlying0
 a0:=Tryd.isAgg0
 z0:=Tryd.sizeOf0
 v0:=Tryd.zeroValue0
 t3:=Tryd.underlying3
 a3:=Tryd.isAgg3
 z3:=Tryd.sizeOf3
 v3:=Tryd.zeroValue3
 t4:=Tryd.underlying4
 a4:=Tryd.isAgg4
 z4:=Tryd.sizeOf4
 v4:=Tryd.zeroValue4
 t9:=Tryd.underlying9
 a9:=Tryd.isAgg9
 z9:=Tryd.sizeOf9
 v9:=Tryd.zeroValue9
 t20:=Tryd.underlying20
 a20:=Tryd.isAgg20
 z20:=Tryd.sizeOf20
 v20:=Tryd.zeroValue20
 t31:=Tryd.underlying50
 a31:=Tryd.isAgg50
 z31:=Tryd.sizeOf50
 v31:=Tryd.zeroValue50
 t37:=Tryd.underlying122
 a37:=Tryd.isAgg122
 z37:=Tryd.sizeOf122
 v37:=Tryd.zeroValue122
 t70:=Tryd.underlying135
 a70:=Tryd.isAgg135
 z70:=Tryd.sizeOf135
 v70:=Tryd.zeroValue135
 t72:=Tryd.underlying137
 a72:=Tryd.isAgg137
 z72:=Tryd.sizeOf137
 v72:=Tryd.zeroValue137
 t75:=Tryd.underlying140
 a75:=Tryd.isAgg140
 z75:=Tryd.sizeOf140
 v75:=Tryd.zeroValue140
 t76:=Tryd.underlying141
 a76:=Tryd.isAgg141
 z76:=Tryd.sizeOf141
 v76:=Tryd.zeroValue141
 t127:=Tryd.underlying156
 a127:=Tryd.isAgg156
 z127:=Tryd.sizeOf156
 v127:=Tryd.zeroValue156
 t164:=Tryd.underlying166
 a164:=Tryd.isAgg166
 z164:=Tryd.sizeOf166
 v164:=Tryd.zeroValue166}
theorem Tryd.Builder_Extra_156 :Builder.Extra Tryd.prog Tryd.lays156_ren:={
 sizeBuilder:=by kernel_rfl
 liesBuilder:=by kernel_rfl
 t5:=Tryd.underlying5
 a5:=Tryd.isAgg5
 z5:=Tryd.sizeOf5
 v5:=Tryd.zeroValue5
 infoByte:=by kernel_rfl
 cellsByte:=by kernel_rfl
 sizeByte:=by kernel_rfl
 neB5:=by decide}
open Go.RowKit in
theorem Tryd.strings_Join_none (a:Option Addr) (c:Nat) (sep:ByteArray) (w:World):
 Calls Tryd.prog 83 #[.slice a 0 c,.string sep] w fun e w'=>e=.returned (.string ⟨#[]⟩)∧w'=w:=Any.strings_Join_none Tryd.lays156 Tryd.Builder_Extra_156 a c sep w
open Go.RowKit in
theorem Tryd.strings_Join (bk o c:Nat) (xs:List ByteArray) (sep:ByteArray) (w:World) (hcells:∀(j:Nat) x,xs[j]?=some x→w.cell? ⟨bk,o+j,none⟩=some (.string x)) (hbk:bk<w.heap.size) (hN:xs.length≤140737488355328) (hcap:xs.length≤c) (hlen:(Lib.join (xs.map (·.data.toList)) sep.data.toList).length≤140737488355328):
 Calls Tryd.prog 83 #[.slice (some ⟨bk,o,none⟩) xs.length c,.string sep] w fun e w'=>e=.returned (.string ⟨(Lib.join (xs.map (·.data.toList)) sep.data.toList).toArray⟩)∧Below w.heap.size w w':=Any.strings_Join Tryd.lays156 Tryd.Builder_Extra_156 bk o c xs sep w hcells hbk hN hcap hlen
def Tryd.laysM171_ren :Go.Shelf.Ren:=⟨fun|171=>66|243=>99|246=>117|283=>126|284=>127|285=>128|286=>129|129=>138|317=>137|318=>139|319=>140|320=>141|337=>144|338=>145|n=>n,fun|3=>3|9=>9|2=>2|4=>4|171=>158|0=>0|53=>159|37=>122|5=>5|173=>162|212=>170|51=>171|20=>20|213=>172|46=>165|232=>182|233=>183|n=>n,fun|17=>3|18=>6|19=>7|n=>n⟩
theorem Tryd.laysM171 :Go.Proofs.LaysM.n171 Tryd.prog Tryd.laysM171_ren:={
 mixed:=by kernel_rfl
 f129:=Tryd.func138.trans (congrArg some (by kernel_rfl))
 f171:=Tryd.func66.trans (congrArg some (by kernel_rfl))
 f243:=Tryd.func99.trans (congrArg some (by kernel_rfl))
 f246:=Tryd.func117.trans (congrArg some (by kernel_rfl))
 f283:=Tryd.func126.trans (congrArg some (by kernel_rfl))
 f284:=Tryd.func127.trans (congrArg some (by kernel_rfl))
 f285:=Tryd.func128.trans (congrArg some (by kernel_rfl))
 f286:=Tryd.func129.trans (congrArg some (by kernel_rfl))
 f317:=Tryd.func137.trans (congrArg some (by kernel_rfl))
 f318:=Tryd.func139.trans (congrArg some (by kernel_rfl))
 f319:=Tryd.func140.trans (congrArg some (by kernel_rfl))
 f320:=Tryd.func141.trans (congrArg some (by kernel_rfl))
 f337:=Tryd.func144.trans (congrArg some (by kernel_rfl))
 f338:=Tryd.func145.trans (congrArg some (by kernel_rfl))
 t0:=Tryd.underlying0
 a0:=Tryd.isAgg0
 z0:=Tryd.sizeOf0
 v0:=Tryd.zeroValue0
 t2:=Tryd.underlying2
 a2:=Tryd.isAgg2
 z2:=Tryd.sizeOf2
 v2:=Tryd.zeroValue2
 t3:=Tryd.underlying3
 a3:=Tryd.isAgg3
 z3:=Tryd.sizeOf3
 v3:=Tryd.zeroValue3
 t4:=Tryd.underlying4
 a4:=Tryd.isAgg4
 z4:=Tryd.sizeOf4
 v4:=Tryd.zeroValue4
 t5:=Tryd.underlying5
 a5:=Tryd.isAgg5
 z5:=Tryd.sizeOf5
 v5:=Tryd.zeroValue5
 t9:=Tryd.underlying9
 a9:=Tryd.isAgg9
 z9:=Tryd.sizeOf9
 v9:=Tryd.zeroValue9
 t20:=Tryd.underlying20
 a20:=Tryd.isAgg20
 z20:=Tryd.sizeOf20
 v20:=Tryd.zeroValue20
 t37:=Tryd.underlying122
 a37:=Tryd.isAgg122
 z37:=Tryd.sizeOf122
 v37:=Tryd.zeroValue122
 t46:=Tryd.underlying165
 a46:=Tryd.isAgg165
 z46:=Tryd.sizeOf165
 v46:=Tryd.zeroValue165
 t51:=Tryd.underlying171
 a51:=Tryd.isAgg171
 z51:=Tryd.sizeOf171
 v51:=Tryd.zeroValue171
 t53:=Tryd.underlying159
 a53:=Tryd.isAgg159
 z53:=Tryd.sizeOf159
 v53:=Tryd.zeroValue159
 t171:=Tryd.underlying158
 a171:=Tryd.isAgg158
 z171:=Tryd.sizeOf158
 v171:=Tryd.zeroValue158
 t173:=Tryd.underlying162
 a173:=Tryd.isAgg162
 z173:=Tryd.sizeOf162
 v173:=Tryd.zeroValue162
 t212:=Tryd.underlying170
 a212:=Tryd.isAgg170
 z212:=Tryd.sizeOf170
 v212:=Tryd.zeroValue170
 t213:=Tryd.underlying172
 a213:=Tryd.isAgg172
 z213:=Tryd.sizeOf172
 t232:=Tryd.underlying182
 a232:=Tryd.isAgg182
 z232:=Tryd.sizeOf182
 v232:=Tryd.zeroValue182
 t233:=Tryd.underlying183
 a233:=Tryd.isAgg183
 z233:=Tryd.sizeOf183
 v233:=Tryd.zeroValue183
 g17:=by kernel_rfl
 g18:=by kernel_rfl
 g19:=by kernel_rfl
 i0:=by kernel_rfl
 i2:=by kernel_rfl
 i3:=by kernel_rfl
 i4:=by kernel_rfl
 i5:=by kernel_rfl
 i9:=by kernel_rfl
 i20:=by kernel_rfl
 i37:=by kernel_rfl
 i46:=by kernel_rfl
 i51:=by kernel_rfl
 i53:=by kernel_rfl
 i171:=by kernel_rfl
 i173:=by kernel_rfl
 i212:=by kernel_rfl
 i232:=by kernel_rfl
 i233:=by kernel_rfl
 m17:=by kernel_rfl
 m18:=by kernel_rfl
 m19:=by kernel_rfl}
open Go.RowKit Go.Sort Go.Lib in
theorem Tryd.strconv_Itoa (n:Int) (h0: -9223372036854775808≤n) (h1:n≤9223372036854775807) (w:World) (htab:Lib.TabIs Tryd.prog w "internal/strconv.uint64pow10" .u64 Lib.pow10Tab):
 Calls Tryd.prog 66 #[.int .i64 n] w fun e w'=>e=.returned (.string ⟨(Lib.itoa n).toArray⟩)∧∃k os,w'=grow (w.drewN k) os:=Any.strconv_Itoa Tryd.laysM171 n h0 h1 w htab
def Tryd.laysNm216_ren :Go.Shelf.Ren:=⟨fun|16=>26|n=>n,fun|24=>50|9=>9|4=>4|n=>n,fun|n=>n⟩
theorem Tryd.laysNm216 :Go.Proofs.Lays2.n16 Tryd.prog Tryd.laysNm216_ren:={
 mixed:=by kernel_rfl
 f16:=Tryd.func26.trans (congrArg some (by kernel_rfl))
 t4:=Tryd.underlying4
 a4:=Tryd.isAgg4
 z4:=Tryd.sizeOf4
 v4:=Tryd.zeroValue4
 t9:=Tryd.underlying9
 a9:=Tryd.isAgg9
 z9:=Tryd.sizeOf9
 v9:=Tryd.zeroValue9
 t24:=Tryd.underlying50
 a24:=Tryd.isAgg50
 z24:=Tryd.sizeOf50
 v24:=Tryd.zeroValue50
 i9:=by kernel_rfl}
open Go.RowKit Go.Lib in
theorem Tryd.slices_Clone_string (b off n c:Nat) (zs:List ByteArray) (w:World) (hz:n≤zs.length) (hbig:n * 16≤140737488355328) (hc:∀j,j<zs.length→w.cell? ⟨b,off+j,none⟩=some (.string (zs.getD j ByteArray.empty))):
 Calls Tryd.prog 26 #[.slice (some ⟨b,off,none⟩) n c] w fun e w'=>∃v',e=.returned v'∧w'.ownsRow w.heap.size 9 1 v' n ((zs.take n).map (Value.string))∧v'≠.slice none 0 0∧Below w.heap.size w w':=Any.slices_Clone_string Tryd.laysNm216 b off n c zs w hz hbig hc
open Go.RowKit Go.Lib in
theorem Tryd.slices_Clone_string_nil (n c:Nat) (w:World):
 Calls Tryd.prog 26 #[.slice none n c] w fun e w'=>e=.returned (.slice none 0 0)∧w'=w:=Any.slices_Clone_string_nil Tryd.laysNm216 n c w
open Go.RowKit Go.Lib in
theorem Tryd.slices_Clone_string_zero (a:Addr) (c:Nat) (w:World):
 Calls Tryd.prog 26 #[.slice (some a) 0 c] w fun e w'=>∃v',e=.returned v'∧w'.ownsRow w.heap.size 9 1 v' 0 []∧v'≠.slice none 0 0∧Below w.heap.size w w':=Any.slices_Clone_string_zero Tryd.laysNm216 a c w
end Go.Proofs.YtkgnjijonikchaaDoor
