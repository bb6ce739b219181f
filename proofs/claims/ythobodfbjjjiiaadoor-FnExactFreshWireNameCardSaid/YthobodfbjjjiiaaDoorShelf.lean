import Derived.Shelf.Strings.Builder1
import Derived.Shelf.Strings.Builder2
import Derived.Shelf.Strings.OnBuilder
import Derived.Shelf.Small.Wraps
import Derived.Shelf.Strings.BuilderF
import Derived.Shelf.Strings.BuilderK
import Derived.Shelf.Utf8.RuneCount
import Derived.Shelf.Strings.Builder2Cap
import Derived.Shelf.Strconv.Itoa0
import Derived.Shelf.Strconv.Itoa1
import Derived.Shelf.LaysM
import Derived.Shelf.Strconv.Itoa2
import Derived.Shelf.Strconv.Itoa3
import Derived.Shelf.Strings.Search1
import Derived.Shelf.Strings.Search2
import Derived.Shelf.Strings.Search3
import Derived.Shelf.Strings.Count
import Derived.Shelf.Strings.Shaped
import Derived.Shelf.Strings.Prefix
import Derived.Shelf.Strings.Split
import Derived.Shelf.Strings.SplitShaped
import Derived.Shelf.Unicode.Decode
import Derived.Shelf.Strings.RuneCount
import Derived.Shelf.Strings.Explode
import Derived.Shelf.Unicode.DecodeSlow
import Derived.Shelf.Unicode.DecodeAny
import Derived.Shelf.Strings.BuilderCap
import Derived.Shelf.Slices.Turned
import Derived.Shelf.Slices.Equal
import Derived.Ground.Names2Prog
import Derived.Shelf.Slices.Clone
import Derived.Shelf.Slices.Empties2
import Derived.Ground.SlgnProg
import Derived.Shelf.SlicesE.Clone
import Derived.Test.YthobodfbjjjiiaaDoorProg
namespace Go.Proofs.YthobodfbjjjiiaaDoor
open Go.Shelf
set_option linter.unusedVariables false
def Tryd.lays156_ren :Go.Shelf.Ren:=⟨fun|156=>37|165=>76|166=>77|169=>78|240=>117|241=>118|276=>146|277=>147|n=>n,fun|31=>66|9=>9|3=>3|4=>4|0=>0|20=>20|72=>114|76=>118|70=>112|37=>111|75=>117|127=>161|164=>184|5=>5|80=>120|n=>n,fun|n=>n⟩
theorem Tryd.lays156 :Go.Proofs.Lays.n156 Tryd.prog Tryd.lays156_ren:={
 mixed:=by kernel_rfl
 f156:=Tryd.func37.trans (congrArg some (by kernel_rfl))
 f165:=Tryd.func76.trans (congrArg some (by kernel_rfl))
 f166:=Tryd.func77.trans (congrArg some (by kernel_rfl))
 f169:=Tryd.func78.trans (congrArg some (by kernel_rfl))
 f240:=Tryd.func117.trans (congrArg some (by kernel_rfl))
 f241:=Tryd.func118.trans (congrArg some (by kernel_rfl))
 f276:=Tryd.func146.trans (congrArg some (by kernel_rfl))
 f277:=Tryd.func147.trans (congrArg some (by kernel_rfl))
 t0:=Tryd.underlying0
 a0:=Tryd.isAgg0
 z0:=Tryd.sizeOf0
 v0:=Tryd.zeroValue0
 t3:=Tryd.underlying3
 a3:=Tryd.isAgg3
 z3:=Tryd.sizeOf3
 v3:=Tryd.zeroValue3
 t4:=Tryd.underlying4
 a4:=Tryd.isAgg4
 z4:=Tryd.sizeOf4
 v4:=Tryd.zeroValue4
 t9:=Tryd.underlying9
 a9:=Tryd.isAgg9
 z9:=Tryd.sizeOf9
 v9:=Tryd.zeroValue9
 t20:=Tryd.underlying20
 a20:=Tryd.isAgg20
 z20:=Tryd.sizeOf20
 v20:=Tryd.zeroValue20
 t31:=Tryd.underlying66
 a31:=Tryd.isAgg66
 z31:=Tryd.sizeOf66
 v31:=Tryd.zeroValue66
 t37:=Tryd.underlying111
 a37:=Tryd.isAgg111
 z37:=Tryd.sizeOf111
 v37:=Tryd.zeroValue111
 t70:=Tryd.underlying112
 a70:=Tryd.isAgg112
 z70:=Tryd.sizeOf112
 v70:=Tryd.zeroValue112
 t72:=Tryd.underlying114
 a72:=Tryd.isAgg114
 z72:=Tryd.sizeOf114
 v72:=Tryd.zeroValue114
 t75:=Tryd.underlying117
 a75:=Tryd.isAgg117
 z75:=Tryd.sizeOf117
 v75:=Tryd.zeroValue117
 t76:=Tryd.underlying118
 a76:=Tryd.isAgg118
 z76:=Tryd.sizeOf118
 v76:=Tryd.zeroValue118
 t127:=Tryd.underlying161
 a127:=Tryd.isAgg161
 z127:=Tryd.sizeOf161
 v127:=Tryd.zeroValue161
 t164:=Tryd.underlying184
 a164:=Tryd.isAgg184
 z164:=Tryd.sizeOf184
 v164:=Tryd.zeroValue184}
theorem Tryd.Builder_Extra_156 :Builder.Extra Tryd.prog Tryd.lays156_ren:={
 sizeBuilder:=by kernel_rfl
 liesBuilder:=by kernel_rfl
 t5:=Tryd.underlying5
 a5:=Tryd.isAgg5
 z5:=Tryd.sizeOf5
 v5:=Tryd.zeroValue5
 infoByte:=by kernel_rfl
 cellsByte:=by kernel_rfl
 sizeByte:=by kernel_rfl
 neB5:=by decide}
open Go.RowKit in
theorem Tryd.strings_Join_none (a:Option Addr) (c:Nat) (sep:ByteArray) (w:World):
 Calls Tryd.prog 37 #[.slice a 0 c,.string sep] w fun e w'=>e=.returned (.string ⟨#[]⟩)∧w'=w:=Any.strings_Join_none Tryd.lays156 Tryd.Builder_Extra_156 a c sep w
open Go.RowKit in
theorem Tryd.strings_Join (bk o c:Nat) (xs:List ByteArray) (sep:ByteArray) (w:World) (hcells:∀(j:Nat) x,xs[j]?=some x→w.cell? ⟨bk,o+j,none⟩=some (.string x)) (hbk:bk<w.heap.size) (hN:xs.length≤140737488355328) (hcap:xs.length≤c) (hlen:(Lib.join (xs.map (·.data.toList)) sep.data.toList).length≤140737488355328):
 Calls Tryd.prog 37 #[.slice (some ⟨bk,o,none⟩) xs.length c,.string sep] w fun e w'=>e=.returned (.string ⟨(Lib.join (xs.map (·.data.toList)) sep.data.toList).toArray⟩)∧Below w.heap.size w w':=Any.strings_Join Tryd.lays156 Tryd.Builder_Extra_156 bk o c xs sep w hcells hbk hN hcap hlen
def Tryd.laysM171_ren :Go.Shelf.Ren:=⟨fun|171=>36|243=>75|246=>116|283=>142|284=>143|285=>144|286=>145|129=>159|317=>158|318=>160|319=>161|320=>162|337=>168|338=>169|n=>n,fun|3=>3|9=>9|2=>2|4=>4|171=>178|0=>0|53=>179|37=>111|5=>5|173=>182|212=>199|51=>200|20=>20|213=>201|46=>203|232=>212|233=>213|n=>n,fun|17=>2|18=>6|19=>7|n=>n⟩
theorem Tryd.laysM171 :Go.Proofs.LaysM.n171 Tryd.prog Tryd.laysM171_ren:={
 mixed:=by kernel_rfl
 f129:=Tryd.func159.trans (congrArg some (by kernel_rfl))
 f171:=Tryd.func36.trans (congrArg some (by kernel_rfl))
 f243:=Tryd.func75.trans (congrArg some (by kernel_rfl))
 f246:=Tryd.func116.trans (congrArg some (by kernel_rfl))
 f283:=Tryd.func142.trans (congrArg some (by kernel_rfl))
 f284:=Tryd.func143.trans (congrArg some (by kernel_rfl))
 f285:=Tryd.func144.trans (congrArg some (by kernel_rfl))
 f286:=Tryd.func145.trans (congrArg some (by kernel_rfl))
 f317:=Tryd.func158.trans (congrArg some (by kernel_rfl))
 f318:=Tryd.func160.trans (congrArg some (by kernel_rfl))
 f319:=Tryd.func161.trans (congrArg some (by kernel_rfl))
 f320:=Tryd.func162.trans (congrArg some (by kernel_rfl))
 f337:=Tryd.func168.trans (congrArg some (by kernel_rfl))
 f338:=Tryd.func169.trans (congrArg some (by kernel_rfl))
 t0:=Tryd.underlying0
 a0:=Tryd.isAgg0
 z0:=Tryd.sizeOf0
 v0:=Tryd.zeroValue0
 t2:=Tryd.underlying2
 a2:=Tryd.isAgg2
 z2:=Tryd.sizeOf2
 v2:=Tryd.zeroValue2
 t3:=Tryd.underlying3
 a3:=Tryd.isAgg3
 z3:=Tryd.sizeOf3
 v3:=Tryd.zeroValue3
 t4:=Tryd.underlying4
 a4:=Tryd.isAgg4
 z4:=Tryd.sizeOf4
 v4:=Tryd.zeroValue4
 t5:=Tryd.underlying5
 a5:=Tryd.isAgg5
 z5:=Tryd.sizeOf5
 v5:=Tryd.zeroValue5
 t9:=Tryd.underlying9
 a9:=Tryd.isAgg9
 z9:=Tryd.sizeOf9
 v9:=Tryd.zeroValue9
 t20:=Tryd.underlying20
 a20:=Tryd.isAgg20
 z20:=Tryd.sizeOf20
 v20:=Tryd.zeroValue20
 t37:=Tryd.underlying111
 a37:=Tryd.isAgg111
 z37:=Tryd.sizeOf111
 v37:=Tryd.zeroValue111
 t46:=Tryd.underlying203
 a46:=Tryd.isAgg203
 z46:=Tryd.sizeOf203
 v46:=Tryd.zeroValue203
 t51:=Tryd.underlying200
 a51:=Tryd.isAgg200
 z51:=Tryd.sizeOf200
 v51:=Tryd.zeroValue200
 t53:=Tryd.underlying179
 a53:=Tryd.isAgg179
 z53:=Tryd.sizeOf179
 v53:=Tryd.zeroValue179
 t171:=Tryd.underlying178
 a171:=Tryd.isAgg178
 z171:=Tryd.sizeOf178
 v171:=Tryd.zeroValue178
 t173:=Tryd.underlying182
 a173:=Tryd.isAgg182
 z173:=Tryd.sizeOf182
 v173:=Tryd.zeroValue182
 t212:=Tryd.underlying199
 a212:=Tryd.isAgg199
 z212:=Tryd.sizeOf199
 v212:=Tryd.zeroValue199
 t213:=Tryd.underlying201
 a213:=Tryd.isAgg201
 z213:=Tryd.sizeOf201
 t232:=Tryd.underlying212
 a232:=Tryd.isAgg212
 z232:=Tryd.sizeOf212
 v232:=Tryd.zeroValue212
 t233:=Tryd.underlying213
 a233:=Tryd.isAgg213
 z233:=Tryd.sizeOf213
 v233:=Tryd.zeroValue213
 g17:=by kernel_rfl
 g18:=by kernel_rfl
 g19:=by kernel_rfl
 i0:=by kernel_rfl
 i2:=by kernel_rfl
 i3:=by kernel_rfl
 i4:=by kernel_rfl
 i5:=by kernel_rfl
 i9:=by kernel_rfl
 i20:=by kernel_rfl
 i37:=by kernel_rfl
 i46:=by kernel_rfl
 i51:=by kernel_rfl
 i53:=by kernel_rfl
 i171:=by kernel_rfl
 i173:=by kernel_rfl
 i212:=by kernel_rfl
 i232:=by kernel_rfl
 i233:=by kernel_rfl
 m17:=by kernel_rfl
 m18:=by kernel_rfl
 m19:=by kernel_rfl}
open Go.RowKit Go.Sort Go.Lib in
theorem Tryd.strconv_Itoa (n:Int) (h0: -9223372036854775808≤n) (h1:n≤9223372036854775807) (w:World) (htab:Lib.TabIs Tryd.prog w "internal/strconv.uint64pow10" .u64 Lib.pow10Tab):
 Calls Tryd.prog 36 #[.int .i64 n] w fun e w'=>e=.returned (.string ⟨(Lib.itoa n).toArray⟩)∧∃k os,w'=grow (w.drewN k) os:=Any.strconv_Itoa Tryd.laysM171 n h0 h1 w htab
end Go.Proofs.YthobodfbjjjiiaaDoor
