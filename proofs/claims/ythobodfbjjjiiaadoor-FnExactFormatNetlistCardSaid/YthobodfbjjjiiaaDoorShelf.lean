import Derived.Shelf.Strings.Builder1
import Derived.Shelf.Strings.Builder2
import Derived.Shelf.Strings.OnBuilder
import Derived.Shelf.Small.Wraps
import Derived.Shelf.Strings.BuilderF
import Derived.Shelf.Strings.BuilderK
import Derived.Shelf.Utf8.RuneCount
import Derived.Shelf.Strings.Builder2Cap
import Derived.Shelf.Strconv.Itoa0
import Derived.Shelf.Strconv.Itoa1
import Derived.Shelf.LaysM
import Derived.Shelf.Strconv.Itoa2
import Derived.Shelf.Strconv.Itoa3
import Derived.Shelf.Strings.Search1
import Derived.Shelf.Strings.Search2
import Derived.Shelf.Strings.Search3
import Derived.Shelf.Strings.Count
import Derived.Shelf.Strings.Shaped
import Derived.Shelf.Strings.Prefix
import Derived.Shelf.Strings.Split
import Derived.Shelf.Strings.SplitShaped
import Derived.Shelf.Unicode.Decode
import Derived.Shelf.Strings.RuneCount
import Derived.Shelf.Strings.Explode
import Derived.Shelf.Unicode.DecodeSlow
import Derived.Shelf.Unicode.DecodeAny
import Derived.Shelf.Strings.BuilderCap
import Derived.Shelf.Slices.Turned
import Derived.Shelf.Slices.Equal
import Derived.Ground.Names2Prog
import Derived.Shelf.Slices.Clone
import Derived.Shelf.Slices.Empties2
import Derived.Ground.SlgnProg
import Derived.Shelf.SlicesE.Clone
import Derived.Test.YthobodfbjjjiiaaDoorProg
namespace Go.Proofs.YthobodfbjjjiiaaDoor
open Go.Shelf
set_option linter.unusedVariables false
def Tryd.lays156_ren :Go.Shelf.Ren:=⟨fun|156=>37|165=>76|166=>77|169=>78|240=>117|241=>118|276=>146|277=>147|n=>n,fun|31=>66|9=>9|3=>3|4=>4|0=>0|20=>20|72=>114|76=>118|70=>112|37=>111|75=>117|127=>161|164=>184|5=>5|80=>120|n=>n,fun|n=>n⟩
theorem Tryd.lays156 :Go.Proofs.Lays.n156 Tryd.prog Tryd.lays156_ren:={
 mixed:=by kernel_rfl
 f156:=Tryd.func37.trans (congrArg some (by kernel_rfl))
 f165:=Tryd.func76.trans (congrArg some (by kernel_rfl))
 f166:=Tryd.func77.trans (congrArg some (by kernel_rfl))
 f169:=Tryd.func78.trans (congrArg some (by kernel_rfl))
 f240:=Tryd.func117.trans (congrArg some (by kernel_rfl))
 f241:=Tryd.func118.trans (congrArg some (by kernel_rfl))
 f276:=Tryd.func146.trans (congrArg some (by kernel_rfl))
 f277:=Tryd.func147.trans (congrArg some (by kernel_rfl))
 t0:=Tryd.underlying0
 a0:=Tryd.isAgg0
 z0:=Tryd.sizeOf0
 v0:=Tryd.zeroValue0
 t3:=Tryd.underlying3
 a3:=Tryd.isAgg3
 z3:=Tryd.sizeOf3
 v3:=Tryd.zeroValue3
 t4:=Tryd.underlying4
 a4:=Tryd.isAgg4
 z4:=Tryd.sizeOf4
 v4:=Tryd.zeroValue4
 t9:=Tryd.underlying9
 a9:=Tryd.isAgg9
 z9:=Tryd.sizeOf9
 v9:=Tryd.zeroValue9
 t20:=Tryd.underlying20
 a20:=Tryd.isAgg20
 z20:=Tryd.sizeOf20
 v20:=Tryd.zeroValue20
 t31:=Tryd.underlying66
 a31:=Tryd.isAgg66
 z31:=Tryd.sizeOf66
 v31:=Tryd.zeroValue66
 t37:=Tryd.underlying111
 a37:=Tryd.isAgg111
 z37:=Tryd.sizeOf111
 v37:=Tryd.zeroValue111
 t70:=Tryd.underlying112
 a70:=Tryd.isAgg112
 z70:=Tryd.sizeOf112
 v70:=Tryd.zeroValue112
 t72:=Tryd.underlying114
 a72:=Tryd.isAgg114
 z72:=Tryd.sizeOf114
 v72:=Tryd.zeroValue114
 t75:=Tryd.underlying117
 a75:=Tryd.isAgg117
 z75:=Tryd.sizeOf117
 v75:=Tryd.zeroValue117
 t76:=Tryd.underlying118
 a76:=Tryd.isAgg118
 z76:=Tryd.sizeOf118
 v76:=Tryd.zeroValue118
 t127:=Tryd.underlying161
 a127:=Tryd.isAgg161
 z127:=Tryd.sizeOf161
 v127:=Tryd.zeroValue161
 t164:=Tryd.underlying184
 a164:=Tryd.isAgg184
 z164:=Tryd.sizeOf184
 v164:=Tryd.zeroValue184}
theorem Tryd.Builder_Extra_156 :Builder.Extra Tryd.prog Tryd.lays156_ren:={
 sizeBuilder:=by kernel_rfl
 liesBuilder:=by kernel_rfl
 t5:=Tryd.underlying5
 a5:=Tryd.isAgg5
 z5:=Tryd.sizeOf5
 v5:=Tryd.zeroValue5
 infoByte:=by kernel_rfl
 cellsByte:=by kernel_rfl
 sizeByte:=by kernel_rfl
 neB5:=by decide}
open Go.RowKit in
theorem Tryd.strings_Join_none (a:Option Addr) (c:Nat) (sep:ByteArray) (w:World):
 Calls Tryd.prog 37 #[.slice a 0 c,.string sep] w fun e w'=>e=.returned (.string ⟨#[]⟩)∧w'=w:=Any.strings_Join_none Tryd.lays156 Tryd.Builder_Extra_156 a c sep w
open Go.RowKit in
theorem Tryd.strings_Join (bk o c:Nat) (xs:List ByteArray) (sep:ByteArray) (w:World) (hcells:∀(j:Nat) x,xs[j]?=some x→w.cell? ⟨bk,o+j,none⟩=some (.string x)) (hbk:bk<w.heap.size) (hN:xs.length≤140737488355328) (hcap:xs.length≤c) (hlen:(Lib.join (xs.map (·.data.toList)) sep.data.toList).length≤140737488355328):
 Calls Tryd.prog 37 #[.slice (some ⟨bk,o,none⟩) xs.length c,.string sep] w fun e w'=>e=.returned (.string ⟨(Lib.join (xs.map (·.data.toList)) sep.data.toList).toArray⟩)∧Below w.heap.size w w':=Any.strings_Join Tryd.lays156 Tryd.Builder_Extra_156 bk o c xs sep w hcells hbk hN hcap hlen
end Go.Proofs.YthobodfbjjjiiaaDoor
