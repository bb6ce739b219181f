/-
  CONTRACTS OF THE LIBRARY at this program, as the kit's shelf lays them (in plain words).
-/
import Derived.Shelf.Strings.Builder1
import Derived.Shelf.Strings.Builder2
import Derived.Shelf.Strings.BuilderF
import Derived.Shelf.Strings.Search1
import Derived.Shelf.Strings.Search2
import Derived.Shelf.Strings.Search3
import Derived.Shelf.LaysM
import Derived.Shelf.Strings.Shaped
import Derived.Shelf.Strings.Prefix
import Derived.Shelf.Bits.Mul64
import Derived.Shelf.Strings.Repeat
import Derived.Shelf.Slices.Turned
import Derived.Test.YtidjggipnfapfaaProg
namespace Go.Proofs.Ytidjggipnfapfaa
open Go.Shelf
set_option linter.unusedVariables false
def Try.lays144_ren : Go.Shelf.Ren := ⟨fun | 144 => 153 | 143 => 191 | 219 => 207 | 217 => 210 | 225 => 211 | 224 => 212 | 267 => 213 | 266 => 214 | 314 => 215 | n => n, fun | 9 => 9 | 4 => 4 | 3 => 3 | 5 => 5 | 46 => 110 | 146 => 232 | 51 => 231 | n => n, fun | 1 => 0 | n => n⟩
theorem Try.lays144 : Go.Proofs.Lays.n144 Try.prog Try.lays144_ren := {
  mixed := by kernel_rfl
  f143 := Try.func191.trans (congrArg some (by kernel_rfl))
  f144 := Try.func153.trans (congrArg some (by kernel_rfl))
  f217 := Try.func210.trans (congrArg some (by kernel_rfl))
  f219 := Try.func207.trans (congrArg some (by kernel_rfl))
  f224 := Try.func212.trans (congrArg some (by kernel_rfl))
  f225 := Try.func211.trans (congrArg some (by kernel_rfl))
  f266 := Try.func214.trans (congrArg some (by kernel_rfl))
  f267 := Try.func213.trans (congrArg some (by kernel_rfl))
  f314 := Try.func215.trans (congrArg some (by kernel_rfl))
  t3 := Try.underlying3
  a3 := Try.isAgg3
  z3 := Try.sizeOf3
  v3 := Try.zeroValue3
  t4 := Try.underlying4
  a4 := Try.isAgg4
  z4 := Try.sizeOf4
  v4 := Try.zeroValue4
  t5 := Try.underlying5
  a5 := Try.isAgg5
  z5 := Try.sizeOf5
  v5 := Try.zeroValue5
  t9 := Try.underlying9
  a9 := Try.isAgg9
  z9 := Try.sizeOf9
  v9 := Try.zeroValue9
  t46 := Try.underlying110
  a46 := Try.isAgg110
  z46 := Try.sizeOf110
  v46 := Try.zeroValue110
  t51 := Try.underlying231
  a51 := Try.isAgg231
  z51 := Try.sizeOf231
  v51 := Try.zeroValue231
  t146 := Try.underlying232
  a146 := Try.isAgg232
  z146 := Try.sizeOf232
  v146 := Try.zeroValue232
  g1 := by kernel_rfl }
open Go.RowKit Go.Lib in
/-- strings.Contains: "Contains reports whether substr is within s.": AT A substr OF ONE BYTE c: IT RETURNS 'decide (0 ≤ Lib.indexByte s c)'; the world is as it was. (LAID: no walk: one application.) -/
theorem Try.strings_Contains_one (s : ByteArray) (c : UInt8) (w : World) :
    Calls Try.prog 153 #[.string s, .string ⟨#[c]⟩] w fun e w' => e = .returned (.bool (decide (0 ≤ Lib.indexByte s.data.toList c))) ∧ w' = w := Any.strings_Contains_one Try.lays144 s c w
def Try.lays105_ren : Go.Shelf.Ren := ⟨fun | 105 => 138 | 212 => 182 | 99 => 183 | 165 => 184 | 166 => 185 | 170 => 186 | 169 => 187 | 263 => 202 | 264 => 203 | 206 => 204 | 240 => 205 | 241 => 206 | 276 => 208 | 277 => 209 | n => n, fun | 9 => 9 | 3 => 3 | 4 => 4 | 20 => 20 | 0 => 0 | 46 => 110 | 109 => 204 | 5 => 5 | 72 => 208 | 76 => 212 | 51 => 231 | 146 => 232 | 53 => 234 | 148 => 235 | 70 => 206 | 37 => 173 | 75 => 211 | 127 => 237 | 164 => 238 | 80 => 215 | n => n, fun | n => n⟩
theorem Try.lays105 : Go.Proofs.Lays.n105 Try.prog Try.lays105_ren := {
  mixed := by kernel_rfl
  f99 := Try.func183.trans (congrArg some (by kernel_rfl))
  f105 := Try.func138.trans (congrArg some (by kernel_rfl))
  f165 := Try.func184.trans (congrArg some (by kernel_rfl))
  f166 := Try.func185.trans (congrArg some (by kernel_rfl))
  f169 := Try.func187.trans (congrArg some (by kernel_rfl))
  f170 := Try.func186.trans (congrArg some (by kernel_rfl))
  f206 := Try.func204.trans (congrArg some (by kernel_rfl))
  f212 := Try.func182.trans (congrArg some (by kernel_rfl))
  f240 := Try.func205.trans (congrArg some (by kernel_rfl))
  f241 := Try.func206.trans (congrArg some (by kernel_rfl))
  f263 := Try.func202.trans (congrArg some (by kernel_rfl))
  f264 := Try.func203.trans (congrArg some (by kernel_rfl))
  f276 := Try.func208.trans (congrArg some (by kernel_rfl))
  f277 := Try.func209.trans (congrArg some (by kernel_rfl))
  t0 := Try.underlying0
  a0 := Try.isAgg0
  z0 := Try.sizeOf0
  v0 := Try.zeroValue0
  t3 := Try.underlying3
  a3 := Try.isAgg3
  z3 := Try.sizeOf3
  v3 := Try.zeroValue3
  t4 := Try.underlying4
  a4 := Try.isAgg4
  z4 := Try.sizeOf4
  v4 := Try.zeroValue4
  t5 := Try.underlying5
  a5 := Try.isAgg5
  z5 := Try.sizeOf5
  v5 := Try.zeroValue5
  t9 := Try.underlying9
  a9 := Try.isAgg9
  z9 := Try.sizeOf9
  v9 := Try.zeroValue9
  t20 := Try.underlying20
  a20 := Try.isAgg20
  z20 := Try.sizeOf20
  v20 := Try.zeroValue20
  t37 := Try.underlying173
  a37 := Try.isAgg173
  z37 := Try.sizeOf173
  v37 := Try.zeroValue173
  t46 := Try.underlying110
  a46 := Try.isAgg110
  z46 := Try.sizeOf110
  v46 := Try.zeroValue110
  t51 := Try.underlying231
  a51 := Try.isAgg231
  z51 := Try.sizeOf231
  v51 := Try.zeroValue231
  t53 := Try.underlying234
  a53 := Try.isAgg234
  z53 := Try.sizeOf234
  v53 := Try.zeroValue234
  t70 := Try.underlying206
  a70 := Try.isAgg206
  z70 := Try.sizeOf206
  v70 := Try.zeroValue206
  t72 := Try.underlying208
  a72 := Try.isAgg208
  z72 := Try.sizeOf208
  v72 := Try.zeroValue208
  t75 := Try.underlying211
  a75 := Try.isAgg211
  z75 := Try.sizeOf211
  v75 := Try.zeroValue211
  t76 := Try.underlying212
  a76 := Try.isAgg212
  z76 := Try.sizeOf212
  v76 := Try.zeroValue212
  t109 := Try.underlying204
  a109 := Try.isAgg204
  z109 := Try.sizeOf204
  v109 := Try.zeroValue204
  t127 := Try.underlying237
  a127 := Try.isAgg237
  z127 := Try.sizeOf237
  v127 := Try.zeroValue237
  t146 := Try.underlying232
  a146 := Try.isAgg232
  z146 := Try.sizeOf232
  v146 := Try.zeroValue232
  t148 := Try.underlying235
  a148 := Try.isAgg235
  z148 := Try.sizeOf235
  v148 := Try.zeroValue235
  t164 := Try.underlying238
  a164 := Try.isAgg238
  z164 := Try.sizeOf238
  v164 := Try.zeroValue238 }
theorem Try.Builder_Extra_105 : Builder.Extra Try.prog Try.lays105_ren := {
  sizeBuilder := by kernel_rfl
  liesBuilder := by kernel_rfl
  t5 := Try.underlying5
  a5 := Try.isAgg5
  z5 := Try.sizeOf5
  v5 := Try.zeroValue5
  infoByte := by kernel_rfl
  cellsByte := by kernel_rfl
  sizeByte := by kernel_rfl
  neB5 := by decide }
open Go.RowKit Go.Lib in
/-- **strings.Repeat: count ≥ 0, the result within one allocation: count copies of s.** (LAID: no walk: one application.) -/
theorem Try.strings_Repeat (s : ByteArray) (c : Nat) (w : World) (hc : c ≤ 9223372036854775807) (hlen : s.size * c ≤ 140737488355328) :
    Calls Try.prog 138 #[.string s, .int .i64 c] w fun e w' => e = .returned (.string ⟨(Lib.repeatL s.data.toList c).toArray⟩) ∧ Below w.heap.size w w' := Any.strings_Repeat Try.lays105 Try.Builder_Extra_105 s c w hc hlen
end Go.Proofs.Ytidjggipnfapfaa
