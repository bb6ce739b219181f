/-
  CONTRACTS OF THE LIBRARY at this program, as the kit's shelf lays them (in plain words).
-/
import Derived.Shelf.Bits.Mul64
import Derived.Shelf.Slices.Turned
import Derived.Test.YtnpbdphfjablbaaProg
namespace Go.Proofs.Ytnpbdphfjablbaa
open Go.Shelf
set_option linter.unusedVariables false
def Try.lays212_ren : Go.Shelf.Ren := ⟨fun | 212 => 135 | 263 => 151 | 264 => 152 | n => n, fun | 46 => 188 | 51 => 201 | 146 => 202 | 53 => 204 | 148 => 205 | n => n, fun | n => n⟩
theorem Try.lays212 : Go.Proofs.Lays.n212 Try.prog Try.lays212_ren := {
  mixed := by kernel_rfl
  f212 := Try.func135.trans (congrArg some (by kernel_rfl))
  f263 := Try.func151.trans (congrArg some (by kernel_rfl))
  f264 := Try.func152.trans (congrArg some (by kernel_rfl))
  t46 := Try.underlying188
  a46 := Try.isAgg188
  z46 := Try.sizeOf188
  v46 := Try.zeroValue188
  t51 := Try.underlying201
  a51 := Try.isAgg201
  z51 := Try.sizeOf201
  v51 := Try.zeroValue201
  t53 := Try.underlying204
  a53 := Try.isAgg204
  z53 := Try.sizeOf204
  v53 := Try.zeroValue204
  t146 := Try.underlying202
  a146 := Try.isAgg202
  z146 := Try.sizeOf202
  v146 := Try.zeroValue202
  t148 := Try.underlying205
  a148 := Try.isAgg205
  z148 := Try.sizeOf205
  v148 := Try.zeroValue205 }
open Go.RowKit Go.Lib in
/-- math/bits.Mul: "Mul returns the full-width product of x and y": on a machine of 64 bits: Mul64's. (LAID: no walk: one application.) -/
theorem Try.bits_Mul (x y : Nat) (hx : x < 18446744073709551616) (hy : y < 18446744073709551616) (w : World) :
    Calls Try.prog 135 #[.int .u64 x, .int .u64 y] w fun e w' => e = .returned (.tuple #[.int .u64 ((x * y / 18446744073709551616 : Nat) : Int), .int .u64 ((x * y % 18446744073709551616 : Nat) : Int)]) ∧ w' = w := Any.bits_Mul Try.lays212 x y hx hy w
end Go.Proofs.Ytnpbdphfjablbaa
