import Derived.Test.YthobodfbjjjiiaaTab
import Derived.Test.YthobodfbjjjiiaaShelf
import Derived.Test.YthobodfbjjjiiaaAgr
namespace Go.Proofs.Ythobodfbjjjiiaa
open Go.RowKit
set_option linter.unusedVariables false
set_option linter.unusedSimpArgs false
noncomputable def Zcy :List PV→Option PV
 |[.bool true,.int .u8 a,.int .u8 b]=>some (.tup [.bool (ZfT a b).1,.bool (ZfT a b).2,.int .u8 (ZfU a b).1,.int .u8 (ZfU a b).2])
 |_=>none
noncomputable def ZkK :Ent:=⟨56,[.bxf 0 0,.bxf 0 0],.ck .none,false,Zcy⟩
theorem ZoJ :FnOk Go.Proofs.Try.prog ZkK:=ptrOk Go.Proofs.Try.func56 (by kernel_rfl) (by kernel_rfl) _ (fun x y=>by unfold Zcy;split<;>first|rfl|(rename_i h;cases h)) fun w p1 p2 n1 n2 y1 y2 b1 b2 c1 f1 c2 f2 hs=>by
 cases hs
 exact Ztn p1 p2 n1 n2 w c1 f1 c2 f2
end Go.Proofs.Ythobodfbjjjiiaa
