import Derived.Test.YthobodfbjjjiiaaOwn
import Derived.Test.YthobodfbjjjiiaaJoin
import Derived.Test.YthobodfbjjjiiaaBase3
namespace Go.Proofs.Ythobodfbjjjiiaa
open Go.RowKit
set_option linter.unusedVariables false
set_option linter.unusedSimpArgs false
def pSt (e:Nat×Nat):PV:=.agg [pI e.1,pI e.2]
variable {P :Program}
end Go.Proofs.Ythobodfbjjjiiaa
