import Derived.Test.YthobodfbjjjiiaaJoin
import Derived.Test.YthobodfbjjjiiaaBase3
import Derived.Test.YthobodfbjjjiiaaMark
namespace Go.Proofs.Ythobodfbjjjiiaa
open Go.RowKit
set_option linter.unusedVariables false
set_option linter.unusedSimpArgs false
variable {P :Program}
end Go.Proofs.Ythobodfbjjjiiaa
