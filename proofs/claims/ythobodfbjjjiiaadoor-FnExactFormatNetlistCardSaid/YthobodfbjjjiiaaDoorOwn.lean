import Derived.Test.YthobodfbjjjiiaaDoorJoin
import Derived.Test.YthobodfbjjjiiaaDoorBase3
import Derived.Test.YthobodfbjjjiiaaDoorMark
namespace Go.Proofs.YthobodfbjjjiiaaDoor
open Go.RowKit
set_option linter.unusedVariables false
set_option linter.unusedSimpArgs false
variable {P :Program}
end Go.Proofs.YthobodfbjjjiiaaDoor
