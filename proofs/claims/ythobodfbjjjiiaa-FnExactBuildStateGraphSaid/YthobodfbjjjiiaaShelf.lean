import Derived.Shelf.Lay
import Derived.Shelf.LaySoft
import Derived.Test.YthobodfbjjjiiaaProg
namespace Go.Proofs.Ythobodfbjjjiiaa
open Go.Shelf
set_option linter.unusedVariables false
end Go.Proofs.Ythobodfbjjjiiaa
