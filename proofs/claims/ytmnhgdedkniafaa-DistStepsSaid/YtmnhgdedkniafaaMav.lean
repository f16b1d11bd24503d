/- Walks held against one another, from whichever places they begin. -/
import Derived.Test.YtmnhgdedkniafaaProg
import Derived.Deep.RegionHeld3
import Derived.Test.YtmnhgdedkniafaaMat
namespace Go.Proofs.Ytmnhgdedkniafaa
set_option linter.unusedVariables false
open Go.RowKit

end Go.Proofs.Ytmnhgdedkniafaa
