/- The kinds of a phenomenon; who is next in an order. -/
import Derived.Test.YtmnhgdedkniafaaMae
import Derived.Test.YtmnhgdedkniafaaMat
import Derived.Test.YtmnhgdedkniafaaMaw
namespace Go.Proofs.Ytmnhgdedkniafaa
set_option linter.unusedVariables false
open Go.RowKit
end Go.Proofs.Ytmnhgdedkniafaa

/- The order of a key. -/
namespace Go.Proofs.Ytmnhgdedkniafaa
set_option linter.unusedVariables false
open Go.RowKit
end Go.Proofs.Ytmnhgdedkniafaa
