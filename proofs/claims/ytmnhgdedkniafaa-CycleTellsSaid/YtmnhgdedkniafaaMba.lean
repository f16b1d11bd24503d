/- The kinds of a phenomenon; who is next in an order. -/
import Derived.Test.YtmnhgdedkniafaaMaf
import Derived.Test.YtmnhgdedkniafaaMas
import Derived.Test.YtmnhgdedkniafaaMav
namespace Go.Proofs.Ytmnhgdedkniafaa
set_option linter.unusedVariables false
open Go.RowKit
end Go.Proofs.Ytmnhgdedkniafaa

/- The order of a key. -/
namespace Go.Proofs.Ytmnhgdedkniafaa
set_option linter.unusedVariables false
open Go.RowKit
end Go.Proofs.Ytmnhgdedkniafaa
