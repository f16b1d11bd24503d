/- Operations cloned, transactions copied and found. -/
import Derived.Lib.SliceRun
import Derived.Test.YtmnhgdedkniafaaMak
import Derived.Test.YtmnhgdedkniafaaMau
namespace Go.Proofs.Ytmnhgdedkniafaa
set_option linter.unusedVariables false
open Go.RowKit
end Go.Proofs.Ytmnhgdedkniafaa
