/- Whether a transaction is right. -/
import Derived.IntWalk
import Derived.Test.YtaicemjckagcaaaMaq
import Derived.Test.YtaicemjckagcaaaMar
namespace Go.Proofs.Ytaicemjckagcaaa
set_option linter.unusedVariables false
open Go.RowKit
end Go.Proofs.Ytaicemjckagcaaa
