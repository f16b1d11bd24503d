/- Whether a transaction is right. -/
import Derived.IntWalk
import Derived.Test.YtaicemjckagcaaaMao
import Derived.Test.YtaicemjckagcaaaMap
namespace Go.Proofs.Ytaicemjckagcaaa
set_option linter.unusedVariables false
open Go.RowKit
end Go.Proofs.Ytaicemjckagcaaa
