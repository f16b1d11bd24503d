/- The kinds of a phenomenon; who is next in an order. -/
import Derived.Test.YtaicemjckagcaaaMaf
import Derived.Test.YtaicemjckagcaaaMaw
import Derived.Test.YtaicemjckagcaaaMax
namespace Go.Proofs.Ytaicemjckagcaaa
set_option linter.unusedVariables false
open Go.RowKit
end Go.Proofs.Ytaicemjckagcaaa

/- The order of a key. -/
namespace Go.Proofs.Ytaicemjckagcaaa
set_option linter.unusedVariables false
open Go.RowKit
end Go.Proofs.Ytaicemjckagcaaa
