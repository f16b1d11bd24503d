/- Closed walks: the arc of an edge. -/
import Derived.Test.YtaicemjckagcaaaMag
import Derived.Test.YtaicemjckagcaaaMbk
namespace Go.Proofs.Ytaicemjckagcaaa
set_option linter.unusedVariables false
open Go.RowKit
end Go.Proofs.Ytaicemjckagcaaa
