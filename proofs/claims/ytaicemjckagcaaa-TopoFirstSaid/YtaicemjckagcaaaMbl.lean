/- Closed walks: which edges do not count. -/
import Derived.Test.YtaicemjckagcaaaMbk
namespace Go.Proofs.Ytaicemjckagcaaa
set_option linter.unusedVariables false
open Go.RowKit
end Go.Proofs.Ytaicemjckagcaaa
