/- A walk's text: the program's. -/
import Derived.Test.YtaicemjckagcaaaMas
import Derived.Test.YtaicemjckagcaaaMay
namespace Go.Proofs.Ytaicemjckagcaaa
set_option linter.unusedVariables false
open Go.RowKit
end Go.Proofs.Ytaicemjckagcaaa
