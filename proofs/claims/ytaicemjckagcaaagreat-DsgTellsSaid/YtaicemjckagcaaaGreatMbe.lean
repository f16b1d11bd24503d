/- A walk's text: the program's. -/
import Derived.Test.YtaicemjckagcaaaGreatMar
import Derived.Test.YtaicemjckagcaaaGreatMax
namespace Go.Proofs.YtaicemjckagcaaaGreat
set_option linter.unusedVariables false
open Go.RowKit
end Go.Proofs.YtaicemjckagcaaaGreat
