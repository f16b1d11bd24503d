/- Numbers as texts: the document's digits. -/
import Derived.Test.YtaicemjckagcaaaGreatProg
import Derived.IntWalk
import Derived.Lib.SlBytesRow
import Derived.Test.YtaicemjckagcaaaGreatMag
namespace Go.Proofs.YtaicemjckagcaaaGreat
set_option linter.unusedVariables false
open Go.RowKit

end Go.Proofs.YtaicemjckagcaaaGreat

/- The program's digits. -/
namespace Go.Proofs.YtaicemjckagcaaaGreat
set_option linter.unusedVariables false
open Go.RowKit
end Go.Proofs.YtaicemjckagcaaaGreat

/- A number's text: the program's, and the document's; a kind's word. -/
namespace Go.Proofs.YtaicemjckagcaaaGreat
set_option linter.unusedVariables false
open Go.RowKit
end Go.Proofs.YtaicemjckagcaaaGreat
