/- Numbers as texts: the document's digits. -/
import Derived.Test.YtaicemjckagcaaaProg
import Derived.IntWalk
import Derived.Lib.SlBytesRow
import Derived.Test.YtaicemjckagcaaaMag
namespace Go.Proofs.Ytaicemjckagcaaa
set_option linter.unusedVariables false
open Go.RowKit

end Go.Proofs.Ytaicemjckagcaaa

/- The program's digits. -/
namespace Go.Proofs.Ytaicemjckagcaaa
set_option linter.unusedVariables false
open Go.RowKit
end Go.Proofs.Ytaicemjckagcaaa

/- A number's text: the program's, and the document's; a kind's word. -/
namespace Go.Proofs.Ytaicemjckagcaaa
set_option linter.unusedVariables false
open Go.RowKit
end Go.Proofs.Ytaicemjckagcaaa
