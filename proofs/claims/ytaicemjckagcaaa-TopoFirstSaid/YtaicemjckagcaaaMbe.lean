/- The keys that a transaction writes. -/
import Derived.Shelf.SlicesG.CompactI
import Derived.Test.YtaicemjckagcaaaMae
import Derived.Test.YtaicemjckagcaaaMbd
namespace Go.Proofs.Ytaicemjckagcaaa
set_option linter.unusedVariables false
open Go.RowKit
end Go.Proofs.Ytaicemjckagcaaa
