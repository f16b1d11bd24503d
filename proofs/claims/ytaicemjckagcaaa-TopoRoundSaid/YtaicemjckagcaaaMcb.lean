/- Orders: all that the laws lean on. -/
import Derived.Test.YtaicemjckagcaaaMbz
import Derived.Test.YtaicemjckagcaaaMca
namespace Go.Proofs.Ytaicemjckagcaaa
set_option linter.unusedVariables false
end Go.Proofs.Ytaicemjckagcaaa
