/- What the law on walks turned imports. -/
import Derived.Test.YtgakhpdclhlmpaaWalkR
import Derived.Test.YtgakhpdclhlmpaaWalkU
namespace Go.Proofs.Ytgakhpdclhlmpaa
set_option linter.unusedVariables false
end Go.Proofs.Ytgakhpdclhlmpaa
