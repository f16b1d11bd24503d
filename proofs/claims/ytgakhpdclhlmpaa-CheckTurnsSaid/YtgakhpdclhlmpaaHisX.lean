/- What the law on a witness's turns imports. -/
import Derived.Test.YtgakhpdclhlmpaaHisW
import Derived.Test.YtgakhpdclhlmpaaChkH
namespace Go.Proofs.Ytgakhpdclhlmpaa
set_option linter.unusedVariables false
end Go.Proofs.Ytgakhpdclhlmpaa
