/- Operations cloned, transactions copied and found. -/
import Derived.Lib.SliceRun
import Derived.Test.YtebjeapnglmokaaMal
import Derived.Test.YtebjeapnglmokaaMax
namespace Go.Proofs.Ytebjeapnglmokaa
set_option linter.unusedVariables false
open Go.RowKit
end Go.Proofs.Ytebjeapnglmokaa
