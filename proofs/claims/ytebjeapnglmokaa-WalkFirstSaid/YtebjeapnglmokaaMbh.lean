/- The kinds of a phenomenon; who is next in an order. -/
import Derived.Test.YtebjeapnglmokaaMaa
import Derived.Test.YtebjeapnglmokaaMaw
import Derived.Test.YtebjeapnglmokaaMba
namespace Go.Proofs.Ytebjeapnglmokaa
set_option linter.unusedVariables false
open Go.RowKit
end Go.Proofs.Ytebjeapnglmokaa

/- The order of a key. -/
namespace Go.Proofs.Ytebjeapnglmokaa
set_option linter.unusedVariables false
open Go.RowKit
end Go.Proofs.Ytebjeapnglmokaa
