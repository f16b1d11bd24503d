/- Walks of edges: closed, and simple, by the document; simple by the program. -/
import Derived.Test.YtmnhgdedkniafaaProg
import Derived.Test.YtmnhgdedkniafaaMai
import Derived.Test.YtmnhgdedkniafaaMan
namespace Go.Proofs.Ytmnhgdedkniafaa
set_option linter.unusedVariables false
open Go.RowKit

end Go.Proofs.Ytmnhgdedkniafaa

/- Walks: simple by the program; the bits of their kinds, by the program and by the document. -/
namespace Go.Proofs.Ytmnhgdedkniafaa
set_option linter.unusedVariables false
open Go.RowKit

section
variable {α : Type} [DecidableEq α]
end
end Go.Proofs.Ytmnhgdedkniafaa
