/- What the program tells of histories, in plain words: needs, keys, writers, right; and of edges, reads and witnesses. -/
import Derived.Test.YtfcefnpnomlgbaaMao
import Derived.Test.YtfcefnpnomlgbaaMaq
import Derived.Test.YtfcefnpnomlgbaaMau
import Derived.Test.YtfcefnpnomlgbaaMav
import Derived.Test.YtfcefnpnomlgbaaMbb
namespace Go.Proofs.Ytfcefnpnomlgbaa
set_option linter.unusedSimpArgs false
set_option linter.unusedVariables false
open Go.RowKit
structure HBad where
 tx:Int
 place:Int
 of:Ver
deriving DecidableEq
def HBad.cells (b:HBad):List Value:=[.int .i64 b.tx,.int .i64 b.place,.int .i64 b.of.tx,.int .i64 b.of.key,.int .i64 b.of.nth]
/-! from any place -/
end Go.Proofs.Ytfcefnpnomlgbaa
