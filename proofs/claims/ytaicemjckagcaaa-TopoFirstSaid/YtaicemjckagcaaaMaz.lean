/- Slices of ints: cloned, sorted, held against one another. -/
import Derived.Lib.SliceRun
import Derived.Shelf.Slices.In.SortNone
import Derived.Test.YtaicemjckagcaaaMab
import Derived.Test.YtaicemjckagcaaaMac
import Derived.Test.YtaicemjckagcaaaMai
namespace Go.Proofs.Ytaicemjckagcaaa
set_option linter.unusedVariables false
open Go.RowKit
theorem slt_int : SlT Try.prog 22 3 1 8 := SlT.mk_ Try.underlying22 (z := .int .i64 0) (by kernel_rfl) rfl (by omega)
end Go.Proofs.Ytaicemjckagcaaa
