/- Walks: simple by the program; the bits of their kinds, by the program and by the document. -/
import Derived.Test.YtfcefnpnomlgbaaProg
import Derived.IntWalk
import Derived.Test.YtfcefnpnomlgbaaMaj
import Derived.Test.YtfcefnpnomlgbaaMal
namespace Go.Proofs.Ytfcefnpnomlgbaa
set_option linter.unusedSimpArgs false
set_option linter.unusedVariables false
open Go.RowKit
section
variable {α:Type} [DecidableEq α]
end
theorem ZeH:KeyBy Try.prog 3 (fun n:Int=>Value.int .i64 n):=KeyBy.int_ Try.underlying3
theorem Zgw (w:World):(zeroValue 3).run Try.prog w= .ok (.int .i64 0) w:=by kernel_rfl
end Go.Proofs.Ytfcefnpnomlgbaa
