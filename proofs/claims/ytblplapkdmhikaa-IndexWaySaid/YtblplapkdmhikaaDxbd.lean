/- The order of a key. -/
import Derived.Lib.Slices
import Derived.Test.YtblplapkdmhikaaProg
import Derived.Test.YtblplapkdmhikaaDxal
import Derived.Test.YtblplapkdmhikaaDxbb
namespace Go.Proofs.Ytblplapkdmhikaa
set_option linter.unusedVariables false
set_option linter.unusedSimpArgs false
section
open Go.RowKit
theorem Zd7 (w:World) (o:HOp):Calls Try.prog 85 #[.agg o.cells.toArray] w fun e w'=>e= .returned (.bool (!o.read))∧Upd No w w':=by
 unfold HOp.cells
 go_enter Try.func85,Try.ntmps85
 go_wp2
 go_ret
 exact⟨rfl,(Upd.refl _ _).alloc _⟩
end
end Go.Proofs.Ytblplapkdmhikaa
