/- How arcs and deeds that come in read. -/
import Derived.Test.YtblplapkdmhikaaGreatDxap
import Derived.Test.YtblplapkdmhikaaGreatDxbk
namespace Go.Proofs.YtblplapkdmhikaaGreat
set_option linter.unusedVariables false
set_option linter.unusedSimpArgs false
section
open Go.RowKit
def HArc.i (a:HArc):Prop:=(-9223372036854775808≤a.f∧a.f≤9223372036854775807)∧(-9223372036854775808≤a.t∧a.t≤9223372036854775807)∧(-9223372036854775808≤a.kind∧a.kind≤9223372036854775807)∧(-9223372036854775808≤a.label∧a.label≤9223372036854775807)
section
variable {H:Type} {enc:TypeId×Value→H} {w:World} {base:Nat} {spare:Nat→Bool} {held:Bool} {row:List Value}
end
end
end Go.Proofs.YtblplapkdmhikaaGreat
