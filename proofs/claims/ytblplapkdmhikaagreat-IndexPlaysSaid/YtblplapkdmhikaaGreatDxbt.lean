/- Closed walks: how edges that come in read. -/
import Derived.Test.YtblplapkdmhikaaGreatDxbo
import Derived.Test.YtblplapkdmhikaaGreatDxbp
namespace Go.Proofs.YtblplapkdmhikaaGreat
set_option linter.unusedVariables false
set_option linter.unusedSimpArgs false
section
open Go.RowKit
def Edge.i (a:Edge):Prop:=(-9223372036854775808≤a.f∧a.f≤9223372036854775807)∧(-9223372036854775808≤a.t∧a.t≤9223372036854775807)∧(-9223372036854775808≤a.k∧a.k≤9223372036854775807)∧(-9223372036854775808≤a.key∧a.key≤9223372036854775807)
section
variable {H:Type} {enc:TypeId×Value→H} {w:World} {base:Nat} {spare:Nat→Bool} {held:Bool} {row:List Value}
end
end
end Go.Proofs.YtblplapkdmhikaaGreat
