/- A walk's text: the document's. -/
import Derived.Deep.RegionHeld3
import Derived.Test.YtonblekdfinpkaaGreatProg
import Derived.IntWalk
import Derived.Lib.SlBytesRow
import Derived.Test.YtonblekdfinpkaaGreatWrai
import Derived.Test.YtonblekdfinpkaaGreatWras
namespace Go.Proofs.YtonblekdfinpkaaGreat
set_option linter.unusedVariables false
set_option linter.unusedSimpArgs false
section
open Go.RowKit
def Edge.ok (e:Edge):Prop:=(-9223372036854775808≤e.f∧e.f≤9223372036854775807)∧(-9223372036854775808≤e.t∧e.t≤9223372036854775807)∧(-9223372036854775808≤e.key∧e.key≤9223372036854775807)
end
end Go.Proofs.YtonblekdfinpkaaGreat
