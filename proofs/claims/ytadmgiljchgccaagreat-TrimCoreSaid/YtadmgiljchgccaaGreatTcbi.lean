/- How arcs and deeds that come in read. -/
import Derived.Test.YtadmgiljchgccaaGreatTcal
import Derived.Test.YtadmgiljchgccaaGreatTcba
namespace Go.Proofs.YtadmgiljchgccaaGreat
open Go.RowKit
set_option linter.unusedVariables false
set_option linter.unusedSimpArgs false
def HArc.i(a:HArc):Prop:=(-9223372036854775808<=a.f∧a.f<=9223372036854775807)∧(-9223372036854775808<=a.t∧a.t<=9223372036854775807)∧(-9223372036854775808<=a.kind∧a.kind<=9223372036854775807)∧(-9223372036854775808<=a.label∧a.label<=9223372036854775807)
section
variable {H:Type} {enc:Iy×Iz->H} {w:I0} {base:Nat} {spare:Nat->Bool} {held:Bool} {row:Ip}
end
