/- How deeds that come in read. -/
import Derived.Test.YtmnhgdedkniafaaMau
namespace Go.Proofs.Ytmnhgdedkniafaa
set_option linter.unusedVariables false
open Go.RowKit
section
variable {H : Type} {enc : TypeId × Value → H} {w : World} {base : Nat} {spare : Nat → Bool} {held : Bool} {row : List Value}
end
end Go.Proofs.Ytmnhgdedkniafaa
