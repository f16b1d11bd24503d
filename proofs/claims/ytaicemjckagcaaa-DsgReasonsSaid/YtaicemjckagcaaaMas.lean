/- strings.Builder, of the call's own: what WriteString and String do, and which blocks they touch. -/
import Derived.Lib.Builder
import Derived.Shelf.Strings.Builder1
import Derived.Test.YtaicemjckagcaaaProg
import Derived.Test.YtaicemjckagcaaaMaa
import Derived.Test.YtaicemjckagcaaaMag
namespace Go.Proofs.Ytaicemjckagcaaa
set_option linter.unusedVariables false
open Go.RowKit

section
variable {P : Program} {ops : Array Oper} {rest : List Oper} {o : Oper} {a : Act} {Q : Exit → Act → World → Prop}
end
namespace Bld
variable {w w' : World} {F G : Nat → Prop} {b : Nat} {l : List UInt8}
end Bld
end Go.Proofs.Ytaicemjckagcaaa
