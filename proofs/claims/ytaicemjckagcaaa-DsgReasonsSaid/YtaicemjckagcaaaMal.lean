/- Slices of structs: copied into a row of one's own; grown by zeros. -/
import Derived.Lib.AppendZerosOnto
import Derived.Deep.AppendSrc
import Derived.Test.YtaicemjckagcaaaMag
namespace Go.Proofs.Ytaicemjckagcaaa
set_option linter.unusedVariables false
open Go.RowKit
section
variable {P : Program} {W : World} {dT sT e : TypeId} {size bytes : Nat}
end
section
variable {P : Program} {ops : Array Oper} {rest : List Oper} {o : Oper} {a : Act} {Q : Exit → Act → World → Prop} {W : World} {dT sT e : TypeId} {size bytes : Nat}
end
/-! rows of one's own, seen as blocks -/
end Go.Proofs.Ytaicemjckagcaaa
