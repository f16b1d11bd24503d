/- The shelf's contract on (*strings.Builder).WriteString, laid by hand: the table of numbers typed out. -/
import Derived.Shelf.Strings.Builder1
import Derived.Shelf.Strings.Builder2
import Derived.Test.YtaicemjckagcaaaProg
namespace Go.Proofs.Ytaicemjckagcaaa
set_option linter.unusedVariables false
open Go.Shelf Go.RowKit
end Go.Proofs.Ytaicemjckagcaaa
