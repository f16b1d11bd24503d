/- A contract of the library, laid at this dump: the table of numbers typed out. -/
import Derived.Shelf.SlicesG.Turned
import Derived.Ground.SlgnProg
import Derived.Shelf.SlGeneric
import Derived.Test.YtaicemjckagcaaaProg
namespace Go.Proofs.Ytaicemjckagcaaa
open Go.Shelf Go.Proofs
end Go.Proofs.Ytaicemjckagcaaa
