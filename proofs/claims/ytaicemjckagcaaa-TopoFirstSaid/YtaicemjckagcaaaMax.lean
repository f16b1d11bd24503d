/- Walks: whether two are one; one begun elsewhere, by the program and by the document. -/
import Derived.Test.YtaicemjckagcaaaProg
import Derived.Lib.AppendZerosOnto
import Derived.Test.YtaicemjckagcaaaMas
import Derived.Test.YtaicemjckagcaaaMav
namespace Go.Proofs.Ytaicemjckagcaaa
set_option linter.unusedVariables false
open Go.RowKit

end Go.Proofs.Ytaicemjckagcaaa

/- Walks begun elsewhere, and turned, by the program and by the document. -/
namespace Go.Proofs.Ytaicemjckagcaaa
set_option linter.unusedVariables false
open Go.RowKit

theorem Walk.drop {F : Nat → Prop} {w : World} {A : Option Addr} {l : List Edge} (h : Walk F w A l) {i c : Nat} (hc : l.length ≤ c) : Walk F w (cutA A c i 4) (l.drop i) := by
  unfold Walk
  rw [List.map_drop]
  exact Recs.cut h (by simpa using hc)
theorem Walk.take {F : Nat → Prop} {w : World} {A : Option Addr} {l : List Edge} (h : Walk F w A l) {i : Nat} : Walk F w A (l.take i) := by
  unfold Walk
  rw [List.map_take]
  exact Recs.take h
end Go.Proofs.Ytaicemjckagcaaa

/- Walks turned: the plain law: the least of all that are begun elsewhere is one, from whichever place it is begun. -/
namespace Go.Proofs.Ytaicemjckagcaaa
set_option linter.unusedVariables false
open Go.RowKit

end Go.Proofs.Ytaicemjckagcaaa
