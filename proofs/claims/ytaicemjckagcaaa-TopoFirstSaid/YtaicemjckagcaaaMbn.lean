/- Closed walks: the edge of an arc. -/
import Derived.BigRegion
import Derived.Test.YtaicemjckagcaaaMbk
import Derived.Test.YtaicemjckagcaaaMbl
namespace Go.Proofs.Ytaicemjckagcaaa
set_option linter.unusedVariables false
open Go.RowKit
end Go.Proofs.Ytaicemjckagcaaa

/- Closed walks, plain: the document's answer, and that the search by ranks tells the same. -/
namespace Go.Proofs.Ytaicemjckagcaaa
set_option linter.unusedVariables false
open Go.RowKit
theorem Short.mem {D D' : List HArc} {must : Int} {need : Bool} {v : Int} {c : List HArc} (h : Short D must need v c) (hD : ∀ a, a ∈ D ↔ a ∈ D') : Short D' must need v c :=
  h.less (fun a ha => (hD a).2 ha) (fun a ha => (hD a).1 (okW_mem h.w a ha))
theorem NoWay.mem {D D' : List HArc} {must : Int} {need : Bool} (h : NoWay D must need) (hD : ∀ a, a ∈ D' → a ∈ D) : NoWay D' must need :=
  fun u c' n1 n2 n3 => h u c' n1 (okW_mono hD (Int.le_refl _) n2) n3
section
variable {l : List Edge} {mask must : Int}
end
section
variable {D : List Edge}
end
end Go.Proofs.Ytaicemjckagcaaa
