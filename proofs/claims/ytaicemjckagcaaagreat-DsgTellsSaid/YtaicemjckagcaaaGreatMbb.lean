/- Walks: the contracts with their values named. -/
import Derived.Lib.Builder
import Derived.Shelf.Strings.Builder1
import Derived.Test.YtaicemjckagcaaaGreatProg
import Derived.Shelf.Strings.Builder2
import Derived.Deep.RegionHeld3
import Derived.Test.YtaicemjckagcaaaGreatMae
import Derived.Test.YtaicemjckagcaaaGreatMaf
import Derived.Test.YtaicemjckagcaaaGreatMal
import Derived.Test.YtaicemjckagcaaaGreatMan
import Derived.Test.YtaicemjckagcaaaGreatMap
import Derived.Test.YtaicemjckagcaaaGreatMas
import Derived.Test.YtaicemjckagcaaaGreatMat
namespace Go.Proofs.YtaicemjckagcaaaGreat
set_option linter.unusedVariables false
open Go.RowKit
section
variable {F G : Nat → Prop} {w : World} {A B : Option Addr} {c d n m : Nat} {l k : List Edge}
def WalkX (w : World) (A : Option Addr) (l : List Edge) : Prop := ∃ F, Walk F w A l
/-- what Turn leaves -/
def Turned (w : World) (l : List Edge) (n : Nat) (e : Ending) (w' : World) : Prop := ∃ A c, e = .returned (.slice A n c) ∧ WalkX w' A l ∧ Upd No w w'
theorem WalkX.upd {w w' : World} (h : WalkX w A l) (k : Upd No w w') : WalkX w' A l := by
  obtain ⟨F, h⟩ := h
  exact ⟨F, Recs.upd h k (fun _ _ => id)⟩
end
theorem walkx_nil {w : World} {A : Option Addr} : WalkX w A [] := ⟨fun _ => False, fun h => absurd rfl h⟩
end Go.Proofs.YtaicemjckagcaaaGreat
