/- Walks: the contracts with their values named. -/
import Derived.Test.YtblplapkdmhikaaGreatProg
import Derived.Lib.AppendZerosOnto
import Derived.Deep.RegionHeld3
import Derived.Test.YtblplapkdmhikaaGreatDxah
import Derived.Test.YtblplapkdmhikaaGreatDxam
import Derived.Test.YtblplapkdmhikaaGreatDxao
import Derived.Test.YtblplapkdmhikaaGreatDxas
import Derived.Test.YtblplapkdmhikaaGreatDxav
namespace Go.Proofs.YtblplapkdmhikaaGreat
set_option linter.unusedVariables false
set_option linter.unusedSimpArgs false
section
open Go.RowKit
section
variable {F G:Nat→Prop} {w:World} {A B:Option Addr} {c d n m:Nat} {l k:List Edge}
def WalkX (w:World) (A:Option Addr) (l:List Edge):Prop:=∃F,Walk F w A l
theorem WalkX.upd {w w':World} (h:WalkX w A l) (k:Upd No w w'):WalkX w' A l:=by
 obtain⟨F,h⟩:=h;exact⟨F,Recs.upd h k (fun _ _=>id)⟩
end
end
end Go.Proofs.YtblplapkdmhikaaGreat
