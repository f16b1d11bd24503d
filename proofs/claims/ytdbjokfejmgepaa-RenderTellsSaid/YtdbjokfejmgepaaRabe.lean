/- Walks: the contracts with their values named. -/
import Derived.Test.YtdbjokfejmgepaaProg
import Derived.Lib.AppendZerosOnto
import Derived.Test.YtdbjokfejmgepaaRaae
import Derived.Test.YtdbjokfejmgepaaRaak
import Derived.Test.YtdbjokfejmgepaaRaaq
import Derived.Test.YtdbjokfejmgepaaRaau
import Derived.Test.YtdbjokfejmgepaaRaax
import Derived.Test.YtdbjokfejmgepaaRaaz
namespace Go.Proofs.Ytdbjokfejmgepaa
set_option linter.unusedVariables false
set_option linter.unusedSimpArgs false
section
open Go.RowKit
section
variable {F G:Nat→Prop} {w:World} {A B:Option Addr} {c d n m:Nat} {l k:List Edge}
def WalkX (w:World) (A:Option Addr) (l:List Edge):Prop:=∃F,Walk F w A l
theorem WalkX.upd {w w':World} (h:WalkX w A l) (k:Upd No w w'):WalkX w' A l:=by
 obtain⟨F,h⟩:=h;exact⟨F,Recs.upd h k (fun _ _=>id)⟩
end
end
end Go.Proofs.Ytdbjokfejmgepaa
