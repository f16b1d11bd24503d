/- Walks: the contracts with their values named. -/
import Derived.Test.YtblplapkdmhikaaGreatProg
import Derived.Deep.RegionHeld3
import Derived.Test.YtblplapkdmhikaaGreatDbah
import Derived.Test.YtblplapkdmhikaaGreatDbal
import Derived.Test.YtblplapkdmhikaaGreatDbam
import Derived.Test.YtblplapkdmhikaaGreatDbap
import Derived.Test.YtblplapkdmhikaaGreatDbat
import Derived.Test.YtblplapkdmhikaaGreatDbaw
namespace Go.Proofs.YtblplapkdmhikaaGreat
set_option linter.unusedVariables false
set_option linter.unusedSimpArgs false
section
open Go.RowKit
section
variable {F G:Nat→Prop} {w:World} {A B:Option Addr} {c d n m:Nat} {l k:List Edge}
def WalkX (w:World) (A:Option Addr) (l:List Edge):Prop:=∃F,Walk F w A l
def Zod (w:World) (l:List Edge) (n:Nat) (e:Ending) (w':World):Prop:=∃A c,e= .returned (.slice A n c)∧WalkX w' A l∧Upd No w w'
theorem WalkX.upd {w w':World} (h:WalkX w A l) (k:Upd No w w'):WalkX w' A l:=by
 obtain⟨F,h⟩:=h;exact⟨F,Recs.upd h k (fun _ _=>id)⟩
end
theorem Zj9 {w:World} {A:Option Addr}:WalkX w A []:=⟨fun _=>False,fun h=>absurd rfl h⟩
end
end Go.Proofs.YtblplapkdmhikaaGreat
