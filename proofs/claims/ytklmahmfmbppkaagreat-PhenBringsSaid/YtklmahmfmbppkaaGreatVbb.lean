/- Walks: the contracts with their values named. -/
import Derived.Lib.Builder
import Derived.Shelf.Strings.Builder1
import Derived.Test.YtklmahmfmbppkaaGreatProg
import Derived.Shelf.Strings.Builder2
import Derived.Deep.RegionHeld3
import Derived.Test.YtklmahmfmbppkaaGreatVaf
import Derived.Test.YtklmahmfmbppkaaGreatVah
import Derived.Test.YtklmahmfmbppkaaGreatVan
import Derived.Test.YtklmahmfmbppkaaGreatVao
import Derived.Test.YtklmahmfmbppkaaGreatVar
import Derived.Test.YtklmahmfmbppkaaGreatVau
import Derived.Test.YtklmahmfmbppkaaGreatVav
namespace Go.Proofs.YtklmahmfmbppkaaGreat
set_option linter.unusedVariables false
set_option linter.unusedSimpArgs false
section
open Go.RowKit
section
variable {F G:Nat→Prop} {w:World} {A B:Option Addr} {c d n m:Nat} {l k:List Edge}
def WalkX (w:World) (A:Option Addr) (l:List Edge):Prop:=∃F,Walk F w A l
def ZsU (w:World) (l:List Edge) (n:Nat) (e:Ending) (w':World):Prop:=∃A c,e= .returned (.slice A n c)∧WalkX w' A l∧Upd No w w'
theorem WalkX.upd {w w':World} (h:WalkX w A l) (k:Upd No w w'):WalkX w' A l:=by
 obtain⟨F,h⟩:=h;exact⟨F,Recs.upd h k (fun _ _=>id)⟩
end
theorem ZmY {w:World} {A:Option Addr}:WalkX w A []:=⟨fun _=>False,fun h=>absurd rfl h⟩
end
end Go.Proofs.YtklmahmfmbppkaaGreat
