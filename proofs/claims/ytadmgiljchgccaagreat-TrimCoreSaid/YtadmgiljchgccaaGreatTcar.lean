/- Walks: the contracts with their values named. -/
import Derived.Shelf.Strings.Builder2
import Derived.Test.YtadmgiljchgccaaGreatTcam
namespace Go.Proofs.YtadmgiljchgccaaGreat
open Go.RowKit
set_option linter.unusedVariables false
set_option linter.unusedSimpArgs false
section
variable {F G:Iw} {w:I0} {A B:OA} {c d n m:Nat} {l k:List Edge}
def ZpF(w:I0)(A:OA)(l:List Edge):Prop:=∃F,Walk F w A l
def ZwH(w:I0)(l:List Edge)(n:Nat)(e:Ending)(w':I0):Prop:=∃A c,e= .returned (.slice A n c)∧ZpF w' A l∧Upd No w w'
end
theorem ZpR{w:I0}{A:OA}:ZpF w A []:=⟨fun _=>False,fun h=>absurd rfl h⟩
