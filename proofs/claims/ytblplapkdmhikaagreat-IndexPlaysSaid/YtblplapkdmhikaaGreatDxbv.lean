/- Witnesses, plain: how many edges there are, what a witness is. -/
import Derived.Laws.StructEq
import Derived.Test.YtblplapkdmhikaaGreatDxag
import Derived.Test.YtblplapkdmhikaaGreatDxak
import Derived.Test.YtblplapkdmhikaaGreatDxaw
import Derived.Test.YtblplapkdmhikaaGreatDxay
import Derived.Test.YtblplapkdmhikaaGreatDxbc
import Derived.Test.YtblplapkdmhikaaGreatDxbh
import Derived.Test.YtblplapkdmhikaaGreatDxbi
import Derived.Test.YtblplapkdmhikaaGreatDxbk
import Derived.Test.YtblplapkdmhikaaGreatDxbl
import Derived.Test.YtblplapkdmhikaaGreatDxbp
import Derived.Test.YtblplapkdmhikaaGreatDxbq
import Derived.Test.YtblplapkdmhikaaGreatDxbs
import Derived.Test.YtblplapkdmhikaaGreatDxbu
namespace Go.Proofs.YtblplapkdmhikaaGreat
set_option linter.unusedVariables false
set_option linter.unusedSimpArgs false
section
open Go.RowKit
structure HWit where
 p:Int
 walk:List Edge
 read:HBad
deriving DecidableEq
def HWit.at_ (x:HWit) (A:Option Addr) (c:Nat):List Value:=[.int .i64 x.p,.slice A x.walk.length c,.int .i64 x.read.tx,.int .i64 x.read.place,.int .i64 x.read.of.tx,.int .i64 x.read.of.key,.int .i64 x.read.of.nth]
theorem EdX.nil {w:World} {A:Option Addr}:EdX w A []:=⟨fun _=>True,fun h=>absurd rfl h⟩
end
/- Phenomena:the answers that the document gives. -/
section
open Go.RowKit
def f1:Edge:=⟨1,2,1,0⟩
def f2:Edge:=⟨2,1,3,-1⟩
section
variable {F:Nat→Prop} {w:World} {N:Nat} {p:Int} {b:Bool}
end
end
/- Witnesses:of edges,of reads,of a history:the program's and the document's. -/
section
open Go.RowKit
theorem ToldC.no {w:World} {d:List Edge} {e:Ending} {w':World} (h:ToldC w d e w') (hd:d=[]):∃A c,e= .returned (.tuple #[.slice A 0 c,.int .i64 3])∧Upd No w w':=by
 obtain⟨A,c,rfl,_,hu⟩:=h;subst hd;exact⟨A,c,rfl,hu⟩
end
end Go.Proofs.YtblplapkdmhikaaGreat
