/- slices.Collect(maps.Keys(m)) at edges: the keys come, each once, in some order. -/
import Derived.Shelf.SlIter.Collect
import Derived.Test.YtdbjokfejmgepaaRaah
import Derived.Test.YtdbjokfejmgepaaRaar
namespace Go.Proofs.Ytdbjokfejmgepaa
set_option linter.unusedVariables false
set_option linter.unusedSimpArgs false
section
open Go.RowKit Go.Maps Go.Sort Go.Shelf
section
variable {α:Type} {w w':World} {r b:Nat} {enc:α→Value} {m left:List (α×Value)}
theorem Iter.walks (h:Iter w r b enc m left) (k:KeepsWalks w w'):Iter w' r b enc m left:=by
 obtain⟨es,clock,since,c0,seen,h1,h2,h3⟩:=h;exact⟨es,clock,since,c0,seen,k.same r _ h1 rfl,k.same b _ h2 rfl,h3⟩
theorem Iter.walk (h:Iter w r b enc m left):∃o:Obj,w.heap[r]? =some o∧o.isWalk=true:=by
 obtain⟨es,clock,since,c0,seen,h1,_⟩:=h;exact⟨_,h1,rfl⟩
end
end
end Go.Proofs.Ytdbjokfejmgepaa
