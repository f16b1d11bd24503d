/- slices.Collect(maps.Keys(m)) at edges: the keys come, each once, in some order. -/
import Derived.Shelf.SlIter.Collect
import Derived.Test.YtblplapkdmhikaaDxak
import Derived.Test.YtblplapkdmhikaaDxas
namespace Go.Proofs.Ytblplapkdmhikaa
set_option linter.unusedVariables false
set_option linter.unusedSimpArgs false
section
open Go.RowKit Go.Maps Go.Sort Go.Shelf
theorem Ze2 {w w':World} {r:Nat} (h:Upd (One r) w w'):w.grownBy w' (some r):=⟨h.os,h.tape,h.output,h.size,fun k hk hne=>h.block k hk (fun e=>hne (by unfold One at e;rw[e]))⟩
theorem ZfB {w w':World} (h:Upd No w w'):w.grownBy w' none:=⟨h.os,h.tape,h.output,h.size,fun k hk _=>h.block k hk id⟩
section
variable {α:Type} {w w':World} {r b:Nat} {enc:α→Value} {m left:List (α×Value)}
theorem Iter.left_eq (h:Iter w r b enc m left):w.rangeLeft b r=left.length:=by
 obtain⟨es,clock,since,c0,seen,h1,h2,_,_,_,_,_,h7⟩:=h;simp only[World.rangeLeft,h1,h2];have:=congrArg List.length h7
 simpa using this
theorem Iter.walks (h:Iter w r b enc m left) (k:KeepsWalks w w'):Iter w' r b enc m left:=by
 obtain⟨es,clock,since,c0,seen,h1,h2,h3⟩:=h;exact⟨es,clock,since,c0,seen,k.same r _ h1 rfl,k.same b _ h2 rfl,h3⟩
theorem Iter.walk (h:Iter w r b enc m left):∃o:Obj,w.heap[r]? =some o∧o.isWalk=true:=by
 obtain⟨es,clock,since,c0,seen,h1,_⟩:=h;exact⟨_,h1,rfl⟩
end
end
end Go.Proofs.Ytblplapkdmhikaa
