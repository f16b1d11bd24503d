/- Walks begun elsewhere, and turned, by the program and by the document. -/
import Derived.Test.YtblplapkdmhikaaProg
import Derived.Lib.AppendZerosOnto
import Derived.Deep.RegionHeld3
import Derived.Test.YtblplapkdmhikaaDxav
namespace Go.Proofs.Ytblplapkdmhikaa
set_option linter.unusedVariables false
set_option linter.unusedSimpArgs false
section
open Go.RowKit
theorem Walk.src {F:Nat→Prop} {w:World} {A:Option Addr} {l:List Edge} (h:Walk F w A l) {n:Nat} (hn:n=l.length):Src w A n 4 (l.map Edge.cells).flatten:=by
 subst hn;have:=Recs.src h Ze7
 rwa [List.length_map]at this
theorem Walk.drop {F:Nat→Prop} {w:World} {A:Option Addr} {l:List Edge} (h:Walk F w A l) {i c:Nat} (hc:l.length≤c):Walk F w (Zaf A c i 4) (l.drop i):=by
 unfold Walk;rw[List.map_drop];exact Recs.cut h (by simpa using hc)
theorem Walk.take {F:Nat→Prop} {w:World} {A:Option Addr} {l:List Edge} (h:Walk F w A l) {i:Nat}:Walk F w A (l.take i):=by
 unfold Walk;rw[List.map_take];exact Recs.take h
end
end Go.Proofs.Ytblplapkdmhikaa
