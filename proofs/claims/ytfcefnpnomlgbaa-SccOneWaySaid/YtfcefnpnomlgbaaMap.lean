/- The document's own small walks over numbers: where one stands, how often, put among rising ones. -/
import Derived.IntWalk
import Derived.Test.YtfcefnpnomlgbaaMal
namespace Go.Proofs.Ytfcefnpnomlgbaa
set_option linter.unusedSimpArgs false
set_option linter.unusedVariables false
open Go.RowKit
def ZU (n:Int):List Int→List Int
 |[]=>[n]
 |x::l=>if n≤x then n::(x::l).filter (fun y=> !(y==n)) else x::ZU n l
theorem Zab (n a:Int):∀l,a∈ZU n l↔a=n∨a∈l
 |[]=>by simp[ZU]
 |x::l=>by
  have ih:=Zab n a l
  unfold ZU
  split
  ·rw[List.mem_cons,List.mem_filter]
   by_cases h:a=n<;>simp[h]
  ·simp only[List.mem_cons,ih];grind
theorem ZbG (n:Int):∀l,l.Pairwise (·<·)→(ZU n l).Pairwise (·<·)
 |[],_=>by simp[ZU]
 |x::l,h=>by
  have h':=List.pairwise_cons.1 h
  unfold ZU
  split
  ·refine List.pairwise_cons.2 ⟨fun a ha=> ?_,h.filter _⟩
   rw[List.mem_filter]at ha
   have h1:a≠n:=by simpa using ha.2
   rcases List.mem_cons.1 ha.1 with rfl|h2
   ·omega
   ·have:=h'.1 a h2;omega
  ·refine List.pairwise_cons.2 ⟨fun a ha=> ?_,ZbG n l h'.2⟩
   rcases(Zab n a l).1 ha with rfl|h2
   ·omega
   ·exact h'.1 a h2
end Go.Proofs.Ytfcefnpnomlgbaa
