/- Edges sorted, each once: slices.Clone, SortFunc, Compact at edges; pack.Sort. -/
import Derived.Shelf.SlSortCmp.NoneTotal
import Derived.Lib.SliceRun
import Derived.Test.YtblplapkdmhikaaProg
import Derived.Test.YtblplapkdmhikaaDxaq
import Derived.Test.YtblplapkdmhikaaDxax
namespace Go.Proofs.Ytblplapkdmhikaa
set_option linter.unusedVariables false
set_option linter.unusedSimpArgs false
section
open Go.RowKit
instance:Inhabited Edge:=⟨⟨0,0,0,0⟩⟩
theorem Zfq (F cs:Array Value) (h:F.size≤cs.size):Sort.putCells id 0 F cs=(F.toList++cs.toList.drop F.size).toArray:=by
 apply Array.ext'
 apply List.ext_getElem?
 intro t;unfold Sort.putCells;simp only[Nat.zero_add,Nat.zero_le,true_and,Nat.sub_zero,id_eq,Array.getElem?_toList,Array.getElem?_mapIdx]
 by_cases h1:t<F.size
 ·rw[List.getElem?_append_left (by simpa using h1),Array.getElem?_toList,Array.getElem?_eq_getElem (show t<cs.size by omega),Array.getElem?_eq_getElem h1];simp[h1]
 ·rw[List.getElem?_append_right (by simpa using h1),List.getElem?_drop];simp only[Array.length_toList,Array.getElem?_toList];rw[show F.size+(t-F.size)=t by omega]
  cases cs[t]? <;>simp[h1]
end
end Go.Proofs.Ytblplapkdmhikaa
