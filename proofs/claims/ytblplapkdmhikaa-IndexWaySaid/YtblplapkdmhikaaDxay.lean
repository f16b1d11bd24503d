/- Slices of ints: sorted. -/
import Derived.Shelf.Slices.In.SortNone
import Derived.Test.YtblplapkdmhikaaDxab
import Derived.Test.YtblplapkdmhikaaDxal
namespace Go.Proofs.Ytblplapkdmhikaa
set_option linter.unusedVariables false
set_option linter.unusedSimpArgs false
section
open Go.RowKit
theorem ZcN (F:Array Int) (cs:Array Value) (h:F.size≤cs.size):Sort.putCells (Value.int .i64) 0 F cs=((F.toList.map (Value.int .i64))++cs.toList.drop F.size).toArray:=by
 apply Array.ext'
 apply List.ext_getElem?
 intro t;unfold Sort.putCells;simp only[Nat.zero_add,Nat.zero_le,true_and,Nat.sub_zero,Array.getElem?_toList,Array.getElem?_mapIdx]
 by_cases h1:t<F.size
 ·rw[List.getElem?_append_left (by simpa using h1),List.getElem?_map,Array.getElem?_toList,Array.getElem?_eq_getElem (show t<cs.size by omega),Array.getElem?_eq_getElem h1];simp[h1]
 ·rw[List.getElem?_append_right (by simpa using h1),List.getElem?_drop];simp only[List.length_map,Array.length_toList,Array.getElem?_toList];rw[show F.size+(t-F.size)=t by omega]
  cases cs[t]? <;>simp[h1]
theorem ZfO (w:World) (base:Nat) (A:Option Addr) (c:Nat) (l:List Int) (hown:w.ownsRow base 3 1 (.slice A l.length c) l.length (l.map (Value.int .i64))) (hl:l.length≤17592186044415):
  Calls Try.prog 90 #[.slice A l.length c] w fun e w'=>e= .returned (.tuple #[])∧w'.ownsRow base 3 1 (.slice A l.length c) l.length ((ZI l).map (Value.int .i64))∧Upd (Own (.slice A l.length c)) w w':=by
 rcases hown.2 with ⟨hv,hn⟩|⟨g,cap,cur,hv,hbg,hg,hnc,hcm,hcs,htake⟩
 ·have hl0:l=[]:=List.eq_nil_of_length_eq_zero hn;subst hl0;refine Calls.mono (Any.slices_Sort_int_none ZcK A c w) ?_;rintro e w' ⟨rfl,rfl⟩;exact⟨rfl,by rw[show ZI []=[] by unfold ZI;simp];exact hown,Upd.refl _ _⟩
 ·cases hv
  have hb:Blk w g 3 cur.toList:=by unfold Blk;rw[Array.toArray_toList];exact hg
  have hcs':cur.size=c:=by simpa using hcs
  have htake':cur.toList.take l.length=l.map (Value.int .i64):=by simpa using htake
  have hH:Sort.Holds (Value.int .i64) w g 0 l.toArray:=fun j hj=>by
   simp only[List.size_toArray]at hj;rw[Nat.zero_add];refine⟨?_,hb.free j⟩;rw[hb.cell j];have h1:(cur.toList.take l.length)[j]? =cur.toList[j]? :=by rw[List.getElem?_take,if_pos hj]
   rw[←h1,htake',List.getElem?_map,Qg hj];simp[hj]
  have hlt:=hb.lt;refine Calls.mono (Any.slices_Sort_int ZcK g 0 c l w hH hlt (by omega)) ?_;rintro e w' ⟨rfl,n,os,rfl⟩
  have e1:(Sort.grow (Sort.putRow (Value.int .i64) (Sort.ahead w n) g 0 (l.mergeSort fun x y=>decide (x≤y)).toArray) os).heap[g]? =some (.cells (Sort.putCells (Value.int .i64) 0 (ZI l).toArray cur) 3 (0,0)):=by
   unfold Sort.grow Sort.putRow Sort.mapBlock;simp only;rw[Array.getElem?_append_left (by simpa using hlt),Array.getElem?_modify];simp only[if_true];rw[show(Sort.ahead w n).heap=w.heap from rfl,hg];rfl
  have hsl:=ZcJ l;rw[ZcN _ _ (by simp only[List.size_toArray];omega)]at e1;refine⟨rfl,⟨by simp[hsl],.inr ⟨g,c,_,rfl,hbg,e1,hnc,hcm,?_,?_⟩⟩,⟨rfl,rfl,rfl,?_,fun k hk hn=> ?_⟩⟩
  ·simp[hsl];omega
  ·simp[hsl]
  ·unfold Sort.grow Sort.putRow Sort.mapBlock;simp only[Array.size_append,Array.size_modify]
   show w.heap.size≤w.heap.size+os.size
   omega
  ·have hne:g≠k:=fun e=>hn (by unfold Own;rw[e];rfl)
   unfold Sort.grow Sort.putRow Sort.mapBlock;simp only;rw[Array.getElem?_append_left (by simpa using hk),Array.getElem?_modify,if_neg hne];rfl
end
end Go.Proofs.Ytblplapkdmhikaa
