/- The keys that a transaction writes. -/
import Derived.Shelf.SlicesG.CompactI
import Derived.Test.YtfcefnpnomlgbaaMab
import Derived.Test.YtfcefnpnomlgbaaMbc
namespace Go.Proofs.Ytfcefnpnomlgbaa
set_option linter.unusedSimpArgs false
set_option linter.unusedVariables false
open Go.RowKit
theorem Zfm (w:World) (base:Nat) (A:Option Addr) (c:Nat) (l:List Int) (hown:w.ownsRow base 3 1 (.slice A l.length c) l.length (l.map (Value.int .i64))) (hl:l.length≤17592186044415):
  Calls Try.prog 50 #[.slice A l.length c] w fun e w'=>e= .returned (.slice A (Lib.compact l).length c)∧w'.ownsRow base 3 1 (.slice A (Lib.compact l).length c) (Lib.compact l).length ((Lib.compact l).map (Value.int .i64))∧Upd (Own (.slice A l.length c)) w w':=by
 rcases hown.2 with ⟨hv,hn⟩|⟨g,cap,cur,hv,hbg,hg,hnc,hcm,hcs,htake⟩
 ·have hl0:l=[]:=List.eq_nil_of_length_eq_zero hn
  subst hl0
  refine Calls.mono (AnyG.slices_Compact_int_empty ZbD A c w) ?_
  rintro e w' ⟨rfl,rfl⟩
  exact⟨rfl,hown,Upd.refl _ _⟩
 ·cases hv
  have hb:Blk w g 3 cur.toList:=by unfold Blk;rw[Array.toArray_toList];exact hg
  have hcs':cur.size=c:=by simpa using hcs
  have htake':cur.toList.take l.length=l.map (Value.int .i64):=by simpa using htake
  have hH:Sort.Holds (Value.int .i64) w g 0 l.toArray:=fun j hj=>by
   simp only[List.size_toArray]at hj
   rw[Nat.zero_add]
   refine⟨?_,hb.free j⟩
   rw[hb.cell j]
   have h1:(cur.toList.take l.length)[j]? =cur.toList[j]? :=by rw[List.getElem?_take,if_pos hj]
   rw[←h1,htake',List.getElem?_map,List.getElem?_eq_getElem hj]
   simp[hj]
  have hlt:=hb.lt
  have hcl:(Lib.compact l).length≤l.length:=by rw[Zcp];exact ZdZ _ _
  refine Calls.mono (AnyG.slices_Compact_int ZbD g 0 c l w hH (by omega) hnc) ?_
  rintro e w' ⟨rfl,q,rfl⟩
  obtain⟨R,hR,hRl⟩:∃R:List Int,R=Lib.compact l++List.replicate (l.length-(Lib.compact l).length) 0∧R.length=l.length:=⟨_,rfl,by simp;omega⟩
  have e1:(Sort.putRow (Value.int .i64) (Sort.ahead w q) g 0 (Lib.compact l++List.replicate (l.length-(Lib.compact l).length) 0).toArray).heap[g]? =some (.cells (Sort.putCells (Value.int .i64) 0 R.toArray cur) 3 (0,0)):=by
   unfold Sort.putRow Sort.mapBlock
   simp only
   rw[Array.getElem?_modify]
   simp only[if_true]
   rw[show(Sort.ahead w q).heap=w.heap from rfl,hg,hR]
   rfl
  rw[ZcI _ _ (by simp only[List.size_toArray];omega)]at e1
  refine⟨rfl,⟨by simp,.inr ⟨g,c,_,rfl,hbg,e1,by omega,hcm,?_,?_⟩⟩,⟨rfl,rfl,rfl,?_,fun k hk hn=> ?_⟩⟩
  ·simp only[List.size_toArray,List.length_append,List.length_map,List.length_drop,Array.length_toList,hRl]
   omega
  ·rw[Nat.mul_one]
   show List.take _ (List.map (Value.int .i64) R++_)=_
   rw[hR,List.map_append,List.append_assoc,List.take_append_of_le_length (by simp),List.take_of_length_le (by simp)]
  ·unfold Sort.putRow Sort.mapBlock
   simp only[Array.size_modify]
   exact Nat.le_refl _
  ·have hne:g≠k:=fun e=>hn (by unfold Own;rw[e];rfl)
   unfold Sort.putRow Sort.mapBlock
   simp only
   rw[Array.getElem?_modify,if_neg hne]
   rfl
end Go.Proofs.Ytfcefnpnomlgbaa
