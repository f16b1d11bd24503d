/- slices.Compact at numbers. -/
import Derived.Shelf.SlicesG.CompactI
import Derived.Test.YtbefgiboikfojaaGreatLayCompactI
import Derived.Test.YtbefgiboikfojaaGreatRcam
namespace Go.Proofs.YtbefgiboikfojaaGreat
open Go.RowKit
set_option linter.unusedVariables false
set_option linter.unusedSimpArgs false
set_option maxRecDepth 100000
set_option maxHeartbeats 8000000
theorem Zif(w:Gy)(base:Nat)(A:OA)(c:Nat)(l:Gv)(ae:w.ownsRow base 3 1 (.slice A l.length c) l.length (l.map (Value.int .i64)))(hl:l.length<=17592186044415):
  Calls Tryz.prog 136 #[.slice A l.length c] w fun e w'=>e= .returned (.slice A (Lib.compact l).length c)∧w'.ownsRow base 3 1 (.slice A (Lib.compact l).length c) (Lib.compact l).length ((Lib.compact l).map (Value.int .i64))∧Upd (Own (.slice A l.length c)) w w':=by
 rcases ae.2 with ⟨hv,hn⟩|⟨g,cap,cur,hv,nh,hg,eA,il,ct,bg⟩
 ·have iW:l=[]:=Et hn;subst iW;refine Calls.mono (AnyG.slices_Compact_int_empty compactI_lay A c w) ?_;rintro e w' ⟨rfl,rfl⟩;exact⟨rfl,ae,Gg _ _⟩
 ·cases hv
  have hb:Blk w g 3 cur.toList:=by unfold Blk;rw[Array.toArray_toList];exact hg
  have xz:cur.size=c:=by simpa using ct
  have gv:cur.toList.take l.length=l.map (Value.int .i64):=by simpa using bg
  have hH:Sort.Holds (Value.int .i64) w g 0 l.toArray:=fun j hj=>by
   simp only[List.size_toArray]at hj;rw[Nat.zero_add];refine⟨?_,hb.free j⟩;rw[hb.cell j];have h1:(cur.toList.take l.length)[j]? =cur.toList[j]? :=by rw[List.getElem?_take,if_pos hj]
   rw[<-h1,gv,List.getElem?_map,Qg hj];simp[hj]
  have hlt:=hb.lt;have cO:(Lib.compact l).length<=l.length:=by rw[Zjn];exact ZjO _ _
  refine Calls.mono (AnyG.slices_Compact_int compactI_lay g 0 c l w hH (by omega) eA) ?_;rintro e w' ⟨rfl,q,rfl⟩;obtain⟨R,hR,C8⟩:∃R:Gv,R=Lib.compact l++List.replicate (l.length-(Lib.compact l).length) 0∧R.length=l.length:=⟨_,rfl,by simp;omega⟩
  have e1:(Sort.putRow (Value.int .i64) (Sort.ahead w q) g 0 (Lib.compact l++List.replicate (l.length-(Lib.compact l).length) 0).toArray).heap[g]? =some (.cells (Sort.putCells (Value.int .i64) 0 R.toArray cur) 3 (0,0)):=by
   unfold Sort.putRow Sort.mapBlock;simp only;rw[Array.getElem?_modify];simp only[if_true];rw[show(Sort.ahead w q).heap=w.heap from rfl,hg,hR];rfl
  rw[Zkg _ _ (by simp only[List.size_toArray];omega)]at e1;refine⟨rfl,⟨by simp,.inr ⟨g,c,_,rfl,nh,e1,by omega,il,?_,?_⟩⟩,⟨rfl,rfl,rfl,?_,fun k hk hn=>?_⟩⟩
  ·simp only[List.size_toArray,Fb,F6,Fo,Array.length_toList,C8];omega
  ·rw[Nat.mul_one]
   show List.take _ (List.map (Value.int .i64) R++_)=_
   rw[hR,F4,Fg,Eu (by simp),List.take_of_length_le (by simp)]
  ·unfold Sort.putRow Sort.mapBlock;simp only[Array.size_modify];exact Nat.le_refl _
  ·have hne:g≠k:=fun e=>hn (by unfold Own;rw[e];rfl)
   unfold Sort.putRow Sort.mapBlock;simp only;rw[Array.getElem?_modify,if_neg hne];rfl
