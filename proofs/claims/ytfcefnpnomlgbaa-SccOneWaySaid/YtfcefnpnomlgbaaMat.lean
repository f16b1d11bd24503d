/- Slices of ints: cloned, sorted, held against one another. -/
import Derived.Lib.SliceRun
import Derived.Shelf.Slices.In.SortNone
import Derived.Test.YtfcefnpnomlgbaaProg
import Derived.Test.YtfcefnpnomlgbaaMac
import Derived.Test.YtfcefnpnomlgbaaMag
namespace Go.Proofs.Ytfcefnpnomlgbaa
set_option linter.unusedSimpArgs false
set_option linter.unusedVariables false
open Go.RowKit
theorem ZfQ:SlT Try.prog 32 3 1 8:=SlT.mk_ Try.underlying32 (z:= .int .i64 0) (by kernel_rfl) rfl (by omega)
def ZaX (w:World) (l:List Int) (e:Ending) (w':World):Prop:=∃A c,e= .returned (.slice A l.length c)∧w'.ownsRow w.heap.size 3 1 (.slice A l.length c) l.length (l.map (Value.int .i64))∧Upd No w w'
def ZC (l:List Int):List Int:=l.mergeSort fun x y=>decide (x≤y)
theorem ZcF (l:List Int):(ZC l).length=l.length:=List.length_mergeSort ..
theorem ZcI (F:Array Int) (cs:Array Value) (h:F.size≤cs.size):Sort.putCells (Value.int .i64) 0 F cs=((F.toList.map (Value.int .i64))++cs.toList.drop F.size).toArray:=by
 apply Array.ext'
 apply List.ext_getElem?
 intro t
 unfold Sort.putCells
 simp only[Nat.zero_add,Nat.zero_le,true_and,Nat.sub_zero,Array.getElem?_toList,Array.getElem?_mapIdx]
 by_cases h1:t<F.size
 ·rw[List.getElem?_append_left (by simpa using h1),List.getElem?_map,Array.getElem?_toList,Array.getElem?_eq_getElem (show t<cs.size by omega),Array.getElem?_eq_getElem h1]
  simp[h1]
 ·rw[List.getElem?_append_right (by simpa using h1),List.getElem?_drop]
  simp only[List.length_map,Array.length_toList,Array.getElem?_toList]
  rw[show F.size+(t-F.size)=t by omega]
  cases cs[t]? <;>simp[h1]
theorem ZfB (w:World) (base:Nat) (A:Option Addr) (c:Nat) (l:List Int) (hown:w.ownsRow base 3 1 (.slice A l.length c) l.length (l.map (Value.int .i64))) (hl:l.length≤17592186044415):
  Calls Try.prog 32 #[.slice A l.length c] w fun e w'=>e= .returned (.tuple #[])∧w'.ownsRow base 3 1 (.slice A l.length c) l.length ((ZC l).map (Value.int .i64))∧Upd (Own (.slice A l.length c)) w w':=by
 rcases hown.2 with ⟨hv,hn⟩|⟨g,cap,cur,hv,hbg,hg,hnc,hcm,hcs,htake⟩
 ·have hl0:l=[]:=List.eq_nil_of_length_eq_zero hn
  subst hl0
  refine Calls.mono (Any.slices_Sort_int_none ZcG A c w) ?_
  rintro e w' ⟨rfl,rfl⟩
  exact⟨rfl,by rw[show ZC []=[] by unfold ZC;simp];exact hown,Upd.refl _ _⟩
 ·cases hv
  have hb:Blk w g 3 cur.toList:=by unfold Blk;rw[Array.toArray_toList];exact hg
  have hcs':cur.size=c:=by simpa using hcs
  have htake':cur.toList.take l.length=l.map (Value.int .i64):=by simpa using htake
  have hH:Sort.Holds (Value.int .i64) w g 0 l.toArray:=fun j hj=>by
   simp only[List.size_toArray]at hj
   rw[Nat.zero_add]
   refine⟨?_,hb.free j⟩
   rw[hb.cell j]
   have h1:(cur.toList.take l.length)[j]? =cur.toList[j]? :=by rw[List.getElem?_take,if_pos hj]
   rw[←h1,htake',List.getElem?_map,List.getElem?_eq_getElem hj]
   simp[hj]
  have hlt:=hb.lt
  refine Calls.mono (Any.slices_Sort_int ZcG g 0 c l w hH hlt (by omega)) ?_
  rintro e w' ⟨rfl,n,os,rfl⟩
  have e1:(Sort.grow (Sort.putRow (Value.int .i64) (Sort.ahead w n) g 0 (l.mergeSort fun x y=>decide (x≤y)).toArray) os).heap[g]? =some (.cells (Sort.putCells (Value.int .i64) 0 (ZC l).toArray cur) 3 (0,0)):=by
   unfold Sort.grow Sort.putRow Sort.mapBlock
   simp only
   rw[Array.getElem?_append_left (by simpa using hlt),Array.getElem?_modify]
   simp only[if_true]
   rw[show(Sort.ahead w n).heap=w.heap from rfl,hg]
   rfl
  have hsl:=ZcF l
  rw[ZcI _ _ (by simp only[List.size_toArray];omega)]at e1
  refine⟨rfl,⟨by simp[hsl],.inr ⟨g,c,_,rfl,hbg,e1,hnc,hcm,?_,?_⟩⟩,⟨rfl,rfl,rfl,?_,fun k hk hn=> ?_⟩⟩
  ·simp[hsl];omega
  ·simp[hsl]
  ·unfold Sort.grow Sort.putRow Sort.mapBlock
   simp only[Array.size_append,Array.size_modify]
   show w.heap.size≤w.heap.size+os.size
   omega
  ·have hne:g≠k:=fun e=>hn (by unfold Own;rw[e];rfl)
   unfold Sort.grow Sort.putRow Sort.mapBlock
   simp only
   rw[Array.getElem?_append_left (by simpa using hk),Array.getElem?_modify,if_neg hne]
   rfl
theorem Zdv {w:World} {a:Addr} {v:Value} (h:w.cell? a=some v):a=⟨a.block,a.off,none⟩:=by
 obtain⟨b,o,s⟩:=a
 cases s with
 |none=>rfl
 |some s=>
  unfold World.cell? at h
  split at h
  ·simp at h
  ·cases h
theorem Zf2 (b o j:Nat):(⟨b,o,none⟩:Addr).add j=⟨b,o+j,none⟩:=by unfold Addr.add;split<;>simp_all
theorem Ints.cells_ {F:Nat→Prop} {w:World} {A:Option Addr} {l:List Int} (h:Ints F w A l) (hne:l≠[]):∃b o,A=some ⟨b,o,none⟩∧∀j,j<l.length→w.cell? ⟨b,o+j,none⟩=some (.int .i64 (l.getD j 0)):=by
 obtain⟨ad,e,_,_,hc⟩:=h hne
 have h0:0<l.length:=List.length_pos_iff.2 hne
 have c0:=hc 0 _ (List.getElem?_eq_getElem h0)
 have ha:ad.add 0=ad:=by unfold Addr.add;simp
 rw[ha]at c0
 have hf:=Zdv c0
 refine⟨ad.block,ad.off,by rw[e,←hf],fun j hj=> ?_⟩
 have cj:=hc j _ (List.getElem?_eq_getElem hj)
 rw[hf]at cj
 rw[Zf2]at cj
 rw[cj,List.getD_eq_getElem?_getD,List.getElem?_eq_getElem hj]
 rfl
theorem Ints.of_owned {w:World} {base:Nat} {A:Option Addr} {c:Nat} {l:List Int} (h:w.ownsRow base 3 1 (.slice A l.length c) l.length (l.map (Value.int .i64))):Ints (fun i=>base≤i) w A l:=Ints.of_own h
end Go.Proofs.Ytfcefnpnomlgbaa
