/- Slices of ints: sorted. -/
import Derived.Shelf.Slices.In.SortNone
import Derived.Test.YtblplapkdmhikaaGreatDbac
import Derived.Test.YtblplapkdmhikaaGreatDbas
namespace Go.Proofs.YtblplapkdmhikaaGreat
set_option linter.unusedVariables false
set_option linter.unusedSimpArgs false
section
open Go.RowKit
theorem ZgH (F:Array Int) (cs:Array Value) (h:F.size≤cs.size):Sort.putCells (Value.int .i64) 0 F cs=((F.toList.map (Value.int .i64))++cs.toList.drop F.size).toArray:=by
 apply Array.ext'
 apply List.ext_getElem?
 intro t;unfold Sort.putCells;simp only[Nat.zero_add,Nat.zero_le,true_and,Nat.sub_zero,Array.getElem?_toList,Array.getElem?_mapIdx]
 by_cases h1:t<F.size
 ·rw[List.getElem?_append_left (by simpa using h1),List.getElem?_map,Array.getElem?_toList,Array.getElem?_eq_getElem (show t<cs.size by omega),Array.getElem?_eq_getElem h1];simp[h1]
 ·rw[List.getElem?_append_right (by simpa using h1),List.getElem?_drop];simp only[List.length_map,Array.length_toList,Array.getElem?_toList];rw[show F.size+(t-F.size)=t by omega]
  cases cs[t]? <;>simp[h1]
theorem ZfQ (w:World) (base:Nat) (A:Option Addr) (c:Nat) (l:List Int) (hown:w.ownsRow base 3 1 (.slice A l.length c) l.length (l.map (Value.int .i64))) (hl:l.length≤17592186044415):
  Calls Tryz.prog 86 #[.slice A l.length c] w fun e w'=>e= .returned (.tuple #[])∧w'.ownsRow base 3 1 (.slice A l.length c) l.length ((ZM l).map (Value.int .i64))∧Upd (Own (.slice A l.length c)) w w':=by
 rcases hown.2 with ⟨hv,hn⟩|⟨g,cap,cur,hv,hbg,hg,hnc,hcm,hcs,htake⟩
 ·have hl0:l=[]:=List.eq_nil_of_length_eq_zero hn;subst hl0;refine Calls.mono (Any.slices_Sort_int_none ZgA A c w) ?_;rintro e w' ⟨rfl,rfl⟩;exact⟨rfl,by rw[show ZM []=[] by unfold ZM;simp];exact hown,Upd.refl _ _⟩
 ·cases hv
  have hb:Blk w g 3 cur.toList:=by unfold Blk;rw[Array.toArray_toList];exact hg
  have hcs':cur.size=c:=by simpa using hcs
  have htake':cur.toList.take l.length=l.map (Value.int .i64):=by simpa using htake
  have hH:Sort.Holds (Value.int .i64) w g 0 l.toArray:=fun j hj=>by
   simp only[List.size_toArray]at hj;rw[Nat.zero_add];refine⟨?_,hb.free j⟩;rw[hb.cell j];have h1:(cur.toList.take l.length)[j]? =cur.toList[j]? :=by rw[List.getElem?_take,if_pos hj]
   rw[←h1,htake',List.getElem?_map,Qg hj];simp[hj]
  have hlt:=hb.lt;refine Calls.mono (Any.slices_Sort_int ZgA g 0 c l w hH hlt (by omega)) ?_;rintro e w' ⟨rfl,n,os,rfl⟩
  have e1:(Sort.grow (Sort.putRow (Value.int .i64) (Sort.ahead w n) g 0 (l.mergeSort fun x y=>decide (x≤y)).toArray) os).heap[g]? =some (.cells (Sort.putCells (Value.int .i64) 0 (ZM l).toArray cur) 3 (0,0)):=by
   unfold Sort.grow Sort.putRow Sort.mapBlock;simp only;rw[Array.getElem?_append_left (by simpa using hlt),Array.getElem?_modify];simp only[if_true];rw[show(Sort.ahead w n).heap=w.heap from rfl,hg];rfl
  have hsl:=Zbz l;rw[ZgH _ _ (by simp only[List.size_toArray];omega)]at e1;refine⟨rfl,⟨by simp[hsl],.inr ⟨g,c,_,rfl,hbg,e1,hnc,hcm,?_,?_⟩⟩,⟨rfl,rfl,rfl,?_,fun k hk hn=> ?_⟩⟩
  ·simp[hsl];omega
  ·simp[hsl]
  ·unfold Sort.grow Sort.putRow Sort.mapBlock;simp only[Array.size_append,Array.size_modify]
   show w.heap.size≤w.heap.size+os.size
   omega
  ·have hne:g≠k:=fun e=>hn (by unfold Own;rw[e];rfl)
   unfold Sort.grow Sort.putRow Sort.mapBlock;simp only;rw[Array.getElem?_append_left (by simpa using hk),Array.getElem?_modify,if_neg hne];rfl
set_option maxRecDepth 100000 in
theorem ZoA (F G:Nat→Prop) (w:World) (A B:Option Addr) (c d:Nat) (a b:List Int) (ha:Ints F w A a) (hb:Ints G w B b) (hl:a.length≤17592186044415) (hl2:b.length≤17592186044415):
  Calls Tryz.prog 66 #[.slice A a.length c,.slice B b.length d] w fun e w'=>e= .returned (.bool (Zfz a b))∧Upd No w w':=by
 have hsa:=Zbz a;have hsb:=Zbz b;have Hsa:=Qh hsa;have Hsb:=Qh hsb;clear hsa hsb
 go_enter Tryz.func66,Tryz.ntmps66
 go_wp2_with fail
 refine(ZhZ F w A c a ha hl).mono ?_;rintro e w1 ⟨A1,c1,rfl,ho1,hu1⟩
 go_wp2_with fail
 refine(ZhZ G _ B d b (hb.upd hu1 (fun _ _=>id)) hl2).mono ?_;rintro e w2 ⟨A2,c2,rfl,ho2,hu2⟩;have ho1':=Zb ho1 hu2 (fun _ _=>id);have hz2:=hu2.size;have hlt1:=ho1.lt
 have hap:∀i,Value.ownBlock (.slice A1 a.length c1)=some i→¬Own (.slice A2 b.length c2) i:=fun i hi e=>by
  have h1:=(hlt1 i hi).2;have h2:=(ho2.lt i e).1;omega
 have Hap:=Qh hap;have Hlt:=Qh hlt1;clear hap hlt1 ho1
 go_wp2_with fail
 refine(ZfQ _ _ A1 c1 a ho1' hl).mono ?_;rintro e w3 ⟨rfl,ho3,hu3⟩;have ho2':=Zb ho2 hu3 (fun i hi e=>Hap.out i e hi)
 go_wp2_with fail
 refine(ZfQ _ _ A2 c2 b ho2' hl2).mono ?_;rintro e w4 ⟨rfl,ho4,hu4⟩;have ho3':=Zb ho3 hu4 (fun i hi e=>Hap.out i hi e);have hI1:Ints (fun i=>w.heap.size≤i) w4 A1 (ZM a):=Ints.of_own (n:=a.length) (c:=c1) ho3';have hI2:Ints (fun i=>w1.heap.size≤i) w4 A2 (ZM b):=Ints.of_own (n:=b.length) (c:=c2) ho4;have hq:=ZkQ _ _ w4 A1 A2 c1 c2 (ZM a) (ZM b) hI1 hI2 (by rw[Hsa.out];exact hl) (by rw[Hsb.out];exact hl2);rw[Hsa.out,Hsb.out]at hq;have Hq:=Qh hq;clear hq;have hu12:=hu1.trans hu2;have hu123:Upd No w w3:=hu12.then_ hu3 fun i e=> .inr (Hlt.out i e).1
 have hu1234:Upd No w w4:=hu123.then_ hu4 fun i e=> .inr (by have:=(ho2.lt i e).1;have:=hu1.size;omega)
 clear ho1' ho2 ho2' ho3 ho3' ho4 hI1 hI2 hu3 hu4 hu12 hu123
 go_wp2_with fail
 refine(Hq.out).mono ?_;rintro e w5 ⟨rfl,hu5⟩;go_wp2
 go_ret
 exact⟨rfl,hu1234.trans hu5⟩
end
end Go.Proofs.YtblplapkdmhikaaGreat
