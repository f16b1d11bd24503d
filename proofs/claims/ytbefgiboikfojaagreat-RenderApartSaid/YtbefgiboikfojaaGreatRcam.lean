/- Slices of ints: sorted. -/
import Derived.Shelf.Slices.In.SortNone
import Derived.Test.YtbefgiboikfojaaGreatLaySortI
import Derived.Test.YtbefgiboikfojaaGreatRcah
namespace Go.Proofs.YtbefgiboikfojaaGreat
open Go.RowKit
set_option linter.unusedVariables false
set_option linter.unusedSimpArgs false
set_option maxRecDepth 100000
theorem Zkg(F:Array Int)(cs:Gj)(h:F.size<=cs.size):Sort.putCells (Value.int .i64) 0 F cs=((F.toList.map (Value.int .i64))++cs.toList.drop F.size).toArray:=by
 apply Array.ext'
 apply List.ext_getElem?
 intro t;unfold Sort.putCells;simp only[Nat.zero_add,Nat.zero_le,true_and,Nat.sub_zero,Array.getElem?_toList,Array.getElem?_mapIdx]
 by_cases h1:t<F.size
 ·rw[List.getElem?_append_left (by simpa using h1),List.getElem?_map,Array.getElem?_toList,Array.getElem?_eq_getElem (show t<cs.size by omega),Array.getElem?_eq_getElem h1];simp[h1]
 ·rw[List.getElem?_append_right (by simpa using h1),List.getElem?_drop];simp only[F6,Array.length_toList,Array.getElem?_toList];rw[show F.size+(t-F.size)=t by omega]
  cases cs[t]? <;>simp[h1]
theorem Zi9(w:Gy)(base:Nat)(A:OA)(c:Nat)(l:Gv)(ae:w.ownsRow base 3 1 (.slice A l.length c) l.length (l.map (Value.int .i64)))(hl:l.length<=17592186044415):
  Calls Tryz.prog 135 #[.slice A l.length c] w fun e w'=>e= .returned (.tuple #[])∧w'.ownsRow base 3 1 (.slice A l.length c) l.length ((Zaj l).map (Value.int .i64))∧Upd (Own (.slice A l.length c)) w w':=by
 rcases ae.2 with ⟨hv,hn⟩|⟨g,cap,cur,hv,nh,hg,eA,il,ct,bg⟩
 ·have iW:l=[]:=Et hn;subst iW;refine Calls.mono (Any.slices_Sort_int_none sortI_lay A c w) ?_;rintro e w' ⟨rfl,rfl⟩;exact⟨rfl,by rw[show Zaj []=[] by unfold Zaj;simp];exact ae,Gg _ _⟩
 ·cases hv
  have hb:Blk w g 3 cur.toList:=by unfold Blk;rw[Array.toArray_toList];exact hg
  have xz:cur.size=c:=by simpa using ct
  have gv:cur.toList.take l.length=l.map (Value.int .i64):=by simpa using bg
  have hH:Sort.Holds (Value.int .i64) w g 0 l.toArray:=fun j hj=>by
   simp only[List.size_toArray]at hj;rw[Nat.zero_add];refine⟨?_,hb.free j⟩;rw[hb.cell j];have h1:(cur.toList.take l.length)[j]? =cur.toList[j]? :=by rw[List.getElem?_take,if_pos hj]
   rw[<-h1,gv,List.getElem?_map,Qg hj];simp[hj]
  have hlt:=hb.lt;refine Calls.mono (Any.slices_Sort_int sortI_lay g 0 c l w hH hlt (by omega)) ?_;rintro e w' ⟨rfl,n,os,rfl⟩
  have e1:(Sort.grow (Sort.putRow (Value.int .i64) (Sort.ahead w n) g 0 (l.mergeSort fun x y=>decide (x<=y)).toArray) os).heap[g]? =some (.cells (Sort.putCells (Value.int .i64) 0 (Zaj l).toArray cur) 3 (0,0)):=by
   unfold Sort.grow Sort.putRow Sort.mapBlock;simp only;rw[Array.getElem?_append_left (by simpa using hlt),Array.getElem?_modify];simp only[if_true];rw[show(Sort.ahead w n).heap=w.heap from rfl,hg];rfl
  have iG:=Zb7 l;rw[Zkg _ _ (by simp only[List.size_toArray];omega)]at e1;refine⟨rfl,⟨by simp[iG],.inr ⟨g,c,_,rfl,nh,e1,eA,il,?_,?_⟩⟩,⟨rfl,rfl,rfl,?_,fun k hk hn=>?_⟩⟩
  ·simp[iG];omega
  ·simp[iG]
  ·unfold Sort.grow Sort.putRow Sort.mapBlock;simp only[Array.size_append,Array.size_modify]
   show w.heap.size<=w.heap.size+os.size
   omega
  ·have hne:g≠k:=fun e=>hn (by unfold Own;rw[e];rfl)
   unfold Sort.grow Sort.putRow Sort.mapBlock;simp only;rw[Array.getElem?_append_left (by simpa using hk),Array.getElem?_modify,if_neg hne];rfl
theorem Zvr(F G:Gt)(w:Gy)(A B:OA)(c d:Nat)(a b:Gv)(ha:Ints F w A a)(hb:Ints G w B b)(hl:a.length<=17592186044415)(aN:b.length<=17592186044415):
  CN 122 #[.slice A a.length c,.slice B b.length d] w (.bool (ZiK a b)):=by
 have vG:=Zb7 a;have zX:=Zb7 b;have yD:=Qh vG;have zc:=Qh zX;clear vG zX;go_enter Tryz.func122,Tryz.ntmps122;go_wp2_with fail;refine(Zp5 F w A c a ha hl).mono ?_;rintro e w1 ⟨A1,c1,rfl,aW,hu1⟩;go_wp2_with fail;refine(Zp5 G _ B d b (hb.upd hu1 Qo) aN).mono ?_;rintro e w2 ⟨A2,c2,rfl,bi,hu2⟩;have fP:=Za aW hu2 Qo;have dB:=hu2.size;have kN:=aW.lt
 have kX:∀i,Value.ownBlock (.slice A1 a.length c1)=some i->¬Own (.slice A2 b.length c2) i:=fun i hi e=>by
  have h1:=(kN i hi).2;have h2:=(bi.lt i e).1;omega
 have rJ:=Qh kX;have BP:=Qh kN;clear kX kN aW;go_wp2_with fail;refine(Zi9 _ _ A1 c1 a fP hl).mono ?_;rintro e w3 ⟨rfl,cW,hu3⟩;have pd:=Za bi hu3 (fun i hi e=>rJ.out i e hi);go_wp2_with fail;refine(Zi9 _ _ A2 c2 b pd aN).mono ?_;rintro e w4 ⟨rfl,cU,hu4⟩;have pW:=Za cW hu4 (fun i hi e=>rJ.out i hi e);have yy:Ints (fun i=>w.heap.size<=i) w4 A1 (Zaj a):=Ints.of_own (n:=a.length) (c:=c1) pW;have z7:Ints (fun i=>w1.heap.size<=i) w4 A2 (Zaj b):=Ints.of_own (n:=b.length) (c:=c2) cU;have hq:=Zuu _ _ w4 A1 A2 c1 c2 (Zaj a) (Zaj b) yy z7 (by rw[yD.out];exact hl) (by rw[zc.out];exact aN);rw[yD.out,zc.out]at hq;have Hq:=Qh hq;clear hq;have ed:=hu1.trans hu2;have lR:Upd No w w3:=ed.then_ hu3 fun i e=> .inr (BP.out i e).1
 have nf:Upd No w w4:=lR.then_ hu4 fun i e=> .inr (by have:=(bi.lt i e).1;have:=hu1.size;omega)
 clear fP bi pd cW pW cU yy z7 hu3 hu4 ed lR;go_wp2_with fail;refine Ck Hq.out fun w5 hu5=>?_;go_wp2;go_ret;exact⟨rfl,nf.trans hu5⟩
