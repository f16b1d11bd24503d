/- Slices of ints: sorted. -/
import Derived.Shelf.Slices.In.SortNone
import Derived.Test.YtadmgiljchgccaaGreatLaySortI
import Derived.Test.YtadmgiljchgccaaGreatTcaf
namespace Go.Proofs.YtadmgiljchgccaaGreat
open Go.RowKit
set_option linter.unusedVariables false
set_option linter.unusedSimpArgs false
set_option maxRecDepth 100000
theorem Zkl(F:Array Int)(cs:Io)(h:F.size<=cs.size):Sort.putCells (Value.int .i64) 0 F cs=((F.toList.map (Value.int .i64))++cs.toList.drop F.size).toArray:=by
 apply Array.ext'
 apply List.ext_getElem?
 intro t;unfold Sort.putCells;simp only[Nat.zero_add,Nat.zero_le,true_and,Nat.sub_zero,Array.getElem?_toList,Array.getElem?_mapIdx]
 by_cases h1:t<F.size
 ·rw[List.getElem?_append_left (by simpa using h1),List.getElem?_map,Array.getElem?_toList,Array.getElem?_eq_getElem (show t<cs.size by omega),Array.getElem?_eq_getElem h1];simp[h1]
 ·rw[List.getElem?_append_right (by simpa using h1),List.getElem?_drop];simp only[Hw,Array.length_toList,Array.getElem?_toList];rw[show F.size+(t-F.size)=t by omega]
  cases cs[t]? <;>simp[h1]
theorem Zgb(w:I0)(base:Nat)(A:OA)(c:Nat)(l:Iv)(ae:w.ownsRow base 3 1 (.slice A l.length c) l.length (l.map (Value.int .i64)))(hl:l.length<=17592186044415):
  Calls Tryz.prog 48 #[.slice A l.length c] w fun e w'=>e= .returned (.tuple #[])∧w'.ownsRow base 3 1 (.slice A l.length c) l.length ((Z1 l).map (Value.int .i64))∧Upd (Own (.slice A l.length c)) w w':=by
 rcases ae.2 with ⟨hv,hn⟩|⟨g,cap,cur,hv,nh,hg,bG,eK,cf,bj⟩
 ·have hl0:l=[]:=Gd hn;subst hl0;refine Calls.mono (Any.slices_Sort_int_none sortI_lay A c w) ?_;rintro e w' ⟨rfl,rfl⟩;exact⟨rfl,by rw[show Z1 []=[] by unfold Z1;simp];exact ae,Il _ _⟩
 ·cases hv
  have hb:Blk w g 3 cur.toList:=by unfold Blk;rw[Array.toArray_toList];exact hg
  have uG:cur.size=c:=by simpa using cf
  have ig:cur.toList.take l.length=l.map (Value.int .i64):=by simpa using bj
  have hH:Sort.Holds (Value.int .i64) w g 0 l.toArray:=fun j hj=>by
   simp only[List.size_toArray]at hj;rw[Nat.zero_add];refine⟨?_,hb.free j⟩;rw[hb.cell j];have h1:(cur.toList.take l.length)[j]? =cur.toList[j]? :=by rw[List.getElem?_take,if_pos hj]
   rw[<-h1,ig,List.getElem?_map,Qg hj];simp[hj]
  have hlt:=hb.lt;refine Calls.mono (Any.slices_Sort_int sortI_lay g 0 c l w hH hlt (by omega)) ?_;rintro e w' ⟨rfl,n,os,rfl⟩
  have e1:(Sort.grow (Sort.putRow (Value.int .i64) (Sort.ahead w n) g 0 (l.mergeSort fun x y=>decide (x<=y)).toArray) os).heap[g]? =some (.cells (Sort.putCells (Value.int .i64) 0 (Z1 l).toArray cur) 3 (0,0)):=by
   unfold Sort.grow Sort.putRow Sort.mapBlock;simp only;rw[Array.getElem?_append_left (by simpa using hlt),Array.getElem?_modify];simp only[if_true];rw[show(Sort.ahead w n).heap=w.heap from rfl,hg];rfl
  have im:=Zbk l;rw[Zkl _ _ (by simp only[List.size_toArray];omega)]at e1;refine⟨rfl,⟨by simp[im],.inr ⟨g,c,_,rfl,nh,e1,bG,eK,?_,?_⟩⟩,⟨rfl,rfl,rfl,?_,fun k hk hn=>?_⟩⟩
  ·simp[im];omega
  ·simp[im]
  ·unfold Sort.grow Sort.putRow Sort.mapBlock;simp only[Array.size_append,Array.size_modify]
   show w.heap.size<=w.heap.size+os.size
   omega
  ·have hne:g≠k:=fun e=>hn (by unfold Own;rw[e];rfl)
   unfold Sort.grow Sort.putRow Sort.mapBlock;simp only;rw[Array.getElem?_append_left (by simpa using hk),Array.getElem?_modify,if_neg hne];rfl
theorem Zxb(F G:Iw)(w:I0)(A B:OA)(c d:Nat)(a b:Iv)(ha:Ints F w A a)(hb:Ints G w B b)(hl:a.length<=17592186044415)(bC:b.length<=17592186044415):
  CN 34 #[.slice A a.length c,.slice B b.length d] w (.bool (ZiM a b)):=by
 have zG:=Zbk a;have BD:=Zbk b;have Aj:=Qh zG;have B8:=Qh BD;clear zG BD;go_enter Tryz.func34,Tryz.ntmps34;go_wp2_with fail;refine(ZfG F w A c a ha hl).mono ?_;rintro e w1 ⟨A1,c1,rfl,cn,hu1⟩;go_wp2_with fail;refine(ZfG G _ B d b (hb.upd hu1 Qo) bC).mono ?_;rintro e w2 ⟨A2,c2,rfl,cE,hu2⟩;have gy:=Za cn hu2 Qo;have eI:=hu2.size;have ji:=cn.lt
 have ni:∀i,Value.ownBlock (.slice A1 a.length c1)=some i->¬Own (.slice A2 b.length c2) i:=fun i hi e=>by
  have h1:=(ji i hi).2;have h2:=(cE.lt i e).1;omega
 have tC:=Qh ni;have Dt:=Qh ji;clear ni ji cn;go_wp2_with fail;refine(Zgb _ _ A1 c1 a gy hl).mono ?_;rintro e w3 ⟨rfl,j6,hu3⟩;have pR:=Za cE hu3 (fun i hi e=>tC.out i e hi);go_wp2_with fail;refine(Zgb _ _ A2 c2 b pR bC).mono ?_;rintro e w4 ⟨rfl,aW,hu4⟩;have qS:=Za j6 hu4 (fun i hi e=>tC.out i hi e);have rF:Ints (fun i=>w.heap.size<=i) w4 A1 (Z1 a):=Ints.of_own (n:=a.length) (c:=c1) qS;have Ao:Ints (fun i=>w1.heap.size<=i) w4 A2 (Z1 b):=Ints.of_own (n:=b.length) (c:=c2) aW;have hq:=Zwf _ _ w4 A1 A2 c1 c2 (Z1 a) (Z1 b) rF Ao (by rw[Aj.out];exact hl) (by rw[B8.out];exact bC);rw[Aj.out,B8.out]at hq;have Hq:=Qh hq;clear hq;have db:=hu1.trans hu2;have l7:Upd No w w3:=db.then_ hu3 fun i e=> .inr (Dt.out i e).1
 have oB:Upd No w w4:=l7.then_ hu4 fun i e=> .inr (by have:=(cE.lt i e).1;have:=hu1.size;omega)
 clear gy cE pR j6 qS aW rF Ao hu3 hu4 db l7;go_wp2_with fail;refine Ck Hq.out fun w5 hu5=>?_;go_wp2;go_ret;exact⟨rfl,oB.trans hu5⟩
