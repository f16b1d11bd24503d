/- Slices of ints: cloned, sorted, held against one another. -/
import Derived.Lib.SliceRun
import Derived.Shelf.Slices.In.SortNone
import Derived.Lib.SlicesCompact
import Derived.Test.YtonblekdfinpkaaGreatSyac
import Derived.Test.YtonblekdfinpkaaGreatSyad
import Derived.Test.YtonblekdfinpkaaGreatSyaf
namespace Go.Proofs.YtonblekdfinpkaaGreat
set_option linter.unusedVariables false
set_option linter.unusedSimpArgs false
section
open Go.RowKit
theorem Z6:SlT Tryz.prog 24 3 1 8:=SlT.mk_ Tryz.underlying24 (z:= .int .i64 0) (by kernel_rfl) rfl (by omega)
def Zf2 (w:World) (l:List Int) (e:Ending) (w':World):Prop:=∃A c,e= .returned (.slice A l.length c)∧w'.ownsRow w.heap.size 3 1 (.slice A l.length c) l.length (l.map (Value.int .i64))∧Upd No w w'
theorem Zle {W:World} {B n:Nat} {e:TypeId} (hn:n=W.heap.size) (hB:B≤W.heap.size):(W.alloc (.cells #[] e)).ownsRow B e 1 (.slice (some ⟨n,0,none⟩) 0 0) 0 []:=by
 subst hn;exact ZB (World.ownsRow_made W #[] 0 (Nat.le_refl _) (by decide) (by simp)) hB
theorem Zkn (F:Nat→Prop) (w:World) (A:Option Addr) (c:Nat) (l:List Int) (h:Ints F w A l) (hl:l.length≤17592186044415):
  Calls Tryz.prog 152 #[.slice A l.length c] w (Zf2 w l):=by
 have qT:∀(w:World) (a:Option Addr) (n c:Nat),(binOp .eql 24 (.slice a n c) (.slice none 0 0)).run Tryz.prog w= .ok (.bool a.isNone) w:=fun w a n c=>Lib.run_eql_slice_nil w _ _ a n c 0 0 Tryz.underlying24
 cases A with
 |none=>
  have h0:l=[]:=by
   cases l with
   |nil=>rfl
   |cons a l=>obtain⟨_,e,_⟩:=h (by simp);cases e
  subst h0
  go_enter Tryz.func152,Tryz.ntmps152
  go_wp2
  go_ret
  exact⟨none,0,rfl,World.ownsRow_nil _ _ _ _,Upd.refl _ _⟩
 |some ad=>
  have hs:=Qh (show Src (w.alloc (.cells #[] 3)) (some ad) l.length 1 (l.map (Value.int .i64)) from Ints.src (h.upd ((Upd.refl No w).alloc (.cells #[] 3)) (fun _ _=>id)))
  go_enter Tryz.func152,Tryz.ntmps152
  go_wp2_with (at_builtin;refine ZhI rfl rfl Z6 (base:=w.heap.size) (v:= .slice (some ⟨w.heap.size,0,none⟩) 0 0) (n:=0) (m:=l.length) (xs:=[]) rfl rfl (Zle rfl (Nat.le_refl _)) hs.out (Ints.one_ l) (by omega) (by omega) (by simp) ?_)
  intro v4 w4 hown4 hu4 hg4;obtain⟨A4,c4,rfl⟩:=ZaM hown4;have uw4:Upd No w w4:=((Upd.refl No w).alloc _).then_ hu4 (fun j e=> .inr (Zff e));go_wp2
  go_ret
  exact⟨A4,c4,rfl,hown4,uw4⟩
def ZS (l:List Int):List Int:=l.mergeSort fun x y=>decide (x≤y)
theorem Zb7 (l:List Int):(ZS l).length=l.length:=List.length_mergeSort ..
theorem Zgb (F:Array Int) (cs:Array Value) (h:F.size≤cs.size):Sort.putCells (Value.int .i64) 0 F cs=((F.toList.map (Value.int .i64))++cs.toList.drop F.size).toArray:=by
 apply Array.ext'
 apply List.ext_getElem?
 intro t;unfold Sort.putCells;simp only[Nat.zero_add,Nat.zero_le,true_and,Nat.sub_zero,Array.getElem?_toList,Array.getElem?_mapIdx]
 by_cases h1:t<F.size
 ·rw[List.getElem?_append_left (by simpa using h1),List.getElem?_map,Array.getElem?_toList,Array.getElem?_eq_getElem (show t<cs.size by omega),Array.getElem?_eq_getElem h1];simp[h1]
 ·rw[List.getElem?_append_right (by simpa using h1),List.getElem?_drop];simp only[List.length_map,Array.length_toList,Array.getElem?_toList];rw[show F.size+(t-F.size)=t by omega]
  cases cs[t]? <;>simp[h1]
theorem ZgO (w:World) (base:Nat) (A:Option Addr) (c:Nat) (l:List Int) (hown:w.ownsRow base 3 1 (.slice A l.length c) l.length (l.map (Value.int .i64))) (hl:l.length≤17592186044415):
  Calls Tryz.prog 153 #[.slice A l.length c] w fun e w'=>e= .returned (.tuple #[])∧w'.ownsRow base 3 1 (.slice A l.length c) l.length ((ZS l).map (Value.int .i64))∧Upd (Own (.slice A l.length c)) w w':=by
 rcases hown.2 with ⟨hv,hn⟩|⟨g,cap,cur,hv,hbg,hg,hnc,hcm,hcs,htake⟩
 ·have hl0:l=[]:=List.eq_nil_of_length_eq_zero hn;subst hl0;refine Calls.mono (Any.slices_Sort_int_none Zf5 A c w) ?_;rintro e w' ⟨rfl,rfl⟩;exact⟨rfl,by rw[show ZS []=[] by unfold ZS;simp];exact hown,Upd.refl _ _⟩
 ·cases hv
  have hb:Blk w g 3 cur.toList:=by unfold Blk;rw[Array.toArray_toList];exact hg
  have hcs':cur.size=c:=by simpa using hcs
  have htake':cur.toList.take l.length=l.map (Value.int .i64):=by simpa using htake
  have hH:Sort.Holds (Value.int .i64) w g 0 l.toArray:=fun j hj=>by
   simp only[List.size_toArray]at hj;rw[Nat.zero_add];refine⟨?_,hb.free j⟩;rw[hb.cell j];have h1:(cur.toList.take l.length)[j]? =cur.toList[j]? :=by rw[List.getElem?_take,if_pos hj]
   rw[←h1,htake',List.getElem?_map,Qg hj];simp[hj]
  have hlt:=hb.lt;refine Calls.mono (Any.slices_Sort_int Zf5 g 0 c l w hH hlt (by omega)) ?_;rintro e w' ⟨rfl,n,os,rfl⟩
  have e1:(Sort.grow (Sort.putRow (Value.int .i64) (Sort.ahead w n) g 0 (l.mergeSort fun x y=>decide (x≤y)).toArray) os).heap[g]? =some (.cells (Sort.putCells (Value.int .i64) 0 (ZS l).toArray cur) 3 (0,0)):=by
   unfold Sort.grow Sort.putRow Sort.mapBlock;simp only;rw[Array.getElem?_append_left (by simpa using hlt),Array.getElem?_modify];simp only[if_true];rw[show(Sort.ahead w n).heap=w.heap from rfl,hg];rfl
  have hsl:=Zb7 l;rw[Zgb _ _ (by simp only[List.size_toArray];omega)]at e1;refine⟨rfl,⟨by simp[hsl],.inr ⟨g,c,_,rfl,hbg,e1,hnc,hcm,?_,?_⟩⟩,⟨rfl,rfl,rfl,?_,fun k hk hn=> ?_⟩⟩
  ·simp[hsl];omega
  ·simp[hsl]
  ·unfold Sort.grow Sort.putRow Sort.mapBlock;simp only[Array.size_append,Array.size_modify]
   show w.heap.size≤w.heap.size+os.size
   omega
  ·have hne:g≠k:=fun e=>hn (by unfold Own;rw[e];rfl)
   unfold Sort.grow Sort.putRow Sort.mapBlock;simp only;rw[Array.getElem?_append_left (by simpa using hk),Array.getElem?_modify,if_neg hne];rfl
theorem Zhz {w:World} {a:Addr} {v:Value} (h:w.cell? a=some v):a=⟨a.block,a.off,none⟩:=by
 obtain⟨b,o,s⟩:=a
 cases s with
 |none=>rfl
 |some s=>
  unfold World.cell? at h
  split at h
  ·simp at h
  ·cases h
theorem ZmI (b o j:Nat):(⟨b,o,none⟩:Addr).add j=⟨b,o+j,none⟩:=by unfold Addr.add;split<;>simp_all
theorem Ints.cells_ {F:Nat→Prop} {w:World} {A:Option Addr} {l:List Int} (h:Ints F w A l) (hne:l≠[]):∃b o,A=some ⟨b,o,none⟩∧∀j,j<l.length→w.cell? ⟨b,o+j,none⟩=some (.int .i64 (l.getD j 0)):=by
 obtain⟨ad,e,_,_,hc⟩:=h hne;have h0:0<l.length:=List.length_pos_iff.2 hne;have c0:=hc 0 _ (Qg h0);have ha:ad.add 0=ad:=by unfold Addr.add;simp
 rw[ha]at c0;have hf:=Zhz c0;refine⟨ad.block,ad.off,by rw[e,←hf],fun j hj=> ?_⟩;have cj:=hc j _ (Qg hj);rw[hf]at cj;rw[ZmI]at cj;rw[cj,List.getD_eq_getElem?_getD,Qg hj];rfl
set_option maxRecDepth 100000 in
theorem Zkl (F G:Nat→Prop) (w:World) (A B:Option Addr) (c d:Nat) (xs ys:List Int) (hx:Ints F w A xs) (hy:Ints G w B ys) (hl:xs.length≤17592186044415) (hl2:ys.length≤17592186044415):
  Calls Tryz.prog 154 #[.slice A xs.length c,.slice B ys.length d] w fun e w'=>e= .returned (.bool (xs==ys))∧Upd No w w':=by
 by_cases h0:xs=[]
 ·subst h0;refine Calls.mono (AnyG.slices_Equal_int_empty Zfw A B c ys.length d w (by omega)) ?_;rintro e w' ⟨rfl,rfl⟩;refine⟨?_,Upd.refl _ _⟩
  cases ys<;>rfl
 ·by_cases h1:ys=[]
  ·subst h1;have hne:0<xs.length:=List.length_pos_iff.2 h0;have hf:(xs==[])=false:=by rw[beq_eq_false_iff_ne];exact h0
   have hb:((xs.length:Int) != ((0:Nat):Int))=true:=by rw[bne_iff_ne];omega
   have Hf:=Qh hf;clear hf h0
   go_enter Tryz.func154,Tryz.ntmps154
   go_wp2
   go_ret
   exact⟨by rw[Hf.out];rfl,Upd.refl _ _⟩
  ·obtain⟨b1,o1,rfl,hc1⟩:=hx.cells_ h0;obtain⟨b2,o2,rfl,hc2⟩:=hy.cells_ h1;refine Calls.mono (AnyG.slices_Equal_int Zfw b1 o1 xs.length c b2 o2 ys.length d xs ys w (Nat.le_refl _) (Nat.le_refl _) (by omega) (by omega) hc1 hc2) ?_;rintro e w' ⟨rfl,q,rfl⟩;rw[List.take_length,List.take_length];exact⟨rfl,(Upd.refl _ _).drewN q⟩
theorem Ints.of_owned {w:World} {base:Nat} {A:Option Addr} {c:Nat} {l:List Int} (h:w.ownsRow base 3 1 (.slice A l.length c) l.length (l.map (Value.int .i64))):Ints (fun i=>base≤i) w A l:=Ints.of_own h
def Zde (a b:List Int):Bool:=ZS a==ZS b
set_option maxRecDepth 100000 in
theorem Zom (F G:Nat→Prop) (w:World) (A B:Option Addr) (c d:Nat) (a b:List Int) (ha:Ints F w A a) (hb:Ints G w B b) (hl:a.length≤17592186044415) (hl2:b.length≤17592186044415):
  Calls Tryz.prog 73 #[.slice A a.length c,.slice B b.length d] w fun e w'=>e= .returned (.bool (Zde a b))∧Upd No w w':=by
 have hsa:=Zb7 a;have hsb:=Zb7 b;have Hsa:=Qh hsa;have Hsb:=Qh hsb;clear hsa hsb
 go_enter Tryz.func73,Tryz.ntmps73
 go_wp2_with fail
 refine(Zkn F w A c a ha hl).mono ?_;rintro e w1 ⟨A1,c1,rfl,ho1,hu1⟩
 go_wp2_with fail
 refine(Zkn G _ B d b (hb.upd hu1 (fun _ _=>id)) hl2).mono ?_;rintro e w2 ⟨A2,c2,rfl,ho2,hu2⟩;have ho1':=Zb ho1 hu2 (fun _ _=>id);have hz2:=hu2.size;have hlt1:=ho1.lt
 have hap:∀i,Value.ownBlock (.slice A1 a.length c1)=some i→¬Own (.slice A2 b.length c2) i:=fun i hi e=>by
  have h1:=(hlt1 i hi).2;have h2:=(ho2.lt i e).1;omega
 have Hap:=Qh hap;have Hlt:=Qh hlt1;clear hap hlt1 ho1
 go_wp2_with fail
 refine(ZgO _ _ A1 c1 a ho1' hl).mono ?_;rintro e w3 ⟨rfl,ho3,hu3⟩;have ho2':=Zb ho2 hu3 (fun i hi e=>Hap.out i e hi)
 go_wp2_with fail
 refine(ZgO _ _ A2 c2 b ho2' hl2).mono ?_;rintro e w4 ⟨rfl,ho4,hu4⟩;have ho3':=Zb ho3 hu4 (fun i hi e=>Hap.out i hi e);have hI1:Ints (fun i=>w.heap.size≤i) w4 A1 (ZS a):=Ints.of_own (n:=a.length) (c:=c1) ho3';have hI2:Ints (fun i=>w1.heap.size≤i) w4 A2 (ZS b):=Ints.of_own (n:=b.length) (c:=c2) ho4;have hq:=Zkl _ _ w4 A1 A2 c1 c2 (ZS a) (ZS b) hI1 hI2 (by rw[Hsa.out];exact hl) (by rw[Hsb.out];exact hl2);rw[Hsa.out,Hsb.out]at hq;have Hq:=Qh hq;clear hq;have hu12:=hu1.trans hu2;have hu123:Upd No w w3:=hu12.then_ hu3 fun i e=> .inr (Hlt.out i e).1
 have hu1234:Upd No w w4:=hu123.then_ hu4 fun i e=> .inr (by have:=(ho2.lt i e).1;have:=hu1.size;omega)
 clear ho1' ho2 ho2' ho3 ho3' ho4 hI1 hI2 hu3 hu4 hu12 hu123
 go_wp2_with fail
 refine(Hq.out).mono ?_;rintro e w5 ⟨rfl,hu5⟩;go_wp2
 go_ret
 exact⟨rfl,hu1234.trans hu5⟩
end
/- Lists of numbers:sorted by putting one after another,each once. -/
section
def ZeQ (x:Int):List Int→List Int
 |[]=>[x]
 |y::l=>if x≤y then x::y::l else y::ZeQ x l
def Zat:List Int→List Int
 |[]=>[]
 |x::l=>ZeQ x (Zat l)
theorem Zd0 (x:Int):∀l:List Int,(ZeQ x l).Perm (x::l)
 |[]=>List.Perm.refl _
 |y::l=>by
  unfold ZeQ
  split
  ·exact List.Perm.refl _
  ·exact((Zd0 x l).cons y).trans (List.Perm.swap x y l)
theorem Zo:∀l:List Int,(Zat l).Perm l
 |[]=>List.Perm.refl _
 |x::l=>(Zd0 x _).trans ((Zo l).cons x)
theorem Zin (x:Int):∀l:List Int,l.Pairwise (·≤·)→(ZeQ x l).Pairwise (·≤·)
 |[],_=>by simp[ZeQ]
 |y::l,h=>by
  rw[List.pairwise_cons]at h;unfold ZeQ
  split
  ·rename_i hxy
   rw[List.pairwise_cons];refine⟨fun a ha=> ?_,List.pairwise_cons.2 h⟩;rcases List.mem_cons.1 ha with rfl|ha
   ·exact hxy
   ·exact Int.le_trans hxy (h.1 a ha)
  ·rename_i hxy
   rw[List.pairwise_cons];refine⟨fun a ha=> ?_,Zin x l h.2⟩;rcases List.mem_cons.1 ((Zd0 x l).mem_iff.1 ha)with rfl|ha
   ·omega
   ·exact h.1 a ha
theorem Za0:∀l:List Int,(Zat l).Pairwise (·≤·)
 |[]=>List.Pairwise.nil
 |x::l=>Zin x _ (Za0 l)
theorem ZkO (l:List Int):(ZS l).Pairwise (·≤·):=by
 have:=List.pairwise_mergeSort (le:=fun x y:Int=>decide (x≤y)) (fun a b c h k=>by simp only[decide_eq_true_eq]at*;omega) (fun a b=>by simp only[Bool.or_eq_true,decide_eq_true_eq];omega) l;unfold ZS;exact this.imp fun h=>by simpa using h
theorem ZcF {a b:List Int} (h:a.Perm b) (ha:a.Pairwise (·≤·)) (hb:b.Pairwise (·≤·)):a=b:=
 List.Perm.eq_of_pairwise (le:=fun x y=>x≤y) (fun x y _ _ h1 h2=>Int.le_antisymm h1 h2) ha hb h
theorem Za1 (l:List Int):ZS l=Zat l:=
 ZcF (((List.mergeSort_perm _ _)).trans (Zo l).symm) (ZkO l) (Za0 l)
theorem ZgJ {a b:List Int} (h:a.Perm b):Zat a=Zat b:=ZcF (((Zo a).trans h).trans (Zo b).symm) (Za0 a) (Za0 b)
def ddI (l:List Int):Nat→List Int
 |0=>[]
 |k+1=>ddI l k++(match l[k]? with|none=>[]|some x=>if k=0 then [x] else if l[k-1]? =some x then [] else [x])
theorem Zdx (l:List Int) (k:Nat):ddI l (k+1)=ddI l k++(match l[k]? with|none=>[]|some x=>if k=0 then [x] else if l[k-1]? =some x then [] else [x]):=rfl
theorem Zd8 (l:List Int):∀k,k≤l.length→Lib.compactUpTo l.toArray k=ddI l k
 |0,_=>rfl
 |k+1,h=>by
  rw[Lib.compactUpTo_succ,Zd8 l k (by omega)];rw[Zdx];have hk:l[k]? =some l[k]:=Qg (by omega);rw[hk];have e1:l.toArray[k]! =l[k]:=by simp[show k<l.length by omega]
  simp only[e1];unfold Lib.keeps
  by_cases h0:k=0
  ·subst h0;simp
  ·have hk1:l[k-1]? =some l[k-1]:=Qg (by omega);have e2:l.toArray[k-1]! =l[k-1]:=by simp[show k-1<l.length by omega]
   rw[if_neg h0,hk1];simp only[e1,e2,h0,Option.some.injEq]
   by_cases h1:l[k-1]=l[k]
   ·simp[h1]
   ·have h2:¬l[k]=l[k-1]:=fun e=>h1 e.symm
    simp[h1,h2]
theorem Zfz (l:List Int):Lib.compact l=ddI l l.length:=Zd8 l l.length (Nat.le_refl _)
theorem ZfV (l:List Int):∀k,(ddI l k).length≤k
 |0=>Nat.le_refl _
 |k+1=>by
  rw[Zdx];have:=ZfV l k;rw[List.length_append]
  split
  ·simp;omega
  ·split
   ·simp;omega
   ·split<;>simp<;>omega
theorem ZfP (l:List Int) (a:Int):∀k,k≤l.length→(a∈ddI l k↔a∈l.take k)
 |0,_=>by simp[ddI]
 |k+1,h=>by
  have ih:=ZfP l a k (by omega);rw[Zdx];rw[Qg (show k<l.length by omega),List.take_succ_eq_append_getElem (show k<l.length by omega),List.mem_append,List.mem_append,ih]
  by_cases h0:k=0
  ·subst h0;simp
  ·simp only[if_neg h0]
   by_cases h1:l[k-1]? =some l[k]
   ·rw[if_pos h1]
    have hm:l[k]∈l.take k:=by
     rw[List.mem_take_iff_getElem];refine⟨k-1,by omega,?_⟩;rw[Qg (by omega)]at h1
     simpa using h1
    constructor
    ·rintro(h|h)
     ·exact .inl h
     ·simp at h
    ·rintro(h|h)
     ·exact .inl h
     ·simp only[List.mem_singleton]at h;subst h;exact .inl hm
   ·rw[if_neg h1]
theorem Zkx (l:List Int) (hs:l.Pairwise (·≤·)):∀k,k≤l.length→(ddI l k).Pairwise (·<·)
 |0,_=>List.Pairwise.nil
 |k+1,h=>by
  have ih:=Zkx l hs k (by omega);rw[Zdx];rw[Qg (show k<l.length by omega)]
  by_cases h0:k=0
  ·subst h0;simp[ddI]
  ·simp only[if_neg h0]
   by_cases h1:l[k-1]? =some l[k]
   ·rw[if_pos h1,List.append_nil];exact ih
   ·rw[if_neg h1,List.pairwise_append];refine⟨ih,by simp,fun a ha b hb=> ?_⟩;simp only[List.mem_singleton]at hb;subst hb;rw[ZfP l a k (by omega),List.mem_take_iff_getElem]at ha;obtain⟨j,hj,rfl⟩:=ha;have hp:=List.pairwise_iff_getElem.1 hs
    have e1:l[j]≤l[k-1]:=by
     by_cases e:j=k-1
     ·subst e;exact Int.le_refl _
     ·exact hp j (k-1) (by omega) (by omega) (by omega)
    have e2:l[k-1]≤l[k]:=hp (k-1) k (by omega) (by omega) (by omega);have e3:l[k-1]≠l[k]:=fun e=>h1 (by rw[Qg (by omega),e])
    omega
def Zam (l:List Int):List Int:=ddI (Zat l) (Zat l).length
theorem ZaC (l:List Int) (a:Int):a∈Zam l↔a∈l:=by
 unfold Zam;rw[ZfP _ _ _ (Nat.le_refl _),List.take_length];exact(Zo l).mem_iff
theorem ZaR (l:List Int):(Zam l).Pairwise (·<·):=Zkx _ (Za0 l) _ (Nat.le_refl _)
theorem ZaB (l:List Int):(Zam l).length≤l.length:=by
 unfold Zam;have:=ZfV (Zat l) (Zat l).length;rw[(Zo l).length_eq]at this ⊢;exact this
theorem Zg6 (l:List Int):Lib.compact (ZS l)=Zam l:=by rw[Za1,Zfz];rfl
end
end Go.Proofs.YtonblekdfinpkaaGreat
