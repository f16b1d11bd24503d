/- An index: versions are sorted (slices.SortFunc, index.compare). -/
import Derived.Shelf.SlSortCmp.NoneTotal
import Derived.Lib.SliceRun
import Derived.Test.YtblplapkdmhikaaDxad
import Derived.Test.YtblplapkdmhikaaDxav
import Derived.Test.YtblplapkdmhikaaDxbe
import Derived.Test.YtblplapkdmhikaaDxbg
import Derived.Test.YtblplapkdmhikaaDxbh
namespace Go.Proofs.Ytblplapkdmhikaa
set_option linter.unusedVariables false
set_option linter.unusedSimpArgs false
section
open Go.RowKit
theorem Grw.trans2 {a b c:World} (h:Grw a b) (k:Grw b c):Grw a c:=by
 obtain⟨q,o1,rfl⟩:=h;obtain⟨r,o2,rfl⟩:=k;exact⟨q+r,o1++o2,by unfold Sort.grow World.drewN;simp[Nat.add_assoc,Array.append_assoc]⟩
instance:Inhabited Ver:=⟨⟨0,0,0⟩⟩
def Za1 (a b:Ver):Int:=if a.tx≠b.tx then ZW a.tx b.tx else if a.key≠b.key then ZW a.key b.key else ZW a.nth b.nth
theorem Zau (a b:Ver):ltOf Za1 a b=Zs a b:=by
 unfold ltOf Za1 Zs
 by_cases h1:a.tx=b.tx
 ·by_cases h2:a.key=b.key
  ·simp only[h1,h2,ne_eq,not_true_eq_false,if_false,if_true]
   by_cases h3:a.nth=b.nth
   ·rw[h3,ZbU];simp
   ·exact(Zbm h3).2
  ·simp only[h1,h2,ne_eq,not_true_eq_false,if_false,if_true,not_false_eq_true];exact(Zbm h2).2
 ·simp only[h1,ne_eq,if_false,if_true,not_false_eq_true];exact(Zbm h1).2
theorem ZaM (a b:Ver):Zs a b=false↔b.tx<a.tx∨(b.tx=a.tx∧(b.key<a.key∨(b.key=a.key∧b.nth≤a.nth))):=by
 rw[←Bool.not_eq_true,ZaN];omega
theorem Zg0:Sort.SWO (ltOf Za1) where
 irrefl x:=by rw[Zau,←Bool.not_eq_true];exact Zby x
 trans x y z h1 h2:=by rw[Zau]at*;exact ZaY _ _ _ h1 h2
 ntrans x y z h1 h2:=by rw[Zau,ZaM]at*;omega
def Z5 (l:List Ver):List Ver:=l.mergeSort fun x y=> !(ltOf Za1) y x
theorem Zfj {l:List Ver} (h:l.Nodup):(Z5 l).Pairwise fun a b=>Zs a b=true:=by
 have h1:(Z5 l).Pairwise fun a b=>(!(ltOf Za1) b a)=true:=by
  unfold Z5;refine List.pairwise_mergeSort (fun a b c h1 h2=> ?_) (fun a b=> ?_) l
  ·simp only[Bool.not_eq_true',Zau]at*;rw[ZaM]at*;omega
  ·simp only[Bool.or_eq_true,Bool.not_eq_true',Zau];rw[ZaM,ZaM];omega
 have h2:(Z5 l).Nodup:=(List.mergeSort_perm l _).nodup_iff.2 h;refine(h1.and h2).imp fun {a b} hab=> ?_
 rcases hab with ⟨h3,h4⟩
 simp only[Bool.not_eq_true',Zau]at h3;exact ZaL b a (by rw[h3];decide) (fun e=>h4 e.symm)
theorem ZeB (l:List Ver) (a:Ver):a∈Z5 l↔a∈l:=(List.mergeSort_perm l _).mem_iff
theorem ZcH (l:List Ver):(Z5 l).length=l.length:=List.length_mergeSort ..
def ZaW (a b c:Int):Int:=if a≠0 then a else if b≠0 then b else c
theorem or3 (w:World) (g:Nat) (a b c:Int) (hb:Blk w g 3 [.int .i64 a,.int .i64 b,.int .i64 c]):Calls Try.prog 95 #[.slice (some ⟨g,0,none⟩) 3 3] w fun e w'=>e= .returned (.int .i64 (ZaW a b c))∧w=w':=by
 have g0:=hb.cell 0;have g1:=hb.cell 1;have g2:=hb.cell 2;simp only[Qz,Qs]at g0 g1 g2;clear hb
 by_cases h1:a=0
 ·have b1:(a != 0)=false:=by rw[h1];rfl
  by_cases h2:b=0
  ·have b2:(b != 0)=false:=by rw[h2];rfl
   by_cases h3:c=0
   ·have b3:(c != 0)=false:=by rw[h3];rfl
    have H:=Qh (show ZaW a b c=0 by unfold ZaW;simp[h1,h2,h3]);clear h1 h2 h3
    go_enter Try.func95,Try.ntmps95
    go_wp2;refine wp_loop_rounds 4 ?_;rw[rounds_succ];go_wp2;rw[rounds_succ];go_wp2;rw[rounds_succ];go_wp2;rw[rounds_succ];go_wp2
    go_ret
    exact⟨by rw[H.out];rfl,rfl⟩
   ·have b3:(c != 0)=true:=by simpa using h3
    have H:=Qh (show ZaW a b c=c by unfold ZaW;simp[h1,h2]);clear h1 h2 h3
    go_enter Try.func95,Try.ntmps95
    go_wp2;refine wp_loop_rounds 3 ?_;rw[rounds_succ];go_wp2;rw[rounds_succ];go_wp2;rw[rounds_succ];go_wp2
    go_ret
    exact⟨by rw[H.out];rfl,rfl⟩
  ·have b2:(b != 0)=true:=by simpa using h2
   have H:=Qh (show ZaW a b c=b by unfold ZaW;simp[h1,h2]);clear h1 h2
   go_enter Try.func95,Try.ntmps95
   go_wp2;refine wp_loop_rounds 2 ?_;rw[rounds_succ];go_wp2;rw[rounds_succ];go_wp2
   go_ret
   exact⟨by rw[H.out];rfl,rfl⟩
 ·have b1:(a != 0)=true:=by simpa using h1
  have H:=Qh (show ZaW a b c=a by unfold ZaW;simp[h1]);clear h1
  go_enter Try.func95,Try.ntmps95
  go_wp2;refine wp_loop_rounds 1 ?_;rw[rounds_succ];go_wp2
  go_ret
  exact⟨by rw[H.out];rfl,rfl⟩
theorem Zfs (x y:Ver):ZaW (ZW x.tx y.tx) (ZW x.key y.key) (ZW x.nth y.nth)=Za1 x y:=by
 unfold ZaW Za1
 by_cases h1:x.tx=y.tx
 ·rw[h1,ZbU]
  by_cases h2:x.key=y.key
  ·rw[h2,ZbU];simp
  ·simp[h2,(Zbm h2).1]
 ·simp[h1,(Zbm h1).1]
set_option maxRecDepth 100000 in
set_option maxHeartbeats 2000000 in
theorem Zex (w:World) (x y:Ver):Calls Try.prog 67 #[.agg x.cells.toArray,.agg y.cells.toArray] w fun e w'=>e= .returned (.int .i64 (Za1 x y))∧Grw w w':=by
 have HV:=Qh (Zfs x y);obtain⟨a1,ha1⟩:∃n,ZW x.tx y.tx=n:=⟨_,rfl⟩;obtain⟨a2,ha2⟩:∃n,ZW x.key y.key=n:=⟨_,rfl⟩;obtain⟨a3,ha3⟩:∃n,ZW x.nth y.nth=n:=⟨_,rfl⟩;rw[ha1,ha2,ha3]at HV;have C1:=Qh (fun W=>ZdH W x.tx y.tx);have C2:=Qh (fun W=>ZdH W x.key y.key);have C3:=Qh (fun W=>ZdH W x.nth y.nth);rw[ha1]at C1;rw[ha2]at C2;rw[ha3]at C3;clear ha1 ha2 ha3;obtain⟨xt,xk,xn⟩:=x;obtain⟨yt,yk,yn⟩:=y;unfold Ver.cells;simp only at C1 C2 C3 ⊢;obtain⟨z,hz⟩:∃z,w.heap.size=z:=⟨_,rfl⟩;obtain⟨w1,hw1⟩:∃w1,w.alloc (.cells #[.int .i64 xt,.int .i64 xk,.int .i64 xn] 28)=w1:=⟨_,rfl⟩;have s1:w1.heap.size=z+1:=by rw[←hw1,←hz];simp
 obtain⟨w2,hw2⟩:∃w2,w1.alloc (.cells #[.int .i64 yt,.int .i64 yk,.int .i64 yn] 28)=w2:=⟨_,rfl⟩;have u2:Upd No w1 w2:=by rw[←hw2];exact(Upd.refl No w1).alloc _
 have b1:Blk w1 z 28 [.int .i64 xt,.int .i64 xk,.int .i64 xn]:=by rw[←hw1,←hz];exact Blk.new w _ _
 have b2:Blk w2 (z+1) 28 [.int .i64 yt,.int .i64 yk,.int .i64 yn]:=by rw[←hw2,←s1];exact Blk.new w1 _ _
 have x0:∀W,Grw w2 W→W.cell? ⟨z,0,none⟩=some (.int .i64 xt):=fun W u=>(b1.upd (u2.trans u.upd) id).cell 0
 have x1:∀W,Grw w2 W→W.cell? ⟨z,1,none⟩=some (.int .i64 xk):=fun W u=>(b1.upd (u2.trans u.upd) id).cell 1
 have x2:∀W,Grw w2 W→W.cell? ⟨z,2,none⟩=some (.int .i64 xn):=fun W u=>(b1.upd (u2.trans u.upd) id).cell 2
 have y0:∀W,Grw w2 W→W.cell? ⟨z+1,0,none⟩=some (.int .i64 yt):=fun W u=>(b2.upd u.upd id).cell 0
 have y1:∀W,Grw w2 W→W.cell? ⟨z+1,1,none⟩=some (.int .i64 yk):=fun W u=>(b2.upd u.upd id).cell 1
 have y2:∀W,Grw w2 W→W.cell? ⟨z+1,2,none⟩=some (.int .i64 yn):=fun W u=>(b2.upd u.upd id).cell 2
 have hr:Grw w2 w2:=Grw.refl _;have G0:=Qh (show Grw w w2 by rw[←hw2,←hw1];exact((Grw.refl _).alloc _).alloc _);clear u2 b1 b2
 go_enter Try.func67,Try.ntmps67
 go_wp2;have hG1:Grw w2 w2.drew:=(Grw.refl w2).drewN 1;refine wp_region_noPanic ?_;refine wp_region_held_drew (S:=(fun W'=>Grw w2 W')) (by kernel_rfl) ?_ (fun hHeld=> ?_)
 ·(first|exact hG1|exact hHeld|exact hHeld.alloc _|exact hG6)
 refine wpK 0 rfl ?_;refine wpK 1 rfl ?_;refine wpK 2 rfl ?_;refine wpK 3 rfl ?_;refine wpK 5 rfl ?_;refine wpK 6 rfl ?_;refine wpK 7 rfl ?_;refine wpK 8 rfl ?_;refine wpK 10 rfl ?_;refine wpK 11 rfl ?_;refine wpK 12 rfl ?_;refine wpK 13 rfl ?_;refine wpR [4] ?_;refine wpC rfl (fun K hK=> ?_) AllReadyH.nil;go_simp
 (first
  |(go_at_call 96;refine(C1.out _).mono ?_;rintro e w4 ⟨rfl,rfl⟩))
 try (go_wp2_with fail)
 refine hK.out _ _ ?_ (fun hHeld=> ?_)
 ·(first|exact hG1|exact hHeld|exact hHeld.alloc _|exact hG6)
 clear hK K
 try simp only[Act.put,sT,sS,sZ]
 refine wpR [9] ?_;refine wpC rfl (fun K hK=> ?_) AllReadyH.nil;go_simp
 (first
  |(go_at_call 96;refine(C2.out _).mono ?_;rintro e w4 ⟨rfl,rfl⟩))
 try (go_wp2_with fail)
 refine hK.out _ _ ?_ (fun hHeld=> ?_)
 ·(first|exact hG1|exact hHeld|exact hHeld.alloc _|exact hG6)
 clear hK K
 try simp only[Act.put,sT,sS,sZ]
 refine wpR [14] ?_;refine wpC rfl (fun K hK=> ?_) AllReadyH.nil;go_simp
 (first
  |(go_at_call 96;refine(C3.out _).mono ?_;rintro e w4 ⟨rfl,rfl⟩))
 try (go_wp2_with fail)
 refine hK.out _ _ ?_ (fun hHeld=> ?_)
 ·(first|exact hG1|exact hHeld|exact hHeld.alloc _|exact hG6)
 clear hK K
 try simp only[Act.put,sT,sS,sZ]
 refine wpR [15] ?_;refine wpC rfl (fun K hK=> ?_) AllReadyH.nil;go_simp;refine hK.out _ _ ?_ (fun hHeld=> ?_)
 ·(first|exact hG1|exact hHeld|exact hHeld.alloc _|exact hG6)
 clear hK K
 try simp only[Act.put,sT,sS,sZ]
 have hG5:=hHeld;refine wpR [16] ?_;refine wpC rfl (fun K hK=> ?_) AllReadyH.nil;go_simp
 (first
  |(go_at_call 95;refine(or3 _ _ a1 a2 a3 ((Blk.new w2 _ _).drew)).mono ?_;rintro e w6 ⟨rfl,rfl⟩;have hG6:=hHeld))
 try (go_wp2_with fail)
 refine hK.out _ _ ?_ (fun hHeld=> ?_)
 ·(first|exact hG1|exact hHeld|exact hHeld.alloc _|exact hG6)
 clear hK K
 try simp only[Act.put,sT,sS,sZ]
 refine wpK 17 rfl ?_;refine wpD (NoPanic.normal ?_);have HG:=Qh hHeld;clear hHeld;go_wp2
 go_ret
 exact⟨by rw[HV.out];rfl,G0.out.trans2 HG.out⟩
theorem Zfh {l:List Ver}:∀v∈(l.map Ver.cells).flatten,v.oneCell'=true:=fun v hv=>by
 obtain⟨r,hr,h⟩:=List.mem_flatten.1 hv;obtain⟨e,_,rfl⟩:=List.mem_map.1 hr;simp only[Ver.cells,List.mem_cons,List.not_mem_nil,or_false]at h;rcases h with rfl|rfl|rfl<;>rfl
theorem Zb2 (d:Array Ver):(Sort.flatK Ver.cells 3 d).toList=(d.toList.map Ver.cells).flatten:=by
 apply List.ext_getElem?
 intro t;have hlen:((d.toList.map Ver.cells).flatten).length=d.size*3:=by rw[Za0 Zb5];simp
 by_cases ht:t<d.size*3
 ·have hq:t/3<d.size:=by omega
  have h1:(d.toList.map Ver.cells)[t/3]? =some (Ver.cells d[t/3]!):=by
   rw[List.getElem?_map,Array.getElem?_toList,Array.getElem?_eq_getElem hq,getElem!_pos d _ hq];rfl
  have h3:t%3<(Ver.cells d[t/3]!).length:=by simp[Ver.cells];omega
  have h2:(Ver.cells d[t/3]!)[t%3]? =some ((Ver.cells d[t/3]!)[t%3]!):=by
   rw[getElem!_pos (Ver.cells d[t/3]!) (t%3) h3,Qg h3]
  have:=ZdE Zb5 h1 h2;rw[show t/3*3+t%3=t by omega]at this;rw[this,Array.getElem?_toList];have h4:=Sort.get_flatK Ver.cells 3 d t ht;have h5:t<(Sort.flatK Ver.cells 3 d).size:=by simpa using ht
  rw[Array.getElem?_eq_getElem h5,←h4,getElem!_pos (Sort.flatK Ver.cells 3 d) t h5]
 ·rw[List.getElem?_eq_none (by simp;omega),List.getElem?_eq_none (by omega)]
theorem ZdQ {w:World} {g n:Nat} {t:TypeId} {cs:List Value} {d:Array Ver} {os:Array Obj} (hb:Blk w g t cs) (hl:d.size*3≤cs.length):
  Blk (sortWorldK Ver.cells 3 w g 0 n d os) g t ((d.toList.map Ver.cells).flatten++cs.drop (d.size*3)):=by
 have hlt:=hb.lt;unfold Blk at hb ⊢
 have e1:(sortWorldK Ver.cells 3 w g 0 n d os).heap[g]? =some (.cells (Sort.putCells id 0 (Sort.flatK Ver.cells 3 d) cs.toArray) t (0,0)):=by
  unfold sortWorldK Sort.grow Sort.putRowK Sort.putRow Sort.mapBlock;simp only;rw[Array.getElem?_append_left (by simpa using hlt),Array.getElem?_modify];simp only[if_true];rw[show(Sort.ahead w n).heap=w.heap from rfl,hb];rfl
 rw[e1,Zfq _ _ (by simpa using hl),Zb2];simp
theorem ZdP (w:World) (g n:Nat) (d:Array Ver) (os:Array Obj):Upd (One g) w (sortWorldK Ver.cells 3 w g 0 n d os):=by
 refine⟨rfl,rfl,rfl,?_,fun k hk hn=> ?_⟩
 ·unfold sortWorldK Sort.grow Sort.putRowK Sort.putRow Sort.mapBlock;simp only[Array.size_append,Array.size_modify]
  show w.heap.size≤w.heap.size+os.size
  omega
 ·unfold sortWorldK Sort.grow Sort.putRowK Sort.putRow Sort.mapBlock;simp only;rw[Array.getElem?_append_left (by simpa using hk),Array.getElem?_modify,if_neg (fun e=>hn e.symm)];rfl
theorem ZgI {w:World} {g:Nat} {t:TypeId} {cs:List Value} {l:List Ver} (hb:Blk w g t cs) (hcs:cs.take (l.length*3)=(l.map Ver.cells).flatten):Sort.HoldsK Ver.cells 3 w g 0 l.toArray:=by
 intro j hj;simp only[Sort.size_flatK,List.size_toArray]at hj;rw[Nat.zero_add];refine⟨?_,hb.free j⟩;rw[hb.cell j];have h1:(cs.take (l.length*3))[j]? =cs[j]? :=by rw[List.getElem?_take,if_pos hj]
 have h2:=Zb2 l.toArray;rw[←h1,hcs];have h3:j<(Sort.flatK Ver.cells 3 l.toArray).size:=by simpa using hj
 rw[show(l.map Ver.cells).flatten=(Sort.flatK Ver.cells 3 l.toArray).toList from h2.symm,Array.getElem?_toList,Array.getElem?_eq_getElem h3,getElem!_pos (Sort.flatK Ver.cells 3 l.toArray) j h3];rfl
set_option maxHeartbeats 1000000 in
theorem Zgy (w:World) (g cap:Nat) (l:List Ver) (cs:List Value) (hb:Blk w g 28 cs) (hcs:cs.take (l.length*3)=(l.map Ver.cells).flatten) (hlen:l.length*3≤cs.length) (hl:l.length≤1000000):
  Calls Try.prog 66 #[.slice (some ⟨g,0,none⟩) l.length cap,.func (.func 67) #[] #[]] w fun e w'=>e= .returned (.tuple #[])∧Blk w' g 28 (((Z5 l).map Ver.cells).flatten++cs.drop (l.length*3))∧Upd (One g) w w':=by
 have eg:∀args w,(callFunc 67 args).run Try.prog w= .ok (.enter 67 args) w:=enters_of Try.func67 (by kernel_rfl) rfl;have hcmp:CmpLays Try.prog 67 #[] Ver.cells 3 Za1 g 0 l.toArray.size w:=fun m os dk _ x y=>Zex _ x y
 have hcon:=AnyQ.slices_SortFunc_total ZcI 3 Try.isAgg28 Try.sizeOf28 Ver.cells (fun _=>rfl) (fun x v hv=>Zfh (l:=[x]) v (by simpa using hv)) Za1 Zg0 67 #[] g 0 cap l.toArray w eg hcmp (ZgI hb hcs) hb.lt (by simp;omega) (fun x y h1 h2=>Classical.byContradiction fun hne=>by rw[Zau]at h1 h2;have:=ZaL x y (by rw[h1];decide) hne;rw[h2]at this;cases this);refine Calls.mono hcon ?_;rintro e w' ⟨rfl,n,os,rfl⟩;refine⟨rfl,?_,ZdP _ _ _ _ _⟩;have h:=ZdQ (n:=n) (d:=(l.mergeSort fun x y=> !(ltOf Za1) y x).toArray) (os:=os) hb (by simpa using hlen);simp only[List.size_toArray,List.length_mergeSort]at h;exact h
theorem ZgQ (w:World) (base:Nat) (A:Option Addr) (c:Nat) (l:List Ver) (hown:w.ownsRow base 28 3 (.slice A l.length c) l.length (l.map Ver.cells).flatten) (hl:l.length≤1000000) {n:Nat} (hn:l.length=n):
  Calls Try.prog 66 #[.slice A n c,.func (.func 67) #[] #[]] w fun e w'=>e= .returned (.tuple #[])∧w'.ownsRow base 28 3 (.slice A n c) n ((Z5 l).map Ver.cells).flatten∧Upd (Own (.slice A n c)) w w':=by
 subst hn;rcases hown.2 with ⟨hv,hn⟩|⟨g,cap,cur,hv,hbg,hg,hnc,hcm,hcs,htake⟩
 ·have hl0:l=[]:=List.eq_nil_of_length_eq_zero hn;subst hl0;refine(AnyF.slices_SortFunc_none ZcI A c _ w).mono ?_;rintro e w' ⟨rfl,rfl⟩;exact⟨rfl,by rw[show Z5 ([]:List Ver)=[] by unfold Z5;simp];exact hown,Upd.refl _ _⟩
 ·cases hv
  have hb:Blk w g 28 cur.toList:=by unfold Blk;rw[Array.toArray_toList];exact hg
  have hcl:cur.toList.length=c*3:=by rw[Array.length_toList];exact hcs
  have hs:(Z5 l).length=l.length:=ZcH l;have hfl:((Z5 l).map Ver.cells).flatten.length=l.length*3:=by rw[Za0 Zb5,List.length_map,hs]
  refine(Zgy w g c l _ hb htake (by rw[hcl];omega) hl).mono ?_;rintro e w' ⟨rfl,hb2,hu2⟩;unfold Blk at hb2;refine⟨rfl,⟨hfl,.inr ⟨g,c,_,rfl,hbg,hb2,hnc,hcm,?_,?_⟩⟩,hu2.mono (fun i _ e=>by cases e;rfl)⟩
  ·rw[List.size_toArray,List.length_append,hfl,List.length_drop,hcl];omega
  ·rw[List.take_append_of_le_length (by rw[hfl];exact Nat.le_refl _),List.take_of_length_le (by rw[hfl];exact Nat.le_refl _)]
end
end Go.Proofs.Ytblplapkdmhikaa
