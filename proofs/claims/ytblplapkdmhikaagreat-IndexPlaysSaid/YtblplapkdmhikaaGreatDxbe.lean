/- An index: versions are sorted (slices.SortFunc, index.compare). -/
import Derived.Shelf.SlSortCmp.NoneTotal
import Derived.Lib.SliceRun
import Derived.Test.YtblplapkdmhikaaGreatDxae
import Derived.Test.YtblplapkdmhikaaGreatDxas
import Derived.Test.YtblplapkdmhikaaGreatDxba
import Derived.Test.YtblplapkdmhikaaGreatDxbc
namespace Go.Proofs.YtblplapkdmhikaaGreat
set_option linter.unusedVariables false
set_option linter.unusedSimpArgs false
section
open Go.RowKit
theorem Grw.trans2 {a b c:World} (h:Grw a b) (k:Grw b c):Grw a c:=by
 obtain⟨q,o1,rfl⟩:=h;obtain⟨r,o2,rfl⟩:=k;exact⟨q+r,o1++o2,by unfold Sort.grow World.drewN;simp[Nat.add_assoc,Array.append_assoc]⟩
instance:Inhabited Ver:=⟨⟨0,0,0⟩⟩
def ZbN (a b:Ver):Int:=if a.tx≠b.tx then ZR a.tx b.tx else if a.key≠b.key then ZR a.key b.key else ZR a.nth b.nth
theorem Za8 (a b:Ver):ltOf ZbN a b=Zi a b:=by
 unfold ltOf ZbN Zi
 by_cases h1:a.tx=b.tx
 ·by_cases h2:a.key=b.key
  ·simp only[h1,h2,ne_eq,not_true_eq_false,if_false,if_true]
   by_cases h3:a.nth=b.nth
   ·rw[h3,ZcW];simp
   ·exact(Zch h3).2
  ·simp only[h1,h2,ne_eq,not_true_eq_false,if_false,if_true,not_false_eq_true];exact(Zch h2).2
 ·simp only[h1,ne_eq,if_false,if_true,not_false_eq_true];exact(Zch h1).2
theorem Zbw (a b:Ver):Zi a b=false↔b.tx<a.tx∨(b.tx=a.tx∧(b.key<a.key∨(b.key=a.key∧b.nth≤a.nth))):=by
 rw[←Bool.not_eq_true,Zby];omega
theorem ZkY:Sort.SWO (ltOf ZbN) where
 irrefl x:=by rw[Za8,←Bool.not_eq_true];exact Zbx x
 trans x y z h1 h2:=by rw[Za8]at*;exact ZbK _ _ _ h1 h2
 ntrans x y z h1 h2:=by rw[Za8,Zbw]at*;omega
def Zau (l:List Ver):List Ver:=l.mergeSort fun x y=> !(ltOf ZbN) y x
theorem Zh1 {l:List Ver} (h:l.Nodup):(Zau l).Pairwise fun a b=>Zi a b=true:=by
 have h1:(Zau l).Pairwise fun a b=>(!(ltOf ZbN) b a)=true:=by
  unfold Zau;refine List.pairwise_mergeSort (fun a b c h1 h2=> ?_) (fun a b=> ?_) l
  ·simp only[Bool.not_eq_true',Za8]at*;rw[Zbw]at*;omega
  ·simp only[Bool.or_eq_true,Bool.not_eq_true',Za8];rw[Zbw,Zbw];omega
 have h2:(Zau l).Nodup:=(List.mergeSort_perm l _).nodup_iff.2 h;refine(h1.and h2).imp fun {a b} hab=> ?_
 rcases hab with ⟨h3,h4⟩
 simp only[Bool.not_eq_true',Za8]at h3;exact Zbv b a (by rw[h3];decide) (fun e=>h4 e.symm)
theorem Zg8 (l:List Ver) (a:Ver):a∈Zau l↔a∈l:=(List.mergeSort_perm l _).mem_iff
theorem Zd7 (l:List Ver):(Zau l).length=l.length:=List.length_mergeSort ..
def ZbI (a b c:Int):Int:=if a≠0 then a else if b≠0 then b else c
theorem or3 (w:World) (g:Nat) (a b c:Int) (hb:Blk w g 3 [.int .i64 a,.int .i64 b,.int .i64 c]):Calls Tryz.prog 261 #[.slice (some ⟨g,0,none⟩) 3 3] w fun e w'=>e= .returned (.int .i64 (ZbI a b c))∧w=w':=by
 have g0:=hb.cell 0;have g1:=hb.cell 1;have g2:=hb.cell 2;simp only[Qz,Qs]at g0 g1 g2;clear hb
 by_cases h1:a=0
 ·have b1:(a != 0)=false:=by rw[h1];rfl
  by_cases h2:b=0
  ·have b2:(b != 0)=false:=by rw[h2];rfl
   by_cases h3:c=0
   ·have b3:(c != 0)=false:=by rw[h3];rfl
    have H:=Qh (show ZbI a b c=0 by unfold ZbI;simp[h1,h2,h3]);clear h1 h2 h3
    go_enter Tryz.func261,Tryz.ntmps261
    go_wp2;refine wp_loop_rounds 4 ?_;rw[rounds_succ];go_wp2;rw[rounds_succ];go_wp2;rw[rounds_succ];go_wp2;rw[rounds_succ];go_wp2
    go_ret
    exact⟨by rw[H.out];rfl,rfl⟩
   ·have b3:(c != 0)=true:=by simpa using h3
    have H:=Qh (show ZbI a b c=c by unfold ZbI;simp[h1,h2]);clear h1 h2 h3
    go_enter Tryz.func261,Tryz.ntmps261
    go_wp2;refine wp_loop_rounds 3 ?_;rw[rounds_succ];go_wp2;rw[rounds_succ];go_wp2;rw[rounds_succ];go_wp2
    go_ret
    exact⟨by rw[H.out];rfl,rfl⟩
  ·have b2:(b != 0)=true:=by simpa using h2
   have H:=Qh (show ZbI a b c=b by unfold ZbI;simp[h1,h2]);clear h1 h2
   go_enter Tryz.func261,Tryz.ntmps261
   go_wp2;refine wp_loop_rounds 2 ?_;rw[rounds_succ];go_wp2;rw[rounds_succ];go_wp2
   go_ret
   exact⟨by rw[H.out];rfl,rfl⟩
 ·have b1:(a != 0)=true:=by simpa using h1
  have H:=Qh (show ZbI a b c=a by unfold ZbI;simp[h1]);clear h1
  go_enter Tryz.func261,Tryz.ntmps261
  go_wp2;refine wp_loop_rounds 1 ?_;rw[rounds_succ];go_wp2
  go_ret
  exact⟨by rw[H.out];rfl,rfl⟩
theorem Zin (x y:Ver):ZbI (ZR x.tx y.tx) (ZR x.key y.key) (ZR x.nth y.nth)=ZbN x y:=by
 unfold ZbI ZbN
 by_cases h1:x.tx=y.tx
 ·rw[h1,ZcW]
  by_cases h2:x.key=y.key
  ·rw[h2,ZcW];simp
  ·simp[h2,(Zch h2).1]
 ·simp[h1,(Zch h1).1]
set_option maxRecDepth 100000 in
set_option maxHeartbeats 2000000 in
theorem Zg5 (w:World) (x y:Ver):Calls Tryz.prog 194 #[.agg x.cells.toArray,.agg y.cells.toArray] w fun e w'=>e= .returned (.int .i64 (ZbN x y))∧Grw w w':=by
 have HV:=Qh (Zin x y);obtain⟨a1,ha1⟩:∃n,ZR x.tx y.tx=n:=⟨_,rfl⟩;obtain⟨a2,ha2⟩:∃n,ZR x.key y.key=n:=⟨_,rfl⟩;obtain⟨a3,ha3⟩:∃n,ZR x.nth y.nth=n:=⟨_,rfl⟩;rw[ha1,ha2,ha3]at HV;have C1:=Qh (fun W=>Zfz W x.tx y.tx);have C2:=Qh (fun W=>Zfz W x.key y.key);have C3:=Qh (fun W=>Zfz W x.nth y.nth);rw[ha1]at C1;rw[ha2]at C2;rw[ha3]at C3;clear ha1 ha2 ha3;obtain⟨xt,xk,xn⟩:=x;obtain⟨yt,yk,yn⟩:=y;unfold Ver.cells;simp only at C1 C2 C3 ⊢;obtain⟨z,hz⟩:∃z,w.heap.size=z:=⟨_,rfl⟩;obtain⟨w1,hw1⟩:∃w1,w.alloc (.cells #[.int .i64 xt,.int .i64 xk,.int .i64 xn] 36)=w1:=⟨_,rfl⟩;have s1:w1.heap.size=z+1:=by rw[←hw1,←hz];simp
 obtain⟨w2,hw2⟩:∃w2,w1.alloc (.cells #[.int .i64 yt,.int .i64 yk,.int .i64 yn] 36)=w2:=⟨_,rfl⟩;have u2:Upd No w1 w2:=by rw[←hw2];exact(Upd.refl No w1).alloc _
 have b1:Blk w1 z 36 [.int .i64 xt,.int .i64 xk,.int .i64 xn]:=by rw[←hw1,←hz];exact Blk.new w _ _
 have b2:Blk w2 (z+1) 36 [.int .i64 yt,.int .i64 yk,.int .i64 yn]:=by rw[←hw2,←s1];exact Blk.new w1 _ _
 have x0:∀W,Grw w2 W→W.cell? ⟨z,0,none⟩=some (.int .i64 xt):=fun W u=>(b1.upd (u2.trans u.upd) id).cell 0
 have x1:∀W,Grw w2 W→W.cell? ⟨z,1,none⟩=some (.int .i64 xk):=fun W u=>(b1.upd (u2.trans u.upd) id).cell 1
 have x2:∀W,Grw w2 W→W.cell? ⟨z,2,none⟩=some (.int .i64 xn):=fun W u=>(b1.upd (u2.trans u.upd) id).cell 2
 have y0:∀W,Grw w2 W→W.cell? ⟨z+1,0,none⟩=some (.int .i64 yt):=fun W u=>(b2.upd u.upd id).cell 0
 have y1:∀W,Grw w2 W→W.cell? ⟨z+1,1,none⟩=some (.int .i64 yk):=fun W u=>(b2.upd u.upd id).cell 1
 have y2:∀W,Grw w2 W→W.cell? ⟨z+1,2,none⟩=some (.int .i64 yn):=fun W u=>(b2.upd u.upd id).cell 2
 have hr:Grw w2 w2:=Grw.refl _;have G0:=Qh (show Grw w w2 by rw[←hw2,←hw1];exact((Grw.refl _).alloc _).alloc _);clear u2 b1 b2
 go_enter Tryz.func194,Tryz.ntmps194
 go_wp2;have hG1:Grw w2 w2.drew:=(Grw.refl w2).drewN 1;refine wp_region_noPanic ?_;refine wp_region_held_drew (S:=(fun W'=>Grw w2 W')) (by kernel_rfl) ?_ (fun hHeld=> ?_)
 ·(first|exact hG1|exact hHeld|exact hHeld.alloc _|exact hG6)
 refine wpK 0 rfl ?_;refine wpK 1 rfl ?_;refine wpK 2 rfl ?_;refine wpK 3 rfl ?_;refine wpK 5 rfl ?_;refine wpK 6 rfl ?_;refine wpK 7 rfl ?_;refine wpK 8 rfl ?_;refine wpK 10 rfl ?_;refine wpK 11 rfl ?_;refine wpK 12 rfl ?_;refine wpK 13 rfl ?_;refine wpR [4] ?_;refine wpC rfl (fun K hK=> ?_) AllReadyH.nil;go_simp
 (first
  |(go_at_call 225;refine(C1.out _).mono ?_;rintro e w4 ⟨rfl,rfl⟩))
 try (go_wp2_with fail)
 refine hK.out _ _ ?_ (fun hHeld=> ?_)
 ·(first|exact hG1|exact hHeld|exact hHeld.alloc _|exact hG6)
 clear hK K
 try simp only[Act.put,sT,sS,sZ]
 refine wpR [9] ?_;refine wpC rfl (fun K hK=> ?_) AllReadyH.nil;go_simp
 (first
  |(go_at_call 225;refine(C2.out _).mono ?_;rintro e w4 ⟨rfl,rfl⟩))
 try (go_wp2_with fail)
 refine hK.out _ _ ?_ (fun hHeld=> ?_)
 ·(first|exact hG1|exact hHeld|exact hHeld.alloc _|exact hG6)
 clear hK K
 try simp only[Act.put,sT,sS,sZ]
 refine wpR [14] ?_;refine wpC rfl (fun K hK=> ?_) AllReadyH.nil;go_simp
 (first
  |(go_at_call 225;refine(C3.out _).mono ?_;rintro e w4 ⟨rfl,rfl⟩))
 try (go_wp2_with fail)
 refine hK.out _ _ ?_ (fun hHeld=> ?_)
 ·(first|exact hG1|exact hHeld|exact hHeld.alloc _|exact hG6)
 clear hK K
 try simp only[Act.put,sT,sS,sZ]
 refine wpR [15] ?_;refine wpC rfl (fun K hK=> ?_) AllReadyH.nil;go_simp;refine hK.out _ _ ?_ (fun hHeld=> ?_)
 ·(first|exact hG1|exact hHeld|exact hHeld.alloc _|exact hG6)
 clear hK K
 try simp only[Act.put,sT,sS,sZ]
 have hG5:=hHeld;refine wpR [16] ?_;refine wpC rfl (fun K hK=> ?_) AllReadyH.nil;go_simp
 (first
  |(go_at_call 261;refine(or3 _ _ a1 a2 a3 ((Blk.new w2 _ _).drew)).mono ?_;rintro e w6 ⟨rfl,rfl⟩;have hG6:=hHeld))
 try (go_wp2_with fail)
 refine hK.out _ _ ?_ (fun hHeld=> ?_)
 ·(first|exact hG1|exact hHeld|exact hHeld.alloc _|exact hG6)
 clear hK K
 try simp only[Act.put,sT,sS,sZ]
 refine wpK 17 rfl ?_;refine wpD (NoPanic.normal ?_);have HG:=Qh hHeld;clear hHeld;go_wp2
 go_ret
 exact⟨by rw[HV.out];rfl,G0.out.trans2 HG.out⟩
theorem ZhZ {l:List Ver}:∀v∈(l.map Ver.cells).flatten,v.oneCell'=true:=fun v hv=>by
 obtain⟨r,hr,h⟩:=List.mem_flatten.1 hv;obtain⟨e,_,rfl⟩:=List.mem_map.1 hr;simp only[Ver.cells,List.mem_cons,List.not_mem_nil,or_false]at h;rcases h with rfl|rfl|rfl<;>rfl
theorem Zda (d:Array Ver):(Sort.flatK Ver.cells 3 d).toList=(d.toList.map Ver.cells).flatten:=by
 apply List.ext_getElem?
 intro t;have hlen:((d.toList.map Ver.cells).flatten).length=d.size*3:=by rw[ZbM Zdb];simp
 by_cases ht:t<d.size*3
 ·have hq:t/3<d.size:=by omega
  have h1:(d.toList.map Ver.cells)[t/3]? =some (Ver.cells d[t/3]!):=by
   rw[List.getElem?_map,Array.getElem?_toList,Array.getElem?_eq_getElem hq,getElem!_pos d _ hq];rfl
  have h3:t%3<(Ver.cells d[t/3]!).length:=by simp[Ver.cells];omega
  have h2:(Ver.cells d[t/3]!)[t%3]? =some ((Ver.cells d[t/3]!)[t%3]!):=by
   rw[getElem!_pos (Ver.cells d[t/3]!) (t%3) h3,Qg h3]
  have:=Zdk Zdb h1 h2;rw[show t/3*3+t%3=t by omega]at this;rw[this,Array.getElem?_toList];have h4:=Sort.get_flatK Ver.cells 3 d t ht;have h5:t<(Sort.flatK Ver.cells 3 d).size:=by simpa using ht
  rw[Array.getElem?_eq_getElem h5,←h4,getElem!_pos (Sort.flatK Ver.cells 3 d) t h5]
 ·rw[List.getElem?_eq_none (by simp;omega),List.getElem?_eq_none (by omega)]
theorem ZfI {w:World} {g n:Nat} {t:TypeId} {cs:List Value} {d:Array Ver} {os:Array Obj} (hb:Blk w g t cs) (hl:d.size*3≤cs.length):
  Blk (sortWorldK Ver.cells 3 w g 0 n d os) g t ((d.toList.map Ver.cells).flatten++cs.drop (d.size*3)):=by
 have hlt:=hb.lt;unfold Blk at hb ⊢
 have e1:(sortWorldK Ver.cells 3 w g 0 n d os).heap[g]? =some (.cells (Sort.putCells id 0 (Sort.flatK Ver.cells 3 d) cs.toArray) t (0,0)):=by
  unfold sortWorldK Sort.grow Sort.putRowK Sort.putRow Sort.mapBlock;simp only;rw[Array.getElem?_append_left (by simpa using hlt),Array.getElem?_modify];simp only[if_true];rw[show(Sort.ahead w n).heap=w.heap from rfl,hb];rfl
 rw[e1,Zig _ _ (by simpa using hl),Zda];simp
theorem ZfH (w:World) (g n:Nat) (d:Array Ver) (os:Array Obj):Upd (One g) w (sortWorldK Ver.cells 3 w g 0 n d os):=by
 refine⟨rfl,rfl,rfl,?_,fun k hk hn=> ?_⟩
 ·unfold sortWorldK Sort.grow Sort.putRowK Sort.putRow Sort.mapBlock;simp only[Array.size_append,Array.size_modify]
  show w.heap.size≤w.heap.size+os.size
  omega
 ·unfold sortWorldK Sort.grow Sort.putRowK Sort.putRow Sort.mapBlock;simp only;rw[Array.getElem?_append_left (by simpa using hk),Array.getElem?_modify,if_neg (fun e=>hn e.symm)];rfl
theorem Zkp {w:World} {g:Nat} {t:TypeId} {cs:List Value} {l:List Ver} (hb:Blk w g t cs) (hcs:cs.take (l.length*3)=(l.map Ver.cells).flatten):Sort.HoldsK Ver.cells 3 w g 0 l.toArray:=by
 intro j hj;simp only[Sort.size_flatK,List.size_toArray]at hj;rw[Nat.zero_add];refine⟨?_,hb.free j⟩;rw[hb.cell j];have h1:(cs.take (l.length*3))[j]? =cs[j]? :=by rw[List.getElem?_take,if_pos hj]
 have h2:=Zda l.toArray;rw[←h1,hcs];have h3:j<(Sort.flatK Ver.cells 3 l.toArray).size:=by simpa using hj
 rw[show(l.map Ver.cells).flatten=(Sort.flatK Ver.cells 3 l.toArray).toList from h2.symm,Array.getElem?_toList,Array.getElem?_eq_getElem h3,getElem!_pos (Sort.flatK Ver.cells 3 l.toArray) j h3];rfl
set_option maxHeartbeats 1000000 in
theorem Zj5 (w:World) (g cap:Nat) (l:List Ver) (cs:List Value) (hb:Blk w g 36 cs) (hcs:cs.take (l.length*3)=(l.map Ver.cells).flatten) (hlen:l.length*3≤cs.length) (hl:l.length≤1000000):
  Calls Tryz.prog 193 #[.slice (some ⟨g,0,none⟩) l.length cap,.func (.func 194) #[] #[]] w fun e w'=>e= .returned (.tuple #[])∧Blk w' g 36 (((Zau l).map Ver.cells).flatten++cs.drop (l.length*3))∧Upd (One g) w w':=by
 have eg:∀args w,(callFunc 194 args).run Tryz.prog w= .ok (.enter 194 args) w:=enters_of Tryz.func194 (by kernel_rfl) rfl;have hcmp:CmpLays Tryz.prog 194 #[] Ver.cells 3 ZbN g 0 l.toArray.size w:=fun m os dk _ x y=>Zg5 _ x y
 have hcon:=AnyQ.slices_SortFunc_total Zd8 3 Tryz.isAgg36 Tryz.sizeOf36 Ver.cells (fun _=>rfl) (fun x v hv=>ZhZ (l:=[x]) v (by simpa using hv)) ZbN ZkY 194 #[] g 0 cap l.toArray w eg hcmp (Zkp hb hcs) hb.lt (by simp;omega) (fun x y h1 h2=>Classical.byContradiction fun hne=>by rw[Za8]at h1 h2;have:=Zbv x y (by rw[h1];decide) hne;rw[h2]at this;cases this);refine Calls.mono hcon ?_;rintro e w' ⟨rfl,n,os,rfl⟩;refine⟨rfl,?_,ZfH _ _ _ _ _⟩;have h:=ZfI (n:=n) (d:=(l.mergeSort fun x y=> !(ltOf ZbN) y x).toArray) (os:=os) hb (by simpa using hlen);simp only[List.size_toArray,List.length_mergeSort]at h;exact h
theorem ZkE (w:World) (base:Nat) (A:Option Addr) (c:Nat) (l:List Ver) (hown:w.ownsRow base 36 3 (.slice A l.length c) l.length (l.map Ver.cells).flatten) (hl:l.length≤1000000) {n:Nat} (hn:l.length=n):
  Calls Tryz.prog 193 #[.slice A n c,.func (.func 194) #[] #[]] w fun e w'=>e= .returned (.tuple #[])∧w'.ownsRow base 36 3 (.slice A n c) n ((Zau l).map Ver.cells).flatten∧Upd (Own (.slice A n c)) w w':=by
 subst hn;rcases hown.2 with ⟨hv,hn⟩|⟨g,cap,cur,hv,hbg,hg,hnc,hcm,hcs,htake⟩
 ·have hl0:l=[]:=List.eq_nil_of_length_eq_zero hn;subst hl0;refine(AnyF.slices_SortFunc_none Zd8 A c _ w).mono ?_;rintro e w' ⟨rfl,rfl⟩;exact⟨rfl,by rw[show Zau ([]:List Ver)=[] by unfold Zau;simp];exact hown,Upd.refl _ _⟩
 ·cases hv
  have hb:Blk w g 36 cur.toList:=by unfold Blk;rw[Array.toArray_toList];exact hg
  have hcl:cur.toList.length=c*3:=by rw[Array.length_toList];exact hcs
  have hs:(Zau l).length=l.length:=Zd7 l;have hfl:((Zau l).map Ver.cells).flatten.length=l.length*3:=by rw[ZbM Zdb,List.length_map,hs]
  refine(Zj5 w g c l _ hb htake (by rw[hcl];omega) hl).mono ?_;rintro e w' ⟨rfl,hb2,hu2⟩;unfold Blk at hb2;refine⟨rfl,⟨hfl,.inr ⟨g,c,_,rfl,hbg,hb2,hnc,hcm,?_,?_⟩⟩,hu2.mono (fun i _ e=>by cases e;rfl)⟩
  ·rw[List.size_toArray,List.length_append,hfl,List.length_drop,hcl];omega
  ·rw[List.take_append_of_le_length (by rw[hfl];exact Nat.le_refl _),List.take_of_length_le (by rw[hfl];exact Nat.le_refl _)]
end
end Go.Proofs.YtblplapkdmhikaaGreat
