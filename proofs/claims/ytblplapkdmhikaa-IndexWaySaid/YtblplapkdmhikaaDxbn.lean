/- An index: one more, one fewer among rising ids. -/
import Derived.Test.YtblplapkdmhikaaDxaa
import Derived.Test.YtblplapkdmhikaaDxbb
import Derived.Test.YtblplapkdmhikaaDxbk
namespace Go.Proofs.Ytblplapkdmhikaa
set_option linter.unusedVariables false
set_option linter.unusedSimpArgs false
section
open Go.RowKit
theorem ZbH (x:Int):∀{l:List Int},l.Pairwise (·<·)→l.take (l.countP fun y=>decide (y<x))=l.filter fun y=>decide (y<x)
 |[],_=>rfl
 |a::l,h=>by
  rw[List.pairwise_cons]at h
  by_cases ha:a<x
  ·rw[List.countP_cons_of_pos (by simpa using ha),List.filter_cons_of_pos (by simpa using ha),List.take_succ_cons,ZbH x h.2]
  ·have h0:(a::l).countP (fun y=>decide (y<x))=0:=by
    rw[List.countP_eq_zero];intro b hb;rcases List.mem_cons.1 hb with rfl|hb
    ·simpa using ha
    ·have:=h.1 b hb;simp;omega
   have h1:(a::l).filter (fun y=>decide (y<x))=[]:=by rw[←List.length_eq_zero_iff,←List.countP_eq_length_filter,h0]
   rw[h0,h1,List.take_zero]
theorem ZcX (x:Int):∀{l:List Int},l.Pairwise (·<·)→x∉l→l.drop (l.countP fun y=>decide (y<x))=l.filter fun y=>decide (x<y)
 |[],_,_=>rfl
 |a::l,h,hx=>by
  rw[List.pairwise_cons]at h;rw[List.mem_cons,not_or]at hx
  by_cases ha:a<x
  ·rw[List.countP_cons_of_pos (by simpa using ha),List.filter_cons_of_neg (by simp;omega),List.drop_succ_cons,ZcX x h.2 hx.2]
  ·have h0:(a::l).countP (fun y=>decide (y<x))=0:=by
    rw[List.countP_eq_zero];intro b hb;rcases List.mem_cons.1 hb with rfl|hb
    ·simpa using ha
    ·have:=h.1 b hb;simp;omega
   rw[h0,List.drop_zero,eq_comm,List.filter_eq_self];intro b hb;rcases List.mem_cons.1 hb with rfl|hb
   ·simp;omega
   ·have:=h.1 b hb;simp;omega
theorem ZcD (x:Int):∀{l:List Int},l.Pairwise (·<·)→x∈l→l.drop ((l.countP fun y=>decide (y<x))+1)=l.filter (fun y=>decide (x<y))∧(l.countP fun y=>decide (y<x))<l.length
 |a::l,h,hx=>by
  rw[List.pairwise_cons]at h
  by_cases ha:a<x
  ·have hx2:x∈l:=by
    rcases List.mem_cons.1 hx with rfl|hx
    ·omega
    ·exact hx
   obtain⟨h1,h2⟩:=ZcD x h.2 hx2;rw[List.countP_cons_of_pos (by simpa using ha),List.filter_cons_of_neg (by simp;omega),List.drop_succ_cons,List.length_cons];exact⟨h1,by omega⟩
  ·have hax:a=x:=by
    rcases List.mem_cons.1 hx with rfl|hx
    ·rfl
    ·have:=h.1 x hx;omega
   subst hax
   have h0:(a::l).countP (fun y=>decide (y<a))=0:=by
    rw[List.countP_eq_zero];intro b hb;rcases List.mem_cons.1 hb with rfl|hb
    ·simp
    ·have:=h.1 b hb;simp;omega
   rw[h0,List.drop_succ_cons,List.drop_zero,List.filter_cons_of_neg (by simp),eq_comm,List.filter_eq_self];exact⟨fun b hb=>by have:=h.1 b hb;simpa using this,by simp⟩
theorem Zfe {l:List Int} (h:l.Pairwise (·<·)) {x:Int} (hx:x∉l):ZaF l (l.countP fun y=>decide (y<x)) x=ZK l x:=by
 unfold ZaF ZK;rw[if_neg hx,ZbH x h,ZcX x h hx,List.append_assoc,List.singleton_append]
theorem Zf2 {l:List Int} (h:l.Pairwise (·<·)) {x:Int} (hx:x∈l):Zbe l (l.countP fun y=>decide (y<x))=ZV l x:=by
 unfold Zbe;rw[ZbH x h,(ZcD x h hx).1];refine Zb7 ?_ (Zf3 h x) fun a=> ?_
 ·rw[List.pairwise_append];refine⟨h.sublist List.filter_sublist,h.sublist List.filter_sublist,fun a ha b hb=> ?_⟩;rw[List.mem_filter,decide_eq_true_eq]at ha hb;omega
 ·rw[List.mem_append,List.mem_filter,List.mem_filter,decide_eq_true_eq,decide_eq_true_eq,Zfv]
  constructor
  ·rintro(⟨h1,h2⟩|⟨h1,h2⟩)<;>exact⟨h1,by omega⟩
  ·rintro⟨h1,h2⟩;rcases Int.lt_or_gt_of_ne h2 with h3|h3
   ·exact .inl ⟨h1,h3⟩
   ·exact .inr ⟨h1,h3⟩
def ZbD (w:World) (A:Option Addr) (c:Nat) (l:List Int):Prop:=w.ownsRow 0 3 1 (.slice A l.length c) l.length (l.map (Value.int .i64))
theorem ZgW (w:World) (x:Int):Calls Try.prog 86 #[.slice none 0 0,.int .i64 x] w fun e w'=>e= .returned (.tuple #[.int .i64 0,.bool false])∧Upd No w w':=by
 go_enter Try.func86,Try.ntmps86
 go_wp2
 go_loopg [7,8] 0 (fun gk lo hi wr=>lo= .int .i64 0∧hi= .int .i64 0∧w=wr)
 case atStart=>exact⟨rfl,rfl,rfl⟩
 case round=>
  obtain⟨rfl,rfl,rfl⟩:=hrel;go_wp2
  go_ret2
  exact⟨rfl,Upd.refl _ _⟩
theorem ZfP (w:World) (A:Option Addr) (c:Nat) (l:List Int) (x:Int) (h:ZbD w A c l) (hs:l.Pairwise (·<·)) (hl:l.length≤1000000):
  Calls Try.prog 86 #[.slice A l.length c,.int .i64 x] w fun e w'=>e= .returned (.tuple #[.int .i64 ((l.countP fun y=>decide (y<x):Nat):Int),.bool (decide (x∈l))])∧Upd No w w':=by
 rcases h.2 with ⟨hv,h0⟩|⟨g,cap,cur,hv,hb,hg,rest⟩
 ·have:l=[]:=List.eq_nil_of_length_eq_zero h0;subst this
  cases hv
  refine(ZgW w x).mono ?_;rintro e w' ⟨rfl,hu⟩;exact⟨by simp,hu⟩
 ·simp only[Value.slice.injEq]at hv;obtain⟨rfl,_,rfl⟩:=hv;have hi:=Ints.of_own h
  have hc:∀j,j<l.length→w.cell? ⟨g,0+j,none⟩=some (.int .i64 (l.getD j 0)):=fun j hj=>by
   obtain⟨ad,e,_,_,hcc⟩:=hi.at_ hj
   cases e
   rw[Zgb]at hcc;rw[hcc,List.getD_eq_getElem?_getD,Qg hj];rfl
  refine Calls.mono (AnyG.slices_BinarySearch_int ZfF g 0 l.length c l x w (Nat.le_refl _) (by omega) hc (by rw[List.take_length];exact hs.imp fun {a b} h=>Int.le_of_lt h)) ?_;rintro e w' ⟨rfl,q,rfl⟩;rw[List.take_length,List.contains_eq_mem];exact⟨rfl,(Upd.refl _ _).drewN q⟩
def Chg (w:World) (A:Option Addr) (c:Nat) (l l':List Int) (e:Ending) (w':World):Prop:=
 ∃A' c',e= .returned (.slice A' l'.length c')∧ZbD w' A' c' l'∧Upd (Own (.slice A l.length c)) w w'∧ZbE w (.slice A l.length c) (.slice A' l'.length c')
set_option maxRecDepth 100000 in
set_option maxHeartbeats 1000000 in
theorem ZfN (w:World) (A:Option Addr) (c:Nat) (l:List Int) (x:Int) (h:ZbD w A c l) (hs:l.Pairwise (·<·)) (hl:l.length≤100000):
  Calls Try.prog 60 #[.slice A l.length c,.int .i64 x] w (Chg w A c l (ZK l x)):=by
 have CB:=Qh (ZfP w A c l x h hs (by omega));have HO:=Qh h
 by_cases hx:x∈l
 ·have HW:=Qh (show ZK l x=l by unfold ZK;rw[if_pos hx]);rw[decide_eq_true hx]at CB;clear h hx hs
  go_enter Try.func60,Try.ntmps60
  go_wp2_with fail
  refine(CB.out).mono ?_;rintro e w1 ⟨rfl,hu1⟩;go_wp2
  go_ret
  rw[HW.out];exact⟨A,c,rfl,Zj HO.out hu1 (fun _ _=>id),hu1.mono (fun _ _ e=>e.elim),.inl rfl⟩
 ·rw[decide_eq_false hx]at CB;have HW:=Qh (Zfe hs hx);have HI:=Qh (List.countP_le_length (p:=fun y=>decide (y<x)) (l:=l));obtain⟨i,hi⟩:∃i,(l.countP fun y=>decide (y<x))=i:=⟨_,rfl⟩;rw[hi]at CB HW HI;clear h hx hs hi
  go_enter Try.func60,Try.ntmps60
  go_wp2_with fail
  refine(CB.out).mono ?_;rintro e w1 ⟨rfl,hu1⟩;have hO1:=Zj HO.out hu1 (fun _ _=>id);have CI:=Qh (Zg6 (w1.alloc (.cells #[.int .i64 x] 3)) 0 A c l i x w1.heap.size (by rw[ZbY];exact Zj hO1 ((Upd.refl No w1).alloc _) (fun _ _=>id)) (Blk.new w1 _ _) (fun e=>by have:=(hO1.lt _ e).2;omega) HI.out hl (Nat.zero_le _));have HU:=Qh (hu1.alloc (.cells #[.int .i64 x] 3));clear hO1 hu1
  go_wp2_with fail
  refine(CI.out).mono ?_;rintro e w2 ⟨A2,c2,rfl,ho2,hu2,hg2⟩;go_wp2
  go_ret
  rw[HW.out,ZbY]at ho2;rw[HW.out]at hg2 ⊢;refine⟨A2,c2,rfl,ho2,HU.out.mono (fun _ _ e=>e.elim) |>.trans hu2,?_⟩;rcases hg2 with e|⟨k,e,hk⟩
  ·exact .inl e
  ·exact .inr ⟨k,e,Nat.le_trans HU.out.size hk⟩
set_option maxRecDepth 100000 in
set_option maxHeartbeats 1000000 in
theorem ZdA (w:World) (A:Option Addr) (c:Nat) (l:List Int) (x:Int) (h:ZbD w A c l) (hs:l.Pairwise (·<·)) (hl:l.length≤100000):
  Calls Try.prog 64 #[.slice A l.length c,.int .i64 x] w (Chg w A c l (ZV l x)):=by
 have CB:=Qh (ZfP w A c l x h hs (by omega));have HO:=Qh h
 by_cases hx:x∈l
 ·rw[decide_eq_true hx]at CB;have HW:=Qh (Zf2 hs hx);have HI:=Qh (ZcD x hs hx).2;obtain⟨i,hi⟩:∃i,(l.countP fun y=>decide (y<x))=i:=⟨_,rfl⟩;rw[hi]at CB HW HI;have hw1:IntKind.i64.wrap ((i:Int)+1)=(i:Int)+1:=IntWalk.i64_in _ (by have:=HI.out;omega);clear h hx hs hi
  go_enter Try.func64,Try.ntmps64
  go_wp2_with fail
  refine(CB.out).mono ?_;rintro e w1 ⟨rfl,hu1⟩;have hO1:=Zj HO.out hu1 (fun _ _=>id);have CI:=Qh (Zg7 w1 0 A c l i (by rw[ZbY];exact hO1) HI.out hl);have HU:=Qh hu1;clear hO1 hu1
  go_wp2_with fail
  refine(CI.out).mono ?_;rintro e w2 ⟨A2,c2,rfl,ho2,hu2,hg2⟩;go_wp2
  go_ret
  rw[HW.out,ZbY]at ho2;rw[HW.out]at hg2 ⊢;refine⟨A2,c2,rfl,ho2,HU.out.mono (fun _ _ e=>e.elim) |>.trans hu2,?_⟩;rcases hg2 with e|⟨k,e,hk⟩
  ·exact .inl e
  ·exact .inr ⟨k,e,Nat.le_trans HU.out.size hk⟩
 ·have HW:=Qh (Zb9 hx);rw[decide_eq_false hx]at CB;clear h hx hs
  go_enter Try.func64,Try.ntmps64
  go_wp2_with fail
  refine(CB.out).mono ?_;rintro e w1 ⟨rfl,hu1⟩;go_wp2
  go_ret
  rw[HW.out];exact⟨A,c,rfl,Zj HO.out hu1 (fun _ _=>id),hu1.mono (fun _ _ e=>e.elim),.inl rfl⟩
end
/- An index:what it tells of one id,one key,one version. -/
section
open Go.RowKit
def oId:Option HTx→Int|some t=>t.id|none=>0
def oDn:Option HTx→Bool|some t=>t.done|none=>false
def Zat:Option HTx→List HOp|some t=>t.ops|none=>[]
def Zba (w:World) (o:Option HTx) (e:Ending) (w':World):Prop:=
 ∃A c,e= .returned (.tuple #[.agg #[.int .i64 (oId o),.bool (oDn o),.slice A (Zat o).length c],.bool o.isSome])∧(Zat o).length≤c∧HOps (fun i=>w.heap.size≤i) w' A (Zat o)∧Upd No w w'
theorem Zgs (w:World):(zeroValue 35).run Try.prog w= .ok (.agg #[.int .i64 0,.bool false,.slice none 0 0]) w:=by kernel_rfl
set_option maxRecDepth 100000 in
set_option maxHeartbeats 2000000 in
theorem ZfL (F:Nat→Prop) (w:World) (g bT:Nat) (k i0:Int) (dn b:Bool) (A:Option Addr) (c:Nat) (l:List HOp) (cs:List Value) (hg:Blk w g 99 (.map (some bT)::cs))
  (hlk:∀W,Upd No w W→(Instr.lookup 93 (.map (some bT)) (.int .i64 k) true).run Try.prog W= .ok (.tuple #[.agg #[.int .i64 i0,.bool dn,.slice A l.length c],.bool b]) W)
  (h:HOps F w A l) (hl:Zd l.length):
  Calls Try.prog 25 #[.pointer (some ⟨g,0,none⟩),.int .i64 k] w fun e w'=>∃A' c',e= .returned (.tuple #[.agg #[.int .i64 i0,.bool dn,.slice A' l.length c'],.bool b])∧l.length≤c'∧HOps (fun i=>w.heap.size≤i) w' A' l∧Upd No w w':=by
 obtain⟨z,hz⟩:∃z,w.heap.size=z:=⟨_,rfl⟩;obtain⟨w1,hw1⟩:∃w1,w.alloc (.cells #[.int .i64 0,.bool false,.slice none 0 0] 35)=w1:=⟨_,rfl⟩;have s1:w1.heap.size=z+1:=by rw[←hw1,←hz];simp
 have u1:Upd No w w1:=by rw[←hw1];exact(Upd.refl No w).alloc _
 have b1:Blk w1 z 35 [.int .i64 0,.bool false,.slice none 0 0]:=by rw[←hw1,←hz];exact Blk.new w _ _
 obtain⟨w5,hw5⟩:∃w5,w1.alloc (.cells #[.int .i64 i0,.bool dn,.slice A l.length c] 35)=w5:=⟨_,rfl⟩;have u2:Upd No w1 w5:=by rw[←hw5];exact(Upd.refl No w1).alloc _
 have u5:Upd No w w5:=u1.trans u2;have b5:Blk w5 (z+1) 35 [.int .i64 i0,.bool dn,.slice A l.length c]:=by rw[←hw5,←s1];exact Blk.new w1 _ _
 have b6:Blk w5 z 35 [.int .i64 0,.bool false,.slice none 0 0]:=b1.upd u2 id;have s5:z+2≤w5.heap.size:=by have:=b5.lt;omega
 have c0:w1.cell? ⟨g,0,none⟩=some (.map (some bT)):=(hg.upd u1 id).cell 0;have HLK:=hlk w1 u1;have q0:=b5.cell 0;have q1:=b5.cell 1;have q2:=b5.cell 2;simp only[Qz,Qs]at q0 q1 q2;have HC:=Qh (ZeK F w5 A c l (h.upd u5 (fun _ _=>id)) hl);have B5:=Qh b5;have B6:=Qh b6;have U5:=Qh u5;have S5:=Qh s5;have HZ:=Qh hz;clear hlk hg u1 u2 b1 b5 b6 u5 s5 h
 go_enter Try.func25,Try.ntmps25
 go_wp2_with fail
 refine(HC.out).mono ?_;rintro e w6 ⟨A6,c6,rfl,hc6,hh6,hu6⟩;have d1:=B5.out.upd hu6 id;have d2:=B6.out.upd hu6 id;have e0:=d1.cell 0;have e1:=d1.cell 1;have e2:=d1.cell 2;have f2:=d1.free 2;have g0:=d2.cell 0;have g1:=d2.cell 1;have g2:=d2.cell 2;have k0:=d2.free 0;have k1:=d2.free 1;have k2:=d2.free 2;simp only[Qz,Qs]at e0 e1 e2 g0 g1 g2;have D:=Qh d2;have Hh:=Qh (And.intro hc6 (And.intro hh6 hu6));clear d1 d2 hc6 hh6 hu6 HLK c0 q0 q1 q2;go_wp2;obtain⟨hc6,hh6,hu6⟩:=Hh.out;have hzz:=HZ.out;have b9:=(((D.out.far (p:=⟨z+1,2,none⟩) (by show z≠z+1;omega) (.slice A6 l.length c6)).set_ 0 (.int .i64 i0)).set_ 1 (.bool dn)).set_ 2 (.slice A6 l.length c6);simp only[List.set_cons_zero,List.set_cons_succ]at b9;have r0:=b9.cell 0;have r1:=b9.cell 1;have r2:=b9.cell 2;simp only[Qz,Qs]at r0 r1 r2;refine bodyPost_ret (v:= .tuple #[.agg #[.int .i64 i0,.bool dn,.slice A6 l.length c6],.bool b]) (by simp[results,Try.results25,go_sem,r0,r1,r2]) rfl ⟨A6,c6,rfl,hc6,?_,?_⟩
 ·have u8:=((((Upd.refl (fun i=>i=z∨i=z+1) w6).setCell (p:=⟨z+1,2,none⟩) (.inl (.inr rfl)) (.slice A6 l.length c6)).setCell (p:=⟨z,0,none⟩) (.inl (.inl rfl)) (.int .i64 i0)).setCell (p:=⟨z,1,none⟩) (.inl (.inl rfl)) (.bool dn)).setCell (p:=⟨z,2,none⟩) (.inl (.inl rfl)) (.slice A6 l.length c6);have:=S5.out;exact(Recs.upd hh6 u8 (fun i hi e=>by rcases e with e|e<;>omega)).weak (fun i _ e=>by omega)
 ·have u9:Upd No w w6:=U5.out.trans hu6;exact(((u9.setCell (p:=⟨z+1,2,none⟩) (.inr (by show w.heap.size≤z+1;omega)) _).setCell (p:=⟨z,0,none⟩) (.inr (by show w.heap.size≤z;omega)) _).setCell (p:=⟨z,1,none⟩) (.inr (by show w.heap.size≤z;omega)) _).setCell (p:=⟨z,2,none⟩) (.inr (by show w.heap.size≤z;omega)) _
section
variable {w:World} {col:Nat→Nat} {g bT bW bR bU bS:Nat} {wt:Int} {eT:Int→Option HTx} {fW:Int→List Int} {fR:Ver→List Int} {nU nS:Int×Int→Nat}
theorem Zeh (h:IXm w col g bT bW bR bU bS wt eT fW fR nU nS) (k:Int) (hk:Zd (Zat (eT k)).length):Calls Try.prog 25 #[.pointer (some ⟨g,0,none⟩),.int .i64 k] w (Zba w (eT k)):=by
 obtain⟨mT,t1,t2,t3⟩:=h.tx;have ht:=t3 k;have hlk:=fun W (u:Upd No w W)=>ZdR ZaD Try.underlying93 Zgs (t1.upd u id).is k
 cases he:eT k with
 |none=>
  rw[he]at ht;unfold TxAt at ht;rw[ht]at hlk;exact ZfL (fun _=>True) w g bT k 0 false false none 0 [] _ h.blk hlk (fun h=>absurd rfl h) (by unfold Zd;simp)
 |some t=>
  rw[he]at ht hk;obtain⟨A,c,h1,h2,h3⟩:=ht;rw[h1]at hlk;exact ZfL _ w g bT k t.id t.done true A c t.ops _ h.blk hlk h3 hk
end
theorem Zcr (w:World) (A:Option Addr) (c:Nat) (l:List Int) (h:ZbD w A c l) (hl:l.length≤17592186044415):Calls Try.prog 65 #[.slice A l.length c] w (Z4 w l):=ZgF _ w A c l (Ints.of_own h) hl
theorem Zaq (w:World):(zeroValue 53).run Try.prog w= .ok (.slice none 0 0) w:=by kernel_rfl
theorem ZbF (w:World):(zeroValue 3).run Try.prog w= .ok (.int .i64 0) w:=by kernel_rfl
section
variable {w:World} {col:Nat→Nat} {g bT bW bR bU bS:Nat} {wt:Int} {eT:Int→Option HTx} {fW:Int→List Int} {fR:Ver→List Int} {nU nS:Int×Int→Nat}
set_option maxRecDepth 100000 in
set_option maxHeartbeats 1000000 in
theorem ZeU (h:IXm w col g bT bW bR bU bS wt eT fW fR nU nS) (k:Int) (hk:(fW k).length≤1000000):Calls Try.prog 31 #[.pointer (some ⟨g,0,none⟩),.int .i64 k] w (Z4 w (fW k)):=by
 obtain⟨mW,w1⟩:=h.wr;obtain⟨A,c,hA,hO⟩:=w1.row k;have hlk:=Zw ZaD Try.underlying94 Zaq w1.is.is k;rw[show(Zm mW k).getD (.slice none 0 0)= .slice A (fW k).length c from hA]at hlk;have c1:w.cell? ⟨g,1,none⟩=some (.map (some bW)):=h.blk.cell 1;have HC:=Qh (Zcr w A c (fW k) hO (by omega));clear h w1 hA hO
 go_enter Try.func31,Try.ntmps31
 go_wp2_with fail
 refine(HC.out).mono ?_;rintro e w2 ⟨A2,c2,rfl,ho2,hu2⟩;go_wp2
 go_ret
 exact⟨A2,c2,rfl,ho2,hu2⟩
set_option maxRecDepth 100000 in
set_option maxHeartbeats 1000000 in
theorem Zdy (h:IXm w col g bT bW bR bU bS wt eT fW fR nU nS) (i k:Int):Calls Try.prog 30 #[.pointer (some ⟨g,0,none⟩),.int .i64 i,.int .i64 k] w fun e w'=>e= .returned (.int .i64 (nS (i,k):Int))∧w=w':=by
 obtain⟨mS,s1,s2⟩:=h.ws;have hlk:=Zw ZcB Try.underlying97 ZbF s1.is (i,k);rw[s2.val]at hlk;unfold ZQ at hlk;have c1:w.cell? ⟨g,4,none⟩=some (.map (some bS)):=h.blk.cell 4;clear h s1 s2
 go_enter Try.func30,Try.ntmps30
 go_wp2
 go_ret
 exact⟨rfl,rfl⟩
theorem Zfx (h:IXm w col g bT bW bR bU bS wt eT fW fR nU nS):Calls Try.prog 35 #[.pointer (some ⟨g,0,none⟩)] w fun e w'=>e= .returned (.int .i64 wt)∧w=w':=by
 have c1:w.cell? ⟨g,5,none⟩=some (.int .i64 wt):=h.blk.cell 5;clear h
 go_enter Try.func35,Try.ntmps35
 go_wp2
 go_ret
 exact⟨rfl,rfl⟩
set_option maxRecDepth 100000 in
set_option maxHeartbeats 1000000 in
theorem ZeV (h:IXm w col g bT bW bR bU bS wt eT fW fR nU nS) (v:Ver) (hk:(fR v).length≤1000000):Calls Try.prog 32 #[.pointer (some ⟨g,0,none⟩),.agg v.cells.toArray] w (Z4 w (fR v)):=by
 obtain⟨mR,r1,_⟩:=h.rd;obtain⟨z,hz⟩:∃z,w.heap.size=z:=⟨_,rfl⟩;obtain⟨wb,hwb⟩:∃wb,w.alloc (.cells #[.int .i64 v.tx,.int .i64 v.key,.int .i64 v.nth] 28)=wb:=⟨_,rfl⟩;have uB:Upd No w wb:=by rw[←hwb];exact(Upd.refl No w).alloc _
 have bV:Blk wb z 28 [.int .i64 v.tx,.int .i64 v.key,.int .i64 v.nth]:=by rw[←hwb,←hz];exact Blk.new w _ _
 obtain⟨A,c,hA,hO⟩:=r1.row v
 have hlk:∀W,Upd No wb W→(Instr.lookup 95 (.map (some bR)) (.agg #[.int .i64 v.tx,.int .i64 v.key,.int .i64 v.nth]) false).run Try.prog W= .ok (.slice A (fR v).length c) W:=fun W u=>by
  have:=Zw Zaa Try.underlying95 Zaq (r1.is.upd (uB.trans u) id).is v
  rwa [show(Zm mR v).getD (.slice none 0 0)= .slice A (fR v).length c from hA]at this
 have c1:∀W,Upd No wb W→W.cell? ⟨g,2,none⟩=some (.map (some bR)):=fun W u=>(h.blk.upd (uB.trans u) id).cell 2
 have HC:=Qh (fun W (u:Upd No wb W)=>Zcr W A c (fR v) (Zj hO (uB.trans u) (fun _ _=>id)) (by omega));have v0:∀W,Upd No wb W→W.cell? ⟨z,0,none⟩=some (.int .i64 v.tx):=fun W u=>(bV.upd u id).cell 0
 have v1:∀W,Upd No wb W→W.cell? ⟨z,1,none⟩=some (.int .i64 v.key):=fun W u=>(bV.upd u id).cell 1
 have v2:∀W,Upd No wb W→W.cell? ⟨z,2,none⟩=some (.int .i64 v.nth):=fun W u=>(bV.upd u id).cell 2
 have hbz:Upd No wb wb.drew:=(Upd.refl No wb).drew;have UB:=Qh uB;unfold Ver.cells;clear h r1 hA hO bV uB
 go_enter Try.func32,Try.ntmps32
 go_wp2;refine wp_region_noPanic ?_;refine wp_region_held_drew (S:=(fun w'=>Upd No wb w')) (by kernel_rfl) ?_ (fun hHeld=> ?_)
 ·(first|exact hbz|exact hHeld|exact hU3)
 refine wpK 0 rfl ?_;refine wpK 1 rfl ?_;refine wpK 2 rfl ?_;refine wpK 3 rfl ?_;refine wpK 4 rfl ?_;refine wpK 5 rfl ?_;refine wpR [6] ?_;refine wpC rfl (fun K hK=> ?_) AllReadyH.nil;go_simp
 (first
  |(go_at_call 65;refine(HC.out _ hHeld).mono ?_;rintro e w3 ⟨A3,c3,rfl,ho3,hu3⟩;have hU3:Upd No wb w3:=hHeld.trans hu3))
 try (go_wp2_with fail)
 refine hK.out _ _ ?_ (fun hHeld=> ?_)
 ·(first|exact hbz|exact hHeld|exact hU3)
 clear hK K
 try simp only[Act.put,sT,sS,sZ]
 refine wpK 7 rfl ?_;refine wpD (NoPanic.normal ?_);go_wp2
 go_ret
 exact⟨A3,c3,rfl,Z8 ho3 UB.out.size,UB.out.trans hU3⟩
end
end
end Go.Proofs.Ytblplapkdmhikaa
