/- Ways: one number, repeated. -/
import Derived.Shelf.Bits.Mul64
import Derived.Test.YtonblekdfinpkaaGreatWqaa
import Derived.Test.YtonblekdfinpkaaGreatWqaf
import Derived.Test.YtonblekdfinpkaaGreatWqal
import Derived.Test.YtonblekdfinpkaaGreatWqan
import Derived.Test.YtonblekdfinpkaaGreatWqbk
namespace Go.Proofs.YtonblekdfinpkaaGreat
set_option linter.unusedVariables false
set_option linter.unusedSimpArgs false
section
open Go.RowKit
def ZnJ (w:World) (l:List Int) (e:Ending) (w':World):Prop:=
 ∃g,e= .returned (.slice (some ⟨g,0,none⟩) l.length l.length)∧Blk w' g 3 (l.map (Value.int .i64))∧w.heap.size≤g∧Upd No w w'
theorem ZoB (N:Nat):madeCells #[Value.int .i64 0] (N*1)=((List.replicate N (0:Int)).map (Value.int .i64)).toArray:=by
 apply Array.ext
 ·simp[madeCells]
 ·intro i h1 h2;simp[madeCells,Nat.mod_one]
def ZfH (N:Nat):Array Value:=((List.replicate N (0:Int)).map (Value.int .i64)).toArray
theorem Zrz (N:Nat) (hN:N≤1000000) (m:Int) (hm:m=(N:Int)) (W:World):(Instr.makeSlice 24 (.int .i64 m) (.int .i64 m)).run Tryz.prog W= .ok (.slice (some ⟨W.heap.size,0,none⟩) N N) (W.alloc (.cells (ZfH N) 3)):=by
 subst hm;have:=ZeN (P:=Tryz.prog) W Za0 (z:= .int .i64 0) (by kernel_rfl) N (by omega) (by omega);rw[this]
 show _=Result.ok _ (W.alloc (.cells (ZfH N) _))
 unfold ZfH;rw[←ZoB];rfl
theorem Zo8 (W:World) (N:Nat):Blk (W.alloc (.cells (ZfH N) 3)) W.heap.size 3 ((List.replicate N (0:Int)).map (Value.int .i64)):=Blk.new W _ _
def ZaT (x:Int) (N k:Nat):List Value:=(List.replicate k x++List.replicate (N-k) 0).map (Value.int .i64)
theorem Zjq (x:Int) {N k:Nat} (h:k≤N):(ZaT x N k).length=N:=by unfold ZaT;simp;omega
theorem Zm2 (x:Int) {N k m:Nat} (h:k+m≤N) (hm:m≤k):(ZaT x N k).take k++(List.replicate m x).map (Value.int .i64)++(ZaT x N k).drop (k+m)=ZaT x N (k+m):=by
 unfold ZaT;rw[←List.map_take,←List.map_drop,←List.map_append,←List.map_append]
 congr 1
 rw[List.take_append_of_le_length (by simp),List.take_of_length_le (by simp),List.drop_append,List.drop_of_length_le (by simp),List.nil_append,List.drop_replicate];simp only[List.length_replicate];rw[←List.replicate_append_replicate (n:=k) (m:=m)]
 congr 2
 omega
theorem Zqx (w:World) (N:Nat) (hN:N≤1000000):Calls Tryz.prog 275 #[.int .u64 1,.int .u64 (N:Int)] w fun e w'=>e= .returned (.tuple #[.int .u64 0,.int .u64 (N:Int)])∧w=w':=by
 refine Calls.mono (Any.bits_Mul ZlY 1 N (by omega) (by omega) w) ?_;rintro e w' ⟨rfl,rfl⟩;refine⟨?_,rfl⟩;rw[show 1*N/18446744073709551616=0 by omega,show 1*N%18446744073709551616=N by omega];rfl
set_option maxRecDepth 100000 in
set_option maxHeartbeats 1000000 in
theorem ZrF (w:World) (F:Nat→Prop) (A:Option Addr) (c:Nat) (x:Int) (N:Nat) (hN:N≤1000000) (h:Ints F w A [x]):Calls Tryz.prog 256 #[.slice A 1 c,.int .i64 (N:Int)] w (ZnJ w (List.replicate N x)):=by
 obtain⟨ad,rfl,hF,hl,hc⟩:=h (by simp);have hc0:=hc 0 x rfl;have hMk:=fun m hm W=>Zrz N hN m hm W
 have hM:=Qh (fun W=>Zqx W N hN);have h0:decide ((N:Int)<0)=false:=decide_eq_false (by omega);have h1:decide ((0:Int)<0)=false:=by decide
 have h2:decide ((9223372036854775807:Int)<(N:Int))=false:=decide_eq_false (by omega);have w1:IntKind.u64.wrap (N:Int)=(N:Int):=by unfold IntKind.wrap;simp[IntKind.signed,IntKind.bits];omega
 have w2:IntKind.i64.wrap (N:Int)=(N:Int):=IntWalk.i64_in _ (by omega)
 go_enter Tryz.func256,Tryz.ntmps256
 go_wp2_with fail
 refine(hM.out _).mono ?_;rintro e w1 ⟨rfl,rfl⟩;obtain⟨m0,hm0⟩:∃m,min 1 N=m:=⟨_,rfl⟩;have HM0:=Qh hm0;obtain⟨wz,hwz⟩:∃wz,w.alloc (.cells (ZfH N) 3)=wz:=⟨_,rfl⟩;have uz:Upd No w wz:=by rw[←hwz];exact(Upd.refl No w).alloc _
 have bz:Blk wz w.heap.size 3 (ZaT x N 0):=by
  rw[←hwz];have:=Zo8 w N;unfold ZaT
  simpa using this
 have hcz:=uz.keepNo hc0;have e0:ad.add 0=ad:=by unfold Addr.add;simp
 rw[e0]at hcz;have HW:=Qh hwz;have BZ:=Qh bz;have UZ:=Qh uz
 have HC:=Qh (show∀(j:Nat) v,((List.replicate m0 x).map (Value.int .i64))[j]? =some v→wz.cell? (ad.add j)=some v from fun j v hj=>by
  have hj1:j<m0:=by have:=(List.getElem?_eq_some_iff.1 hj).1;simpa using this
  obtain rfl:j=0:=by omega
  rw[e0,hcz];rw[List.getElem?_map,List.getElem?_replicate,if_pos hj1]at hj;exact hj)
 clear hm0 hwz uz bz hcz hc0 hc hM h e0
 go_wp2_with (refine ZgS rfl rfl Za0 (g:=w.heap.size) (off:=0) (n:=m0) (cs:=(List.replicate m0 x).map (Value.int .i64)) rfl rfl (show Blk _ _ 3 (ZaT x N 0) by first|exact BZ.out|(rw[HW.out];exact BZ.out)) (by have:=HM0.out;simp only[Nat.min_def]at*;split at this<;>split<;>omega) (by simp) (by first|exact HC.out|(rw[HW.out];exact HC.out)) (by rw[Zjq x (by omega)];simp;have:=HM0.out;omega) (Ints.one_ _) ?_;intro w5 hb5 hu5)
 have hb5':Blk w5 w.heap.size 3 (ZaT x N m0):=by
  have e:List.take 0 (ZaT x N 0)++List.map (Value.int .i64) (List.replicate m0 x)++List.drop (0+(List.map (Value.int .i64) (List.replicate m0 x)).length) (ZaT x N 0)=ZaT x N m0:=by
   have hm:=HM0.out;rw[List.length_map,List.length_replicate,List.take_zero,List.nil_append,Nat.zero_add];unfold ZaT;rw[List.replicate_zero,List.nil_append,←List.map_drop,←List.map_append,List.drop_replicate];rfl
  rw[←e];exact hb5
 have hu5':Upd No w w5:=UZ.out.then_ (HW.out▸hu5) fun i e=> .inr (by unfold One at e;omega)
 clear hb5 hu5
 go_loopg [8] N (fun gk s wr=>∃(k:Nat),s= .int .i64 k∧k≤N∧(k=0→N=0)∧N≤k+gk∧Blk wr w.heap.size 3 (ZaT x N k)∧Upd No w wr)
 case atStart=>exact⟨m0,rfl,by have:=HM0.out;omega,fun h=>by have:=HM0.out;omega,by omega,hb5',hu5'⟩
 case round=>
  obtain⟨k,rfl,hkN,hk0,hgk,hb,hu⟩:=hrel
  by_cases hlt:k<N
  ·have hkp:0<k:=by omega
   obtain⟨m,hm⟩:∃m,min k (N-k)=m:=⟨_,rfl⟩;have hn1:(k:Int)<(N:Int):=by omega
   have hn2:(0:Int)≤(k:Int):=by omega
   have k2:∀W,(Instr.slice 24 (.slice (some ⟨w.heap.size,0,none⟩) N N) none (some (.int .i64 (k:Int))) none).run Tryz.prog W= .ok (.slice (some ⟨w.heap.size,0,none⟩) k N) W:=fun W=>by
    have:=Zdh W Za0 (some ⟨w.heap.size,0,none⟩) N N k hkN
    rwa [Zkg]at this
   have k3:∀W,(Instr.slice 24 (.slice (some ⟨w.heap.size,0,none⟩) N N) (some (.int .i64 (k:Int))) none none).run Tryz.prog W= .ok (.slice (some ⟨w.heap.size,k*1,none⟩) (N-k) (N-k)) W:=fun W=>by
    have:=Zbw W Za0 (some ⟨w.heap.size,0,none⟩) N N k hkN
    rwa [Zfu (by omega)]at this
   have HB:=Qh hb
   have HS:=Qh (show∀(j:Nat) v,((List.replicate m x).map (Value.int .i64))[j]? =some v→wr.cell? ((⟨w.heap.size,0,none⟩:Addr).add j)=some v from fun j v hj=>by
    have hj1:j<m:=by have:=(List.getElem?_eq_some_iff.1 hj).1;simpa using this
    rw[Zcl,Nat.zero_add,hb.cell j];unfold ZaT;rw[List.getElem?_map,List.getElem?_append_left (by simp;omega)];simp only[List.getElem?_map]at hj;rw[←hj];simp[show j<k by omega,hj1])
   have HM:=Qh hm;have hwp:IntKind.i64.wrap ((k:Int)+(m:Int))=(k:Int)+(m:Int):=IntWalk.i64_in _ (by omega);have hms:m≤k∧m≤N-k∧0<m:=by omega
   have HU:=Qh hu;clear hb hm hu;go_wp2;refine wp_region_noPanic ?_;refine wp_region_held_drew (S:=(fun w'=>Upd (One w.heap.size) wr w')) (by kernel_rfl) ?_ (fun hHeld=> ?_)
   ·(first|exact(Upd.refl _ _).drew|exact hU5)
   refine wpK 0 rfl ?_;refine wpK 1 rfl ?_;refine wpK 2 rfl ?_;refine wpK 3 rfl ?_;refine wpK 4 rfl ?_;refine wpK 5 rfl ?_;refine wpK 6 rfl ?_;refine wpR [7] ?_;refine wpC rfl (fun K hK=> ?_) AllReadyH.nil
   (first
  |(refine Ze7 rfl rfl Za0 (g:=w.heap.size) (off:=k) (n:=m) (cs:=(List.replicate m x).map (Value.int .i64)) rfl rfl (show Blk _ w.heap.size 3 (ZaT x N k) from HB.out) (show Nat.min k (N-k)=m from HM.out) (by simp) HS.out (by rw[Zjq x hkN];simp;omega) (Ints.one_ _) ?_;intro w5 hB5 hu5;have hU5:Upd (One w.heap.size) wr w5:=hu5.of_drew))
   refine hK.out _ _ ?_ (fun hHeld=> ?_)
   ·(first|exact(Upd.refl _ _).drew|exact hU5)
   clear hK K
   try simp only[Act.put,sT,sS,sZ]
   refine wpK 8 rfl ?_;refine wpK 9 rfl ?_;refine wpD (NoPanic.normal ?_)
   have hb6:Blk w5 w.heap.size 3 (ZaT x N (k+m)):=by
    rw[←Zm2 x (N:=N) (k:=k) (m:=m) (by omega) (by omega)]
    simpa using hB5
   have HU5:=Qh hU5;clear hHeld hU5 hu5 hB5;go_wp2
   go_roundg (gk-1)
   case measure=>omega
   case rel=>exact⟨k+m,by go_num,by omega,by omega,by omega,hb6,HU.out.then_ HU5.out fun i e=> .inr (by unfold One at e;omega)⟩
  ·obtain rfl:k=N:=by omega
   go_wp2
   go_ret
   refine⟨w.heap.size,by simp,?_,Nat.le_refl _,hu⟩;unfold ZaT at hb
   simpa using hb
end
/- Ways:the digraph that is made of arcs;how far each node is. -/
section
open Go.RowKit
section
variable {w:World} {G:Nat→Prop} {p:Option Addr} {N K:Nat} {q:List HArc}
set_option maxRecDepth 100000 in
theorem ZqY (h:DG w G p N K q) (mask least:Int):Calls Tryz.prog 225 #[.agg #[.pointer p,.int .i64 mask,.int .i64 least]] w (ZnJ w (List.replicate N (-1))):=by
 have hN:=h.nodes_le;obtain⟨wb,hwb⟩:∃wb,(w.alloc (.cells #[.pointer p,.int .i64 mask,.int .i64 least] 295)).alloc (.cells #[.int .i64 (-1)] 3)=wb:=⟨_,rfl⟩;have u0:Upd No w wb:=by rw[←hwb];exact((Upd.refl No w).alloc _).alloc _
 have bS:Blk wb w.heap.size 295 [.pointer p,.int .i64 mask,.int .i64 least]:=by rw[←hwb];exact(Blk.new w _ _).alloc _
 have bL:Ints (fun i=>i=w.heap.size+1) wb (some ⟨w.heap.size+1,0,none⟩) [-1]:=by
  have:=Zk6 (W:=w.alloc (.cells #[.pointer p,.int .i64 mask,.int .i64 least] 295)) [-1] 3;rw[show(w.alloc (.cells #[.pointer p,.int .i64 mask,.int .i64 least] 295)).heap.size=w.heap.size+1 by simp]at this;rw[←hwb];exact this
 have hn:=Qh (ZeW (h.no u0));have hr:=Qh (ZrF wb _ _ 1 (-1) N (by omega) bL);have c0:=bS.cell 0;simp only[Qz]at c0;have U0:=Qh u0;clear h u0 bS bL
 go_enter Tryz.func225,Tryz.ntmps225
 go_wp2_with fail
 refine(hn.out).mono ?_;rintro e w1 ⟨rfl,rfl⟩
 go_wp2_with fail
 refine(hr.out).mono ?_;rintro e w2 ⟨g,rfl,hb,hg,hu⟩;go_wp2
 go_ret
 have:=U0.out.size;exact⟨g,by simp,hb,by omega,U0.out.trans hu⟩
def Zao (N:Nat) (least node:Int):Bool:=decide (max least 0≤node)&&decide (node<(N:Int))
set_option maxRecDepth 100000 in
theorem Zir (h:DG w G p N K q) (mask least node:Int):Calls Tryz.prog 226 #[.agg #[.pointer p,.int .i64 mask,.int .i64 least],.int .i64 node] w fun e w'=>e= .returned (.bool (Zao N least node))∧Upd No w w':=by
 have u0:=(Upd.refl No w).alloc (.cells #[.pointer p,.int .i64 mask,.int .i64 least] 295);have bS:=Blk.new w 295 [.pointer p,.int .i64 mask,.int .i64 least];have hn:=Qh (ZeW (h.no u0));have c0:=bS.cell 0;have c2:=bS.cell 2;simp only[Qz,Qs]at c0 c2;have U0:=Qh u0;clear h u0 bS
 by_cases h1:max least 0≤node
 ·have HV:=Qh (show Zao N least node=decide (node<(N:Int)) by unfold Zao;rw[decide_eq_true h1];rfl)
  by_cases h2:least<0
  ·have h3:0≤node:=by omega
   have h4:max least 0=0:=by omega
   go_enter Tryz.func226,Tryz.ntmps226
   go_wp2_with fail
   refine(hn.out).mono ?_;rintro e w1 ⟨rfl,rfl⟩;go_wp2
   go_ret
   exact⟨by rw[HV.out];rfl,U0.out⟩
  ·have h3:least≤node:=by omega
   have h4:max least 0=least:=by omega
   go_enter Tryz.func226,Tryz.ntmps226
   go_wp2_with fail
   refine(hn.out).mono ?_;rintro e w1 ⟨rfl,rfl⟩;go_wp2
   go_ret
   exact⟨by rw[HV.out];rfl,U0.out⟩
 ·have HV:=Qh (show Zao N least node=false by unfold Zao;rw[decide_eq_false h1];rfl);have hb:decide (max least 0≤node)=false:=decide_eq_false h1;have hb2:node<max least 0:=by omega
  go_enter Tryz.func226,Tryz.ntmps226
  go_wp2
  go_ret
  exact⟨by rw[HV.out];rfl,U0.out⟩
end
end
/- Ways:how far each node is. -/
section
open Go.RowKit
def Zaw (N:Nat) (d:Int→Int):List Int:=(List.range N).map fun i:Nat=>d (i:Int)
theorem ZbV (N:Nat) (d:Int→Int):(Zaw N d).length=N:=by unfold Zaw;simp
theorem ZeO {N i:Nat} (d:Int→Int) (h:i<N):(Zaw N d)[i]? =some (d (i:Int)):=by
 unfold Zaw;rw[List.getElem?_map,List.getElem?_range h];rfl
theorem Zfb (N:Nat) (v:Int):Zaw N (fun _=>v)=List.replicate N v:=by
 unfold Zaw
 apply List.ext_getElem
 ·simp
 ·intro i h1 h2;simp
theorem Zkz {N u:Nat} (d:Int→Int) (v:Int) (h:u<N):(Zaw N d).set u v=Zaw N (Zal d (u:Int) v):=by
 unfold Zaw
 apply List.ext_getElem
 ·simp
 ·intro i h1 h2;rw[List.getElem_set];simp only[List.getElem_map,List.getElem_range];unfold Zal
  by_cases e:u=i
  ·subst e;simp
  ·rw[if_neg e,if_neg (by omega)]
def Zd (N:Nat):List Int:=(List.range N).map fun i:Nat=>(i:Int)
theorem mem_nodesZ {N:Nat} {x:Int}:x∈Zd N↔0≤x∧x<(N:Int):=by
 unfold Zd;rw[List.mem_map]
 constructor
 ·rintro⟨i,hi,rfl⟩;rw[List.mem_range]at hi;omega
 ·rintro⟨h1,h2⟩;exact⟨x.toNat,List.mem_range.2 (by omega),by omega⟩
theorem Zl (N:Nat):(Zd N).Nodup:=by
 unfold Zd;refine List.Pairwise.map _ (fun a b h=> ?_) (List.nodup_range (n:=N));omega
theorem ZT (N:Nat):(Zd N).length=N:=by unfold Zd;simp
def DQ (w:World) (dg qg N:Nat) (d:Int→Int) (qu:List Int) (A:Option Addr) (us:List Int) (W:World):Prop:=
 ∃F F2,Blk W dg 3 ((Zaw N d).map (Value.int .i64))∧Que W F qg (N:Int) qu∧¬F dg∧(∀i,F i→w.heap.size≤i)∧w.heap.size≤dg∧Upd No w W∧Ints F2 W A us∧(∀i,F2 i→¬F i∧i≠dg∧i<W.heap.size)
namespace DQ
variable {w W W':World} {dg qg N:Nat} {d:Int→Int} {qu us:List Int} {A:Option Addr}
theorem no (h:DQ w dg qg N d qu A us W) (k:Upd No W W'):DQ w dg qg N d qu A us W':=by
 obtain⟨F,F2,h1,h2,h3,h4,h5,h6,h7,h8⟩:=h;exact⟨F,F2,h1.upd k id,h2.upd k (fun _ _=>id),h3,h4,h5,h6.trans k,h7.upd k (fun _ _=>id),fun i hi=>⟨(h8 i hi).1,(h8 i hi).2.1,Nat.lt_of_lt_of_le (h8 i hi).2.2 k.size⟩⟩
theorem upd (h:DQ w dg qg N d qu A us W):Upd No w W:=by
 obtain⟨F,F2,h1,h2,h3,h4,h5,h6,h7,h8⟩:=h;exact h6
theorem blk (h:DQ w dg qg N d qu A us W):Blk W dg 3 ((Zaw N d).map (Value.int .i64)):=by
 obtain⟨F,F2,h1,h2,h3,h4,h5,h6,h7,h8⟩:=h;exact h1
theorem sl (h:DQ w dg qg N d qu A us W):∃F2,Ints F2 W A us:=by
 obtain⟨F,F2,h1,h2,h3,h4,h5,h6,h7,h8⟩:=h;exact⟨F2,h7⟩
theorem bare (h:DQ w dg qg N d qu A us W):DQ w dg qg N d qu none [] W:=by
 obtain⟨F,F2,h1,h2,h3,h4,h5,h6,h7,h8⟩:=h;exact⟨F,fun _=>False,h1,h2,h3,h4,h5,h6,Ints.nil_,fun _ e=>e.elim⟩
theorem list_ (h:DQ w dg qg N d qu A us W) {A':Option Addr} {c':Nat} {us':List Int} (k:Upd No W W') (ho:W'.ownsRow W.heap.size 3 1 (.slice A' us'.length c') us'.length (us'.map (Value.int .i64))):DQ w dg qg N d qu A' us' W':=by
 obtain⟨F,F2,h1,h2,h3,h4,h5,h6,h7,h8⟩:=h
 have hI:Ints (fun i=>W.heap.size≤i∧i<W'.heap.size) W' A' us':=fun hne=>by
  obtain⟨ad,e,hf,hl,hc⟩:=(Ints.of_own ho) hne;exact⟨ad,e,⟨hf,hl⟩,hl,hc⟩
 refine⟨F,_,h1.upd k id,h2.upd k (fun _ _=>id),h3,h4,h5,h6.trans k,hI,fun i hi=>⟨fun e=> ?_,fun e=> ?_,hi.2⟩⟩
 ·have:=h2.lt i e;omega
 ·have:=h1.lt;omega
theorem cell (h:DQ w dg qg N d qu A us W) {i:Nat} (hi:i<N):W.cell? ⟨dg,i,none⟩=some (.int .i64 (d (i:Int))):=by
 rw[h.blk.cell i,List.getElem?_map,ZeO d hi];rfl
theorem free (h:DQ w dg qg N d qu A us W) (i:Nat):W.frozen? ⟨dg,i,none⟩=false:=h.blk.free i
theorem set_ (h:DQ w dg qg N d qu A us W) {u:Nat} (hu:u<N) (v:Int):DQ w dg qg N (Zal d (u:Int) v) qu A us (W.setCell ⟨dg,u,none⟩ (.int .i64 v)):=by
 obtain⟨F,F2,h1,h2,h3,h4,h5,h6,h7,h8⟩:=h;have k:=Upd.setOne (Upd.refl (One dg) W) u (.int .i64 v);refine⟨F,F2,?_,h2.upd k (fun i hi e=>h3 (e▸hi)),h3,h4,h5,h6.then_ k fun i e=> .inr (by rw[e];exact h5),h7.upd k (fun i hi e=>(h8 i hi).2.1 e),fun i hi=>⟨(h8 i hi).1,(h8 i hi).2.1,Nat.lt_of_lt_of_le (h8 i hi).2.2 k.size⟩⟩;have:=h1.set_ u (.int .i64 v);rw[←List.map_set,Zkz d v hu]at this;exact this
theorem push (h:DQ w dg qg N d qu A us W) (hN:N≤65536) (hf:qu.length<N) (u:Int):Calls Tryz.prog 228 #[.pointer (some ⟨qg,0,none⟩),.int .i64 u] W fun e w'=>e= .returned (.int .i64 0)∧DQ w dg qg N d (qu++[u]) A us w':=by
 obtain⟨F,F2,h1,h2,h3,h4,h5,h6,h7,h8⟩:=h;refine(ZqP W F qg (N:Int) qu u h2 (by omega) (by omega) (by omega)).mono ?_;rintro e w' ⟨rfl,F',hF',hq,hu⟩;have hs:=h6.size
 have hne:∀i,i<W.heap.size→¬F i→¬F' i:=fun i hi hn e=>by
  rcases hF' i e with e|e
  ·exact hn e
  ·omega
 refine⟨rfl,F',F2,h1.upd hu h3,hq,hne dg h1.lt h3,fun i hi=> ?_,h5,h6.then_ hu fun i e=> .inr (h4 i e),h7.upd hu (fun i hi=>(h8 i hi).1),fun i hi=>⟨hne i (h8 i hi).2.2 (h8 i hi).1,(h8 i hi).2.1,Nat.lt_of_lt_of_le (h8 i hi).2.2 hu.size⟩⟩;rcases hF' i hi with e|e
 ·exact h4 i e
 ·omega
theorem pop {x:Int} (h:DQ w dg qg N d (x::qu) A us W):Calls Tryz.prog 229 #[.pointer (some ⟨qg,0,none⟩)] W fun e w'=>e= .returned (.tuple #[.int .i64 x,.bool true])∧DQ w dg qg N d qu A us w':=by
 obtain⟨F,F2,h1,h2,h3,h4,h5,h6,h7,h8⟩:=h;refine(Zsk W F qg (N:Int) x qu h2).mono ?_;rintro e w' ⟨rfl,hq,hu⟩;exact⟨rfl,F,F2,h1.upd hu h3,hq,h3,h4,h5,h6.then_ hu fun i e=> .inr (h4 i e),h7.upd hu (fun i hi=>(h8 i hi).1),fun i hi=>⟨(h8 i hi).1,(h8 i hi).2.1,Nat.lt_of_lt_of_le (h8 i hi).2.2 hu.size⟩⟩
theorem pop0 (h:DQ w dg qg N d [] A us W):Calls Tryz.prog 229 #[.pointer (some ⟨qg,0,none⟩)] W fun e w'=>e= .returned (.tuple #[.int .i64 0,.bool false])∧W=w':=by
 obtain⟨F,F2,h1,h2,h3,h4,h5,h6,h7,h8⟩:=h;exact Zji W F qg (N:Int) h2
theorem popA (h:DQ w dg qg N d qu A us W):Calls Tryz.prog 229 #[.pointer (some ⟨qg,0,none⟩)] W fun e w'=>∃x b qu',e= .returned (.tuple #[.int .i64 x,.bool b])∧DQ w dg qg N d qu' A us w'∧(if b=true then qu=x::qu' else qu=[]∧qu'=[]):=by
 cases qu with
 |nil=>
  refine h.pop0.mono ?_;rintro e w' ⟨rfl,rfl⟩;exact⟨0,false,[],rfl,h,by simp⟩
 |cons x qu=>
  refine h.pop.mono ?_;rintro e w' ⟨rfl,h'⟩;exact⟨x,true,qu,rfl,h',by simp⟩
end DQ
def okL (least:Int):Int→Bool:=fun u=>decide (least≤u)
def Zag (p:List HArc):Int→List Int:=fun x=>nxA x true p
def Za9 (node:Int):Int→Int:=fun u=>if u=node then 0 else -1
def ZbE (N:Nat) (p:List HArc) (least node:Int):Int→Int:=if Zao N least node=true then Za7 (okL least) (Zag p) N (Za9 node,[node]) else fun _=> -1
theorem Zn8 (node:Int):Zal (fun _=>(-1:Int)) node 0=Za9 node:=rfl
theorem Zct {N:Nat} {p:List HArc} (hp:∀x∈p,0≤x.f∧x.f<(N:Int)) (v:Int):∀u∈Zag p v,u∈Zd N:=fun u hu=>by
 unfold Zag nxA at hu;rw[ZdN]at hu;simp only[List.not_mem_nil,false_or,if_true]at hu;obtain⟨x,h1,h2,h3⟩:=hu;rw[mem_nodesZ,h3];exact hp x h1
set_option maxRecDepth 100000 in
set_option maxHeartbeats 4000000 in
theorem dto (w:World) (G:Nat→Prop) (p0:Option Addr) (N K:Nat) (q:List HArc) (h:DG w G p0 N K q) (hK:K≤100000) (mask node least:Int):
  Calls Tryz.prog 185 #[.pointer p0,.int .i64 mask,.int .i64 node,.int .i64 least] w (ZnJ w (Zaw N (ZbE N (ofA mask q) least node))):=by
 have hN:=h.nodes_le;obtain⟨p,hp⟩:∃p,ofA mask q=p:=⟨_,rfl⟩
 have hpr:∀x∈p,0≤x.f∧x.f<(N:Int):=fun x hx=>by
  rw[←hp]at hx;have:=(ZC _ _).1 (h.right x (mem_ofA.1 hx).1);exact⟨this.1,this.2.1⟩
 obtain⟨wb,hwb⟩:∃wb,w.alloc (.cells #[.pointer p0,.int .i64 mask,.int .i64 least] 295)=wb:=⟨_,rfl⟩;have u0:Upd No w wb:=by rw[←hwb];exact(Upd.refl No w).alloc _
 have bS:Blk wb w.heap.size 295 [.pointer p0,.int .i64 mask,.int .i64 least]:=by rw[←hwb];exact Blk.new w _ _
 have HG:=Qh (fun(W:World) (u:Upd No wb W)=>h.no (u0.trans u));have HP:=Qh (fun(W:World) (u:Upd No wb W) (i:Int)=>hp▸Zlq (h.no (u0.trans u)) i mask);have HS:=Qh (fun(W:World) (u:Upd No wb W)=>(⟨(bS.upd u id).cell 0,(bS.upd u id).cell 1,(bS.upd u id).cell 2⟩:W.cell? ⟨w.heap.size,0,none⟩=some (.pointer p0)∧W.cell? ⟨w.heap.size,1,none⟩=some (.int .i64 mask)∧W.cell? ⟨w.heap.size,2,none⟩=some (.int .i64 least)));have HPR:=Qh hpr;have HPL:=Qh (show p.length≤1000000 from by rw[←hp];have:=List.length_filter_le (fun x=>Zf mask x.kind) q;have:=h.few;unfold ofA;omega);have U0:=Qh u0;have Hp:=Qh hp;obtain⟨c0,c1,c2⟩:=HS.out wb (Upd.refl _ _);clear hp hpr h bS
 go_enter Tryz.func185,Tryz.ntmps185
 go_wp2_with fail
 refine(ZqY (HG.out wb (Upd.refl _ _)) mask least).mono ?_;rintro e w1 ⟨dg,rfl,hb1,hg1,hu1⟩;obtain⟨d0,d1,d2⟩:=HS.out w1 hu1
 cases hs:Zao N least node
 ·have hst:=Qh (hs▸Zir (HG.out w1 hu1) mask least node);have HV:=Qh (show ZbE N (ofA mask q) least node=fun _=> -1 by unfold ZbE;rw[hs];rfl)
  go_wp2_with fail
  refine(hst.out).mono ?_;rintro e w2 ⟨rfl,hu2⟩;go_wp2
  go_ret
  refine⟨dg,by simp[ZbV],?_,by have:=U0.out.size;omega,(U0.out.trans hu1).trans hu2⟩;rw[HV.out,Zfb];exact hb1.upd hu2 id
 ·have hst:=Qh (hs▸Zir (HG.out w1 hu1) mask least node);have HV:=Qh (show ZbE N (ofA mask q) least node=Za7 (okL least) (Zag p) N (Za9 node,[node]) by unfold ZbE;rw[hs,Hp.out];rfl);unfold Zao at hs;rw[Bool.and_eq_true,decide_eq_true_eq,decide_eq_true_eq]at hs;obtain⟨nd,rfl⟩:∃nd:Nat,node=(nd:Int):=⟨node.toNat,by omega⟩;have hnd:nd<N:=by omega
  have hln:least≤(nd:Int):=by omega
  clear hs
  go_wp2_with fail
  refine(hst.out).mono ?_;rintro e w2 ⟨rfl,hu2⟩
  go_wp2_with fail
  refine(ZeW (HG.out w2 (hu1.trans hu2))).mono ?_;rintro e w3 ⟨rfl,rfl⟩;have hwn:ZaR (N:Int)=(N:Int):=by unfold ZaR;omega
  have hqn:=Qh (hwn▸Zsl w2 (N:Int))
  go_wp2_with fail
  refine(hqn.out).mono ?_;rintro e w4 ⟨qg,rfl,hqg,hq4,hu4⟩;have hz1:=U0.out.size;have hz2:=(hu1.trans hu2).size;have hb4:=(hb1.upd hu2 id).upd hu4 id;rw[←Zfb]at hb4;have hdq:DQ wb dg qg N (fun _=> -1) [] none [] w4:=⟨One qg,fun _=>False,hb4,hq4,fun e=>by unfold One at e;have:=(hb1.upd hu2 id).lt;omega,fun i e=>by unfold One at e;omega,hg1,(hu1.trans hu2).trans hu4,Ints.nil_,fun _ e=>e.elim⟩;have fr:=hdq.free nd;have cc:=hdq.cell hnd;have i1:(0:Int)≤(nd:Int):=by omega
  have i2:(nd:Int)<(N:Int):=by omega
  have HD:=Qh (hdq.set_ hnd 0);rw[Zn8]at HD;clear hb1 hu1 hu2 hq4 hu4 hb4 hdq hst hqn d0 d1 d2 c0 c1 c2
  go_wp2_with fail
  refine(HD.out.push (by omega) (by simp;omega) (nd:Int)).mono ?_;rintro e w5 ⟨rfl,hd5⟩;rw[List.nil_append]at hd5;have hdm:(nd:Int)∈Zd N:=mem_nodesZ.2 ⟨i1,i2⟩;have hcl:∀v∈Zd N,∀u∈Zag p v,okL least u=true→u∈Zd N:=fun v _ u hu _=>Zct HPR.out v u hu
  have B0:=BInv.start (ok:=okL least) (ps:=Zag p) hdm (Zl N);have B1:=Qh (show BInv (okL least) (Zag p) (Zd N) (nd:Int) (Za9 (nd:Int)) [(nd:Int)] from B0);have HM:=Qh (show Zad (Zd N) (Za9 (nd:Int))+[(nd:Int)].length≤N by have:=B1.out.fit;unfold Fits at this;rw[ZT]at this;exact this);have HCL:=Qh hcl;clear HD B0 hdm hcl HG
  go_wp2_with fail
  refine(hd5.popA).mono ?_;rintro e w6 ⟨x,b,qu,rfl,hd6,hb6⟩;have HB6:=Qh hb6;have HD6:=Qh hd6;clear hd5 hb6 hd6;go_wp2
  go_loopg [12,13] N (fun gk sx sb wr=>∃(d:Int→Int) (pend qu:List Int) (x:Int) (b:Bool),sx= .int .i64 x∧sb= .bool b∧Hid (if b=true then pend=x::qu else pend=[]∧qu=[])∧Hid (DQ wb dg qg N d qu none [] wr)∧
   Hid (BInv (okL least) (Zag p) (Zd N) (nd:Int) d pend)∧Hid (Za7 (okL least) (Zag p) gk (d,pend)=Za7 (okL least) (Zag p) N (Za9 (nd:Int),[(nd:Int)]))∧Hid (Zad (Zd N) d+pend.length≤gk))
  case atStart=>exact⟨Za9 (nd:Int),[(nd:Int)],qu,x,b,rfl,rfl,HB6,HD6,B1,Qh rfl,HM⟩
  case round=>
   obtain⟨d,pend,qu,x,b,rfl,rfl,hpe,hd,hbi,heq,hme⟩:=hrel
   cases b
   ·have hp0:pend=[]:=(show pend=[]∧qu=[] from by simpa using hpe.out).1;have HR:=Qh (show d=ZbE N (ofA mask q) least (nd:Int) by rw[HV.out,←heq.out,hp0,Zlz]);have hb:=hd.out.blk;have hu:=hd.out.upd;clear hpe heq hme hbi hp0;go_wp2
    go_ret
    have:=U0.out.size;refine⟨dg,by simp[ZbV],?_,by omega,U0.out.trans hu⟩;rw[←HR.out];exact hb
   ·have hp0:pend=x::qu:=by simpa using hpe.out
    subst hp0;have hri:=hbi.out.pop;have hx0:=hbi.out.q0 x List.mem_cons_self;have hxd:=mem_nodesZ.1 (hbi.out.dm x hx0);obtain⟨xi,rfl⟩:∃xi:Nat,x=(xi:Int):=⟨x.toNat,by omega⟩;have hxi:xi<N:=by omega
    have hme':=hme.out;simp only[List.length_cons]at hme';obtain⟨g1,rfl⟩:∃g1,gk=g1+1:=⟨gk-1,by omega⟩;have hst:=heq.out;rw[Zgh]at hst;obtain⟨us,hus⟩:∃us,Zag p (xi:Int)=us:=⟨_,rfl⟩;have hPx:=Qh ((show nxA (xi:Int) true p=us from hus)▸HP.out wr hd.out.upd (xi:Int));have husl:us.length≤p.length:=by rw[←hus];exact Zg3 _ _ _
    have hpl:=HPL.out;have HUS:=Qh hus;rw[hus]at hst;have HST:=Qh hst;have HRI:=Qh hri;obtain⟨dx,hdx⟩:∃v,d (xi:Int)=v:=⟨_,rfl⟩;rw[hdx]at HST HRI;obtain⟨M,hM⟩:∃M,Zad (Zd N) d+qu.length=M:=⟨_,rfl⟩;have HMM:=Qh (show M≤g1 by omega);have HM1:=Qh hM;clear hpe hbi heq hme hri hx0 hxd hme' hst hus hM hdx
    go_wp2_with fail
    refine(hPx.out).mono ?_;rintro e w7 ⟨A7,c7,rfl,ho7,hu7⟩;have HD7:=Qh (hd.out.list_ hu7 ho7);clear hPx ho7 hu7 hd;go_wp2
    go_loopg [52] us.length (fun gj i wr=>∃(j:Nat) (d':Int→Int) (qu':List Int),j+gj=us.length∧i= .int .i64 j∧Hid (DQ wb dg qg N d' qu' A7 us wr)∧Hid (RInv (okL least) (Zag p) (Zd N) (nd:Int) (xi:Int) dx (us.take j) d' qu')∧
     Hid (Zk (okL least) dx (us.drop j) (d',qu')=Zk (okL least) dx us (d,qu))∧Hid (Zad (Zd N) d'+qu'.length=M))
    case atStart=>exact⟨0,d,qu,by omega,rfl,HD7,HRI,Qh rfl,HM1⟩
    case round=>
     obtain⟨j,d',qu',hgj,rfl,hd,hri,heq,hme⟩:=hrel
     by_cases hlt:j<us.length
     ·obtain⟨F2,hI⟩:=hd.out.sl;obtain⟨ad,rfl,_,_,hc⟩:=hI.at_ hlt;obtain⟨u,hu⟩:∃u,us[j]=u:=⟨_,rfl⟩;rw[hu]at hc;have hup:u∈Zag p (xi:Int):=by rw[HUS.out,←hu];exact List.getElem_mem hlt
      have hud:=mem_nodesZ.1 (Zct HPR.out (xi:Int) u hup);obtain⟨ui,rfl⟩:∃ui:Nat,u=(ui:Int):=⟨u.toNat,by omega⟩;have hui:ui<N:=by omega
      have htk:us.take (j+1)=us.take j++[(ui:Int)]:=by rw[List.take_succ_eq_append_getElem hlt,hu]
      have hst:=heq.out;rw[show us.drop j=(ui:Int)::us.drop (j+1) by rw[←hu];exact List.drop_eq_getElem_cons hlt,ZbH]at hst;have b1:(0:Int)≤(j:Int):=Qn _;have b2:(j:Int)<(us.length:Int):=by omega
      have b3:(0:Int)≤(ui:Int):=Qn _;have b4:(ui:Int)<(N:Int):=by omega
      have cu:=hd.out.cell hui;clear hu hud hI
      by_cases hl:least≤(ui:Int)
      ·by_cases hneg:d' (ui:Int)<0
       ·have hok:(okL least (ui:Int)&&decide (d' (ui:Int)<0))=true:=by unfold okL;rw[decide_eq_true hl,decide_eq_true hneg];rfl
        rw[if_pos hok]at hst;have cx:=hd.out.cell hxi;rw[hri.out.dxe]at cx;have hri2:=hri.out.push (Zl N) HCL.out hup hok;rw[←htk]at hri2;have hfit:=hri.out.fit.push (Zl N) (u:=(ui:Int)) (mem_nodesZ.2 ⟨b3,b4⟩) hneg (v:=dx+1) (by have:=hri.out.dxp;omega);rw[ZT]at hfit;have hng:=ZbA (v:=dx+1) (Zl N) (mem_nodesZ.2 ⟨b3,b4⟩) hneg (by have:=hri.out.dxp;omega);have HME:=Qh (show Zad (Zd N) (Zal d' (ui:Int) (dx+1))+(qu'++[(ui:Int)]).length=M by rw[List.length_append,List.length_singleton,←hme.out];omega)
        have hdxl:dx≤5000:=by
         have:=hri.out.cap (xi:Int);rw[ZT,hri.out.dxe]at this;omega
        have hdx0:=hri.out.dxp;have hw:IntKind.i64.wrap (dx+1)=dx+1:=IntWalk.i64_in _ (by omega);have fu:=hd.out.free ui;have HD2:=Qh (hd.out.set_ hui (dx+1));have HR2:=Qh hri2;have HS2:=Qh hst;have HF2:=Qh hfit.2;clear hst hri hri2 hfit hng hme heq hok hd hup htk
        go_wp2_with fail
        refine(HD2.out.push (by omega) HF2.out (ui:Int)).mono ?_;rintro e w9 ⟨rfl,hd9⟩;go_wp2
        go_roundg (gk-1)
        case measure=>omega
        case rel=>exact⟨j+1,_,_,by omega,by go_num,Qh hd9,HR2,HS2,HME⟩
       ·have hok:¬(okL least (ui:Int)&&decide (d' (ui:Int)<0))=true:=by rw[decide_eq_false hneg];simp
        rw[if_neg hok]at hst;have HR2:=Qh (htk▸hri.out.skip hok);have HS2:=Qh hst;clear hst hri heq hok hup htk;go_wp2
        go_roundg (gk-1)
        case measure=>omega
        case rel=>exact⟨j+1,d',qu',by omega,by go_num,hd,HR2,HS2,hme⟩
      ·have hok:¬(okL least (ui:Int)&&decide (d' (ui:Int)<0))=true:=by unfold okL;rw[decide_eq_false hl];simp
       rw[if_neg hok]at hst;have HR2:=Qh (htk▸hri.out.skip hok);have HS2:=Qh hst;clear hst hri heq hok hup htk;go_wp2
       go_roundg (gk-1)
       case measure=>omega
       case rel=>exact⟨j+1,d',qu',by omega,by go_num,hd,HR2,HS2,hme⟩
     ·obtain rfl:j=us.length:=by omega
      have hst:=heq.out;rw[List.drop_length]at hst;have hst:(d',qu')=Zk (okL least) dx us (d,qu):=hst;have hri':=hri.out;rw[List.take_length,←HUS.out]at hri';have HBI:=Qh hri'.done;have HE:=Qh (show Za7 (okL least) (Zag p) g1 (d',qu')=Za7 (okL least) (Zag p) N (Za9 (nd:Int),[(nd:Int)]) by rw[hst];exact HST.out);have HME:=Qh (show Zad (Zd N) d'+qu'.length≤g1 by rw[hme.out];exact HMM.out);have HDb:=Qh hd.out.bare;clear hst hri' hri heq hme hd
      go_wp2_with fail
      refine(HDb.out.popA).mono ?_;rintro e w8 ⟨x2,b2,qu2,rfl,hd8,hb8⟩;have HD8:=Qh hd8;have HB8:=Qh hb8;clear hd8 hb8;go_wp2
      go_roundg g1
      case measure=>omega
      case rel=>exact⟨d',qu',qu2,x2,b2,rfl,rfl,HB8,HD8,HBI,HE,HME⟩
end
/- Ways:the first of the shortest. -/
section
open Go.RowKit
structure DistOf (N:Nat) (p:List HArc) (least node:Int) (d:Int→Int):Prop where
 lo:∀u,-1≤d u
 hi:∀u,d u<(N:Int)∨d u<0
 inn:∀u,0≤d u→0≤u∧u<(N:Int)
 clo:∀v,0≤d v→∀u∈Zag p v,least≤u→0≤d u∧d u≤d v+1
 par:∀u,0≤d u→(u=node∧Zao N least node=true)∨∃v,u∈Zag p v∧least≤u∧0≤d v∧d v+1=d u
 z:∀u,d u=0↔(u=node∧Zao N least node=true)
theorem Zlo {N:Nat} {p:List HArc} (hp:∀x∈p,0≤x.f∧x.f<(N:Int)) (least node:Int):DistOf N p least node (ZbE N p least node):=by
 unfold ZbE
 by_cases hs:Zao N least node=true
 ·rw[if_pos hs];have hs':=hs;unfold Zao at hs';rw[Bool.and_eq_true,decide_eq_true_eq,decide_eq_true_eq]at hs';have hdm:node∈Zd N:=mem_nodesZ.2 ⟨by omega,hs'.2⟩;have hcl:∀v∈Zd N,∀u∈Zag p v,okL least u=true→u∈Zd N:=fun v _ u hu _=>Zct hp v u hu
  have B0:=BInv.start (ok:=okL least) (ps:=Zag p) hdm (Zl N);have B1:BInv (okL least) (Zag p) (Zd N) node (Za7 (okL least) (Zag p) N (Za9 node,[node])) []:=Zfw (Zl N) hcl N _ _ B0 (by have:=B0.fit;unfold Fits at this;rw[ZT]at this;exact this);refine⟨B1.lo,fun u=> ?_,fun u hu=>mem_nodesZ.1 (B1.dm u hu),fun v hv u hu hl=>B1.clo v hv (by simp) u hu (decide_eq_true hl),fun u hu=> ?_,fun u=> ?_⟩
  ·have:=B1.cap u;rw[ZT]at this;exact .inl (by show Za7 _ _ _ _ u<_;omega)
  ·rcases B1.par u hu with e|⟨v,h1,h2,h3⟩
   ·exact .inl ⟨e,hs⟩
   ·exact .inr ⟨v,h1,of_decide_eq_true h2,h3⟩
  ·rw[hs];simp only[and_true];exact B1.z u
 ·rw[if_neg hs];refine⟨fun u=>by omega,fun u=> .inr (by omega),fun u hu=>by omega,fun v hv=>by omega,fun u hu=>by omega,fun u=> ?_⟩
  constructor
  ·intro h;omega
  ·intro h;exact absurd h.2 hs
theorem mem_prevF {p:List HArc} {u v:Int}:u∈Zag p v↔∃x∈p,x.t=v∧u=x.f:=by
 unfold Zag nxA;rw[ZdN];simp
theorem DistOf.le {N:Nat} {p:List HArc} {least node:Int} {d:Int→Int} (h:DistOf N p least node d) {u:Int} (hu:0≤d u):least≤u:=by
 rcases h.par u hu with ⟨e,hs⟩|⟨v,h1,h2,h3,h4⟩
 ·unfold Zao at hs;rw[Bool.and_eq_true,decide_eq_true_eq]at hs;omega
 ·exact h2
end
/- Ways:how far each node is,by walks with an arc of another mask;plain words on two states of a node. -/
section
open Go.RowKit
theorem ZrZ (x:Int):bits .and .i64 x 1=x%2:=by
 have h:=Zi9 x 1 (by omega);rw[Nat.and_one_is_mod]at h;have h':bits .and .i64 x 1=(((x%18446744073709551616).toNat%2:Nat):Int):=h;rw[h'];omega
theorem ZhQ (u h:Nat) (hu:u≤1000000) (hh:h≤1):bits .or .i64 ((u:Int)*2) (h:Int)=(u:Int)*2+(h:Int):=by
 change IntKind.i64.wrap (((BitVec.ofInt 64 ((u:Int)*2) ||| BitVec.ofInt 64 (h:Int)).toNat:Nat):Int)=_;have h1:(BitVec.ofInt 64 ((u:Int)*2)).toNat=u <<< 1:=by rw[BitVec.toNat_ofInt,Nat.shiftLeft_eq];omega
 have h2:(BitVec.ofInt 64 (h:Int)).toNat=h:=by rw[BitVec.toNat_ofInt];omega
 rw[BitVec.toNat_or,h1,h2,←Nat.shiftLeft_add_eq_or_of_lt (by omega),Nat.shiftLeft_eq];have:IntKind.i64.wrap (((u*2 ^ 1+h:Nat):Nat):Int)=((u*2 ^ 1+h:Nat):Int):=IntWalk.i64_in _ (by omega);rw[this];omega
def ZeF (m1 m2:Int) (had:Int):Int:=if m1=m2 then 1 else had
def Zt (p1 p2:List HArc) (m1 m2:Int):Int→List Int:=fun x=>((nxA (x/2) true p1).map fun u=>u*2+ZeF m1 m2 (x%2))++((nxA (x/2) true p2).map fun u=>u*2+1)
def Zg (least:Int):Int→Bool:=fun y=>decide (least≤y/2)
def Zc8 (N:Nat) (p1 p2:List HArc) (m1 m2 least node:Int):Int→Int:=
 if Zao N least node=true then Za7 (Zg least) (Zt p1 p2 m1 m2) (2*N) (Za9 (node*2),[node*2]) else fun _=> -1
def Zbq (N:Nat) (d:Int→Int) (h:Int):List Int:=Zaw N fun i:Int=>d (i*2+h)
theorem ZkB {N u:Nat} (d:Int→Int) {h:Int} (hh:h=0∨h=1) (v:Int) (hu:u<N):(Zbq N d h).set u v=Zbq N (Zal d ((u:Int)*2+h) v) h:=by
 unfold Zbq;rw[Zkz _ v hu];unfold Zaw
 apply List.map_congr_left
 intro i hi;unfold Zal
 by_cases e:(i:Int)=(u:Int)
 ·rw[if_pos e]
  show v=if (i:Int)*2+h=(u:Int)*2+h then v else d ((i:Int)*2+h)
  rw[if_pos (by omega)]
 ·rw[if_neg e]
  show d ((i:Int)*2+h)=if (i:Int)*2+h=(u:Int)*2+h then v else d ((i:Int)*2+h)
  rw[if_neg (by omega)]
theorem ZhG {N:Nat} (d:Int→Int) {u h k:Int} (hh:h=0∨h=1) (hk:k=0∨k=1) (hne:h≠k) (v:Int):Zbq N (Zal d (u*2+h) v) k=Zbq N d k:=by
 unfold Zbq Zaw
 apply List.map_congr_left
 intro i hi;unfold Zal
 show(if (i:Int)*2+k=u*2+h then v else d ((i:Int)*2+k))=d ((i:Int)*2+k)
 rw[if_neg (by omega)]
theorem Zfd (N:Nat) (v h:Int):Zbq N (fun _=>v) h=List.replicate N v:=Zfb N v
theorem ZgY {N:Nat} {p1 p2:List HArc} {m1 m2:Int} (h1:∀x∈p1,0≤x.f∧x.f<(N:Int)) (h2:∀x∈p2,0≤x.f∧x.f<(N:Int)) (v:Int):∀u∈Zt p1 p2 m1 m2 v,u∈Zd (2*N):=fun u hu=>by
 unfold Zt at hu;rw[mem_nodesZ];rcases List.mem_append.1 hu with hu|hu
 ·obtain⟨y,hy,rfl⟩:=List.mem_map.1 hu;have:=mem_nodesZ.1 (Zct h1 _ y hy);have hn:ZeF m1 m2 (v%2)=0∨ZeF m1 m2 (v%2)=1:=by unfold ZeF;split<;>omega
  omega
 ·obtain⟨y,hy,rfl⟩:=List.mem_map.1 hu;have:=mem_nodesZ.1 (Zct h2 _ y hy);omega
end
/- Closed walks,plain:what distances say of walks. -/
section
open Go.RowKit
section
variable {α:Type}
def Zkj (ok:α→Bool) (ps:α→List α) (root:α):Nat→α→Prop
 |0,u=>u=root
 |n+1,u=>∃v,Zkj ok ps root n v∧u∈ps v∧ok u=true
theorem Zku {ok:α→Bool} {ps:α→List α} {dom:List α} {root:α} {d:α→Int} (h:BInv ok ps dom root d []):∀(n:Nat) (u:α),Zkj ok ps root n u→0≤d u∧d u≤(n:Int)
 |0,u,hu=>by
  have:u=root:=hu;have:=(h.z u).2 this;omega
 |n+1,u,⟨v,hv,hu,ho⟩=>by
  have ih:=Zku h n v hv;have:=h.clo v ih.1 (by simp) u hu ho;omega
theorem Zkt {ok:α→Bool} {ps:α→List α} {dom:List α} {root:α} {d:α→Int} (h:BInv ok ps dom root d []):∀(n:Nat) (u:α),d u=(n:Int)→Zkj ok ps root n u
 |0,u,hu=>(h.z u).1 (by simpa using hu)
 |n+1,u,hu=>by
  rcases h.par u (by omega)with e|⟨v,h1,h2,h3,h4⟩
  ·have:=(h.z u).2 e;omega
  ·exact⟨v,Zkt h n v (by omega),h1,h2⟩
end
def okW (p:List HArc) (least:Int):Int→List HArc→Int→Prop
 |u,[],v=>u=v
 |u,a::l,v=>a∈p∧a.f=u∧least≤u∧okW p least a.t l v
theorem ZdG {p:List HArc} {least:Int}:∀{l m:List HArc} {u x v:Int},okW p least u l x→okW p least x m v→okW p least u (l++m) v
 |[],m,u,x,v,h,k=>by
  have:u=x:=h;subst this;exact k
 |a::l,m,u,x,v,h,k=>⟨h.1,h.2.1,h.2.2.1,ZdG h.2.2.2 k⟩
theorem ZfM {p:List HArc} {least:Int}:∀{l m:List HArc} {u v:Int},okW p least u (l++m) v→∃x,okW p least u l x∧okW p least x m v
 |[],m,u,v,h=>⟨u,rfl,h⟩
 |a::l,m,u,v,h=>by
  obtain⟨x,h1,h2⟩:=ZfM (l:=l) h.2.2.2;exact⟨x,⟨h.1,h.2.1,h.2.2.1,h1⟩,h2⟩
theorem ZdZ {p p':List HArc} {least least':Int} (hp:∀a∈p,a∈p') (hl:least'≤least):∀{l:List HArc} {u v:Int},okW p least u l v→okW p' least' u l v
 |[],u,v,h=>h
 |a::l,u,v,h=>⟨hp a h.1,h.2.1,Int.le_trans hl h.2.2.1,ZdZ hp hl h.2.2.2⟩
/-! masks -/
theorem ZeZ (x:Int) (j:Nat) (hj:j=1∨j=2∨j=3):Zf x (j:Int)=(BitVec.ofInt 64 x).toNat.testBit j:=by
 unfold Zf;rw[Nat.testBit_eq_decide_div_mod_eq,BitVec.toNat_ofInt,decide_eq_decide];rcases hj with rfl|rfl|rfl
 ·show(x/2)%2=1↔(x%18446744073709551616).toNat/2%2=1
  omega
 ·show(x/4)%2=1↔(x%18446744073709551616).toNat/4%2=1
  omega
 ·show(x/8)%2=1↔(x%18446744073709551616).toNat/8%2=1
  omega
theorem Zr4 (n:Nat) (h:n<18446744073709551616):IntKind.i64.wrap (n:Int)=(n:Int)∨IntKind.i64.wrap (n:Int)=(n:Int)-18446744073709551616:=by
 unfold IntKind.wrap;simp[IntKind.signed,IntKind.bits];omega
theorem Zj5 (n:Nat) (h:n<18446744073709551616) (j:Nat) (hj:j=1∨j=2∨j=3):Zf (IntKind.i64.wrap (n:Int)) (j:Int)=n.testBit j:=by
 rw[ZeZ _ j hj]
 congr 1
 rw[BitVec.toNat_ofInt];rcases Zr4 n h with e|e<;>rw[e]<;>omega
theorem Zc2 (x y:Int) (j:Nat) (hj:j=1∨j=2∨j=3):Zf (bits .and .i64 x y) (j:Int)=(Zf x (j:Int)&&Zf y (j:Int)):=by
 rw[ZeZ x j hj,ZeZ y j hj];have e:bits .and .i64 x y=IntKind.i64.wrap (((BitVec.ofInt 64 x &&& BitVec.ofInt 64 y).toNat:Nat):Int):=rfl;rw[e,Zj5 _ (BitVec.isLt _) j hj,BitVec.toNat_and,Nat.testBit_and]
theorem ZgR (x y:Int) (j:Nat) (hj:j=1∨j=2∨j=3):Zf (bits .andNot .i64 x y) (j:Int)=(Zf x (j:Int)&& !Zf y (j:Int)):=by
 rw[ZeZ x j hj,ZeZ y j hj];have e:bits .andNot .i64 x y=IntKind.i64.wrap (((BitVec.ofInt 64 x &&& ~~~ BitVec.ofInt 64 y).toNat:Nat):Int):=rfl;rw[e,Zj5 _ (BitVec.isLt _) j hj,BitVec.toNat_and,Nat.testBit_and]
 congr 1
 have:(~~~ BitVec.ofInt 64 y).toNat.testBit j=(~~~ BitVec.ofInt 64 y).getLsbD j:=rfl;rw[this,BitVec.getLsbD_not];have h64:decide (j<64)=true:=decide_eq_true (by omega);rw[h64,Bool.true_and];rfl
def isM (must:Int) (a:HArc):Bool:=Zf must a.kind
theorem Zcw {k:Int} (h1:1≤k) (h2:k≤3):∃j:Nat,k=(j:Int)∧(j=1∨j=2∨j=3):=⟨k.toNat,by omega,by omega⟩
theorem ZkY {mask must:Int} {q:List HArc} (hk:∀a∈q,1≤a.kind∧a.kind≤3) {a:HArc}:a∈ofA (bits .andNot .i64 mask must) q↔a∈ofA mask q∧isM must a=false:=by
 rw[mem_ofA,mem_ofA];unfold isM
 constructor
 ·rintro⟨h1,h2⟩;obtain⟨j,hj,hj2⟩:=Zcw (hk a h1).1 (hk a h1).2;rw[hj,ZgR _ _ j hj2,Bool.and_eq_true,←hj]at h2;exact⟨⟨h1,h2.1⟩,by simpa using h2.2⟩
 ·rintro⟨⟨h1,h2⟩,h3⟩;refine⟨h1,?_⟩;obtain⟨j,hj,hj2⟩:=Zcw (hk a h1).1 (hk a h1).2;rw[hj]at h2 h3 ⊢;rw[ZgR _ _ j hj2,h2,h3];rfl
theorem ZkX {mask must:Int} {q:List HArc} (hk:∀a∈q,1≤a.kind∧a.kind≤3) {a:HArc}:a∈ofA (bits .and .i64 mask must) q↔a∈ofA mask q∧isM must a=true:=by
 rw[mem_ofA,mem_ofA];unfold isM
 constructor
 ·rintro⟨h1,h2⟩;obtain⟨j,hj,hj2⟩:=Zcw (hk a h1).1 (hk a h1).2;rw[hj,Zc2 _ _ j hj2,Bool.and_eq_true,←hj]at h2;exact⟨⟨h1,h2.1⟩,h2.2⟩
 ·rintro⟨⟨h1,h2⟩,h3⟩;refine⟨h1,?_⟩;obtain⟨j,hj,hj2⟩:=Zcw (hk a h1).1 (hk a h1).2;rw[hj]at h2 h3 ⊢;rw[Zc2 _ _ j hj2,h2,h3];rfl
theorem Zjw {mask must:Int} {q:List HArc} (hk:∀a∈q,1≤a.kind∧a.kind≤3) (y z:Int):
  z∈Zt (ofA (bits .andNot .i64 mask must) q) (ofA (bits .and .i64 mask must) q) (bits .andNot .i64 mask must) (bits .and .i64 mask must) y↔∃a∈ofA mask q,a.t=y/2∧z=a.f*2+(if isM must a=true then 1 else y%2):=by
 have hm:bits .andNot .i64 mask must=bits .and .i64 mask must→ofA (bits .andNot .i64 mask must) q=[]:=fun e=>by
  rw[List.eq_nil_iff_forall_not_mem];intro a ha;have h1:=(ZkY hk).1 ha;rw[e]at ha;have h2:=(ZkX hk).1 ha;rw[h1.2]at h2
  cases h2.2
 unfold Zt;rw[List.mem_append,List.mem_map,List.mem_map];have m:∀(p:List HArc) (u:Int),u∈nxA (y/2) true p↔∃a∈p,a.t=y/2∧u=a.f:=fun p u=>mem_prevF (u:=u) (v:=y/2) (p:=p)
 constructor
 ·rintro(⟨u,hu,rfl⟩|⟨u,hu,rfl⟩)
  ·obtain⟨a,ha,h1,rfl⟩:=(m _ u).1 hu;have h2:=(ZkY hk).1 ha;refine⟨a,h2.1,h1,?_⟩;rw[if_neg (by rw[h2.2];decide)];unfold ZeF;rw[if_neg (fun e=>by rw[hm e]at ha;cases ha)]
  ·obtain⟨a,ha,h1,rfl⟩:=(m _ u).1 hu;have h2:=(ZkX hk).1 ha;exact⟨a,h2.1,h1,by rw[if_pos h2.2]⟩
 ·rintro⟨a,ha,h1,rfl⟩
  by_cases hM:isM must a=true
  ·rw[if_pos hM];exact .inr ⟨a.f,(m _ _).2 ⟨a,(ZkX hk).2 ⟨ha,hM⟩,h1,rfl⟩,rfl⟩
  ·rw[if_neg hM];have h3:=(ZkY hk).2 ⟨ha,by simpa using hM⟩;refine .inl ⟨a.f,(m _ _).2 ⟨a,h3,h1,rfl⟩,?_⟩;unfold ZeF;rw[if_neg (fun e=>by rw[hm e]at h3;cases h3)]
def Zj (must:Int) (l:List HArc):Bool:=l.any (isM must)
theorem Zdz {mask must least node:Int} {q:List HArc} (hk:∀a∈q,1≤a.kind∧a.kind≤3):
  ∀(n:Nat) (u:Int) (h:Int),(h=0∨h=1)→
   (Zkj (Zg least) (Zt (ofA (bits .andNot .i64 mask must) q) (ofA (bits .and .i64 mask must) q) (bits .andNot .i64 mask must) (bits .and .i64 mask must)) (node*2) n (u*2+h)↔
    ∃l,okW (ofA mask q) least u l node∧l.length=n∧(h=1↔Zj must l=true))
 |0,u,h,hh=>by
  constructor
  ·intro e;have e:u*2+h=node*2:=e;have:h=0:=by omega
   subst this;exact⟨[],show u=node by omega,rfl,by simp[Zj]⟩
  ·rintro⟨l,h1,h2,h3⟩;have:l=[]:=List.eq_nil_of_length_eq_zero h2;subst this;have h1:u=node:=h1
   have h0:h=0:=by
    rcases hh with e|e
    ·exact e
    ·have:=h3.1 e;simp[Zj]at this
   show u*2+h=node*2
   omega
 |n+1,u,h,hh=>by
  constructor
  ·rintro⟨v,hv,hu,ho⟩;obtain⟨a,ha,h1,h2⟩:=(Zjw hk v (u*2+h)).1 hu;have hs:(if isM must a=true then (1:Int) else v%2)=0∨(if isM must a=true then (1:Int) else v%2)=1:=by split<;>omega
   have hu2:u=a.f:=by omega
   have hh2:h=if isM must a=true then 1 else v%2:=by omega
   have hv2:v=a.t*2+v%2:=by omega
   rw[hv2]at hv;obtain⟨l,k1,k2,k3⟩:=(Zdz hk n a.t (v%2) (by omega)).1 hv;refine⟨a::l,⟨ha,hu2.symm,?_,k1⟩,by simp[k2],?_⟩
   ·have:=of_decide_eq_true ho;omega
   ·unfold Zj;rw[List.any_cons,Bool.or_eq_true,hh2]
    by_cases hM:isM must a=true
    ·rw[if_pos hM];exact⟨fun _=> .inl hM,fun _=>rfl⟩
    ·rw[if_neg hM,k3];unfold Zj;exact⟨.inr,fun e=>e.resolve_left hM⟩
  ·rintro⟨l,k1,k2,k3⟩
   cases l with
   |nil=>simp at k2
   |cons a l=>
    obtain⟨ha,haf,hl,k1⟩:=k1;have k2:l.length=n:=by simpa using k2
    obtain⟨g,hg,hg2⟩:∃g:Int,(g=0∨g=1)∧(g=1↔Zj must l=true):=by
     by_cases e:Zj must l=true
     ·exact⟨1,.inr rfl,by simp[e]⟩
     ·exact⟨0,.inl rfl,by simp[e]⟩
    refine⟨a.t*2+g,(Zdz hk n a.t g hg).2 ⟨l,k1,k2,hg2⟩,(Zjw hk _ _).2 ⟨a,ha,by omega,?_⟩,?_⟩
    ·rw[haf];have hgm:(a.t*2+g)%2=g:=by omega
     rw[hgm]
     have:h=if isM must a=true then 1 else g:=by
      unfold Zj at k3 hg2;rw[List.any_cons,Bool.or_eq_true]at k3
      by_cases hM:isM must a=true
      ·rw[if_pos hM];exact k3.2 (.inl hM)
      ·rw[if_neg hM]
       by_cases e:l.any (isM must)=true
       ·rw[k3.2 (.inr e),hg2.2 e]
       ·have h1:¬h=1:=fun e2=>(k3.1 e2).elim hM e
        have h2:¬g=1:=fun e2=>e (hg2.1 e2)
        omega
     rw[this]
    ·unfold Zg;have:(u*2+h)/2=u:=by omega
     rw[this];exact decide_eq_true hl
end
/- Closed walks,plain:the shortest from a node,and the first of these. -/
section
open Go.RowKit
theorem Zbc (must:Int) (a:HArc) (l:List HArc):Zj must (a::l)=(isM must a||Zj must l):=rfl
theorem ZbJ (must:Int) (l m:List HArc):Zj must (l++m)=(Zj must l||Zj must m):=by
 unfold Zj;rw[List.any_append]
structure LoopD (p:List HArc) (must i:Int) (da dw:Int→Int):Prop where
 a1:∀(u:Int) (l:List HArc),okW p i u l i→0≤da u∧da u≤(l.length:Int)
 a2:∀u,0≤da u→∃l,okW p i u l i∧(l.length:Int)=da u
 w1:∀(u:Int) (l:List HArc),okW p i u l i→Zj must l=true→0≤dw u∧dw u≤(l.length:Int)
 w2:∀u,0≤dw u→∃l,okW p i u l i∧Zj must l=true∧(l.length:Int)=dw u
theorem Zpd {N:Nat} {p:List HArc} {i:Int} {d:Int→Int} (h:DistOf N p i i d) (hi:Zao N i i=true):∀(l:List HArc) (u:Int),okW p i u l i→0≤d u∧d u≤(l.length:Int)
 |[],u,hu=>by
  have hu:u=i:=hu;have:=(h.z u).2 ⟨hu,hi⟩;simp only[List.length_nil];omega
 |a::l,u,⟨ha,haf,hl,hw⟩=>by
  have ih:=Zpd h hi l a.t hw;have:=h.clo a.t ih.1 u (mem_prevF.2 ⟨a,ha,rfl,haf.symm⟩) hl;simp only[List.length_cons];omega
theorem Zpc {N:Nat} {p:List HArc} {i:Int} {d:Int→Int} (h:DistOf N p i i d):∀(n:Nat) (u:Int),d u=(n:Int)→∃l,okW p i u l i∧l.length=n
 |0,u,hu=>⟨[],((h.z u).1 (by simpa using hu)).1,rfl⟩
 |n+1,u,hu=>by
  rcases h.par u (by omega)with ⟨e,hs⟩|⟨v,h1,h2,h3,h4⟩
  ·have:=(h.z u).2 ⟨e,hs⟩;omega
  ·obtain⟨a,ha,hat,haf⟩:=mem_prevF.1 h1;obtain⟨l,k1,k2⟩:=Zpc h n v (by omega);exact⟨a::l,⟨ha,haf.symm,h2,by rw[hat];exact k1⟩,by simp[k2]⟩
def Zp (N:Nat) (q:List HArc) (mask must i:Int):Int→Int:=fun u=>
 Zc8 N (ofA (bits .andNot .i64 mask must) q) (ofA (bits .and .i64 mask must) q) (bits .andNot .i64 mask must) (bits .and .i64 mask must) i i (u*2+1)
theorem ZgE {N:Nat} {i:Int} (h0:0≤i) (h1:i<(N:Int)):Zao N i i=true:=by
 unfold Zao;rw[decide_eq_true (by omega),decide_eq_true h1];rfl
theorem Zfk {N:Nat} {q:List HArc} (hr:∀a∈q,Zi N a=true) (mask must i:Int) (h0:0≤i) (h1:i<(N:Int)):
  LoopD (ofA mask q) must i (ZbE N (ofA mask q) i i) (Zp N q mask must i):=by
 have hk:∀a∈q,1≤a.kind∧a.kind≤3:=fun a ha=>by
  have:=(ZC _ _).1 (hr a ha);exact⟨this.2.2.2.2.1,this.2.2.2.2.2.1⟩
 have hf:∀m,∀x∈ofA m q,0≤x.f∧x.f<(N:Int):=fun m x hx=>by
  have:=(ZC _ _).1 (hr x (mem_ofA.1 hx).1);exact⟨this.1,this.2.1⟩
 have hs:=ZgE h0 h1;have hd:=Zlo (hf mask) i i;have hdm:i*2∈Zd (2*N):=mem_nodesZ.2 ⟨by omega,by omega⟩;have hcl:∀v∈Zd (2*N),∀u∈Zt (ofA (bits .andNot .i64 mask must) q) (ofA (bits .and .i64 mask must) q) (bits .andNot .i64 mask must) (bits .and .i64 mask must) v,Zg i u=true→u∈Zd (2*N):=fun v _ u hu _=>ZgY (hf _) (hf _) v u hu
 have B0:=BInv.start (ok:=Zg i) (ps:=Zt (ofA (bits .andNot .i64 mask must) q) (ofA (bits .and .i64 mask must) q) (bits .andNot .i64 mask must) (bits .and .i64 mask must)) hdm (Zl (2*N));have B1:=Zfw (Zl (2*N)) hcl (2*N) _ _ B0 (by have:=B0.fit;unfold Fits at this;rw[ZT]at this;exact this)
 have hw:∀u,Zp N q mask must i u=Za7 (Zg i) (Zt (ofA (bits .andNot .i64 mask must) q) (ofA (bits .and .i64 mask must) q) (bits .andNot .i64 mask must) (bits .and .i64 mask must)) (2*N) ((fun u=>if u=i*2 then 0 else -1),[i*2]) (u*2+1):=fun u=>by
  unfold Zp Zc8;rw[if_pos hs];rfl
 refine⟨fun u l h=>Zpd hd hs l u h,fun u hu=> ?_,fun u l h hm=> ?_,fun u hu=> ?_⟩
 ·obtain⟨l,k1,k2⟩:=Zpc hd (ZbE N (ofA mask q) i i u).toNat u (by omega);exact⟨l,k1,by omega⟩
 ·rw[hw];exact Zku B1 l.length (u*2+1) ((Zdz hk l.length u 1 (.inr rfl)).2 ⟨l,h,rfl,by simp[hm]⟩)
 ·rw[hw]at hu ⊢;obtain⟨n,hn⟩:∃n:Nat,Za7 (Zg i) (Zt (ofA (bits .andNot .i64 mask must) q) (ofA (bits .and .i64 mask must) q) (bits .andNot .i64 mask must) (bits .and .i64 mask must)) (2*N) ((fun u=>if u=i*2 then 0 else -1),[i*2]) (u*2+1)=(n:Int):=⟨_,(Int.toNat_of_nonneg hu).symm⟩;obtain⟨l,k1,k2,k3⟩:=(Zdz hk n u 1 (.inr rfl)).1 (Zkt B1 n _ hn);exact⟨l,k1,k3.1 rfl,by rw[hn,k2]⟩
def ZD (must:Int) (da dw:Int→Int) (need:Bool) (a:HArc):Int:=if (need&& !isM must a)=true then dw a.t else da a.t
section
variable {p:List HArc} {must i:Int} {da dw:Int→Int}
theorem Zmm (h:LoopD p must i da dw) (need:Bool) (a:HArc) (l:List HArc) (hw:okW p i a.t l i) (hm:need=true→Zj must (a::l)=true):0≤ZD must da dw need a∧ZD must da dw need a≤(l.length:Int):=by
 unfold ZD
 split
 ·rename_i hn
  rw[Bool.and_eq_true]at hn;have h1:=hm hn.1;rw[Zbc]at h1;have h2:isM must a=false:=by simpa using hn.2
  rw[h2,Bool.false_or]at h1;exact h.w1 a.t l hw h1
 ·exact h.a1 a.t l hw
theorem ZiT (h:LoopD p must i da dw) (need:Bool) (a:HArc) (h0:0≤ZD must da dw need a):∃l,okW p i a.t l i∧(l.length:Int)=ZD must da dw need a∧(need=true→Zj must (a::l)=true):=by
 unfold ZD at h0 ⊢
 split at h0
 ·rename_i hn
  obtain⟨l,k1,k2,k3⟩:=h.w2 a.t h0;rw[if_pos hn];exact⟨l,k1,k3,fun _=>by rw[Zbc,k2];simp⟩
 ·rename_i hn
  obtain⟨l,k1,k2⟩:=h.a2 a.t h0;rw[if_neg hn];refine⟨l,k1,k2,fun e=> ?_⟩;rw[e,Bool.true_and]at hn;have:isM must a=true:=by simpa using hn
  rw[Zbc,this];rfl
end
def ZQ (lf:HArc→Int):Int→List HArc→Int
 |best,[]=>best
 |best,a::l=>ZQ lf (if (decide (0≤lf a)&&(best==0||decide (lf a+1<best)))=true then lf a+1 else best) l
theorem Zce (lf:HArc→Int):∀(l:List HArc) (best:Int),0≤best→0≤ZQ lf best l∧(0<best→0<ZQ lf best l∧ZQ lf best l≤best)∧(∀a∈l,0≤lf a→0<ZQ lf best l∧ZQ lf best l≤lf a+1)∧(0<ZQ lf best l→ZQ lf best l=best∨∃a∈l,0≤lf a∧ZQ lf best l=lf a+1)
 |[],best,hb=>⟨hb,fun h=>⟨h,Int.le_refl _⟩,fun a ha=>(by cases ha),fun _=> .inl rfl⟩
 |x::l,best,hb=>by
  show 0≤ZQ lf (if (decide (0≤lf x)&&(best==0||decide (lf x+1<best)))=true then lf x+1 else best) l∧_
  by_cases hc:(decide (0≤lf x)&&(best==0||decide (lf x+1<best)))=true
  ·have hs:ZQ lf best (x::l)=ZQ lf (lf x+1) l:=by
    show ZQ lf (if (decide (0≤lf x)&&(best==0||decide (lf x+1<best)))=true then lf x+1 else best) l=_
    rw[if_pos hc]
   rw[if_pos hc,hs];rw[Bool.and_eq_true,decide_eq_true_eq,Bool.or_eq_true,beq_iff_eq,decide_eq_true_eq]at hc;obtain⟨i1,i2,i3,i4⟩:=Zce lf l (lf x+1) (by omega);have i2':=i2 (by omega);refine⟨i1,fun hb0=>⟨i2'.1,by omega⟩,fun a ha h0=> ?_,fun h=> ?_⟩
   ·rcases List.mem_cons.1 ha with rfl|ha
    ·exact i2'
    ·exact i3 a ha h0
   ·rcases i4 h with e|⟨a,ha,h0,e⟩
    ·exact .inr ⟨x,List.mem_cons_self,hc.1,e⟩
    ·exact .inr ⟨a,List.mem_cons_of_mem _ ha,h0,e⟩
  ·have hs:ZQ lf best (x::l)=ZQ lf best l:=by
    show ZQ lf (if (decide (0≤lf x)&&(best==0||decide (lf x+1<best)))=true then lf x+1 else best) l=_
    rw[if_neg hc]
   rw[if_neg hc,hs];rw[Bool.and_eq_true,decide_eq_true_eq,Bool.or_eq_true,beq_iff_eq,decide_eq_true_eq]at hc;obtain⟨i1,i2,i3,i4⟩:=Zce lf l best hb;refine⟨i1,i2,fun a ha h0=> ?_,fun h=> ?_⟩
   ·rcases List.mem_cons.1 ha with rfl|ha
    ·have hb0:0<best∧best≤lf a+1:=by
      constructor
      ·rcases Classical.em (best=0)with e|e
       ·exact absurd ⟨h0,.inl e⟩ hc
       ·omega
      ·rcases Classical.em (lf a+1<best)with e|e
       ·exact absurd ⟨h0,.inr e⟩ hc
       ·omega
     have:=i2 hb0.1;omega
    ·exact i3 a ha h0
   ·rcases i4 h with e|⟨a,ha,h0,e⟩
    ·exact .inl e
    ·exact .inr ⟨a,List.mem_cons_of_mem _ ha,h0,e⟩
def Z7 (p:List HArc) (must i:Int) (da dw:Int→Int) (need:Bool):Int:=ZQ (ZD must da dw need) 0 (p.filter fun a=>a.f==i)
section
variable {p:List HArc} {must i:Int} {da dw:Int→Int}
theorem ZgV (h:LoopD p must i da dw) (need:Bool) {c:List HArc} (hc:c≠[]) (hw:okW p i i c i) (hm:need=true→Zj must c=true):0<Z7 p must i da dw need∧Z7 p must i da dw need≤(c.length:Int):=by
 cases c with
 |nil=>exact absurd rfl hc
 |cons a l=>
  obtain⟨ha,haf,hl,hw⟩:=hw;have h1:=Zmm h need a l hw hm;have h2:=(Zce (ZD must da dw need) (p.filter fun a=>a.f==i) 0 (by omega)).2.2.1 a (List.mem_filter.2 ⟨ha,by simp[haf]⟩) h1.1;unfold Z7;simp only[List.length_cons];omega
theorem Zkw (h:LoopD p must i da dw) (need:Bool) (h0:0<Z7 p must i da dw need):∃c,c≠[]∧okW p i i c i∧(c.length:Int)=Z7 p must i da dw need∧(need=true→Zj must c=true):=by
 unfold Z7 at h0 ⊢;rcases(Zce (ZD must da dw need) (p.filter fun a=>a.f==i) 0 (by omega)).2.2.2 h0 with e|⟨a,ha,h1,e⟩
 ·omega
 ·rw[List.mem_filter,beq_iff_eq]at ha;obtain⟨l,k1,k2,k3⟩:=ZiT h need a h1;exact⟨a::l,by simp,⟨ha.1,ha.2,Int.le_refl _,k1⟩,by simp only[List.length_cons];omega,k3⟩
end
def ZB (p:List HArc) (must i:Int) (da dw:Int→Int):Nat→Int→Bool→List HArc
 |0,_,_=>[]
 |n+1,here,need=>match (p.filter fun a=>a.f==here).find? (fun a=>decide (i≤a.t)&&decide (ZD must da dw need a=(n:Int)))with
  |some a=>a::ZB p must i da dw n a.t (need&& !isM must a)
  |none=>ZB p must i da dw n here need
def ZeG:List HArc→List HArc→Prop
 |a::l,b::m=>ZaV a b=true∨(a=b∧ZeG l m)
 |_,_=>False
theorem Ze4 {p:List HArc} {must i:Int} {da dw:Int→Int} (hs:Z3 p) (h:LoopD p must i da dw) (hda:∀u,0≤da u→i≤u) (hdw:∀u,0≤dw u→i≤u):
  ∀(n:Nat) (here:Int) (need:Bool),i≤here→(∃l,okW p i here l i∧l.length=n∧(need=true→Zj must l=true))→
   (∀l,l≠[]→okW p i here l i→(need=true→Zj must l=true)→n≤l.length)→
   okW p i here (ZB p must i da dw n here need) i∧(ZB p must i da dw n here need).length=n∧(need=true→Zj must (ZB p must i da dw n here need)=true)∧
    ∀l,okW p i here l i→l.length=n→(need=true→Zj must l=true)→l=ZB p must i da dw n here need∨ZeG (ZB p must i da dw n here need) l
 |0,here,need,hih,⟨l,k1,k2,k3⟩,hmin=>by
  have:l=[]:=List.eq_nil_of_length_eq_zero k2;subst this;refine⟨k1,rfl,k3,fun l _ h2 _=> .inl (List.eq_nil_of_length_eq_zero h2)⟩
 |n+1,here,need,hih,⟨l,k1,k2,k3⟩,hmin=>by
  have good:∀(a:HArc) (l:List HArc),okW p i here (a::l) i→l.length=n→(need=true→Zj must (a::l)=true)→a∈(p.filter fun a=>a.f==here)∧(decide (i≤a.t)&&decide (ZD must da dw need a=(n:Int)))=true:=by
   intro a l hw hl hm;obtain⟨ha,haf,hia,hw2⟩:=hw;have h1:=Zmm h need a l hw2 hm;obtain⟨l2,j1,j2,j3⟩:=ZiT h need a h1.1;have h2:=hmin (a::l2) (by simp) ⟨ha,haf,hia,j1⟩ j3;simp only[List.length_cons]at h2;refine⟨List.mem_filter.2 ⟨ha,by simp[haf]⟩,?_⟩;rw[Bool.and_eq_true,decide_eq_true_eq,decide_eq_true_eq];refine⟨?_,by omega⟩;unfold ZD at h1
   split at h1
   ·exact hdw _ h1.1
   ·exact hda _ h1.1
  cases l with
  |nil=>simp at k2
  |cons a0 l0=>
   have g0:=good a0 l0 k1 (by simpa using k2) k3
   obtain⟨a,hfa⟩:∃a,(p.filter fun a=>a.f==here).find? (fun a=>decide (i≤a.t)&&decide (ZD must da dw need a=(n:Int)))=some a:=by
    rw[←Option.isSome_iff_exists,List.find?_isSome];exact⟨a0,g0⟩
   have hma:=List.mem_of_find?_eq_some hfa;have hpa:=List.find?_some hfa;rw[List.mem_filter,beq_iff_eq]at hma;rw[Bool.and_eq_true,decide_eq_true_eq,decide_eq_true_eq]at hpa
   have hwc:ZB p must i da dw (n+1) here need=a::ZB p must i da dw n a.t (need&& !isM must a):=by
    show(match (p.filter fun a=>a.f==here).find? (fun a=>decide (i≤a.t)&&decide (ZD must da dw need a=(n:Int)))with|some a=>a::ZB p must i da dw n a.t (need&& !isM must a)|none=>ZB p must i da dw n here need)=_
    rw[hfa]
   have tailM:∀l:List HArc,(need=true→Zj must (a::l)=true)→((need&& !isM must a)=true→Zj must l=true):=by
    intro l hm hn;rw[Bool.and_eq_true]at hn;have h1:=hm hn.1;have h2:isM must a=false:=by simpa using hn.2
    rw[Zbc,h2,Bool.false_or]at h1;exact h1
   have headM:∀l:List HArc,((need&& !isM must a)=true→Zj must l=true)→(need=true→Zj must (a::l)=true):=by
    intro l hm hn;rw[Zbc]
    by_cases e:isM must a=true
    ·rw[e];rfl
    ·have e2:isM must a=false:=by simpa using e
     rw[hm (by rw[hn,e2];rfl)];simp
   obtain⟨l1,j1,j2,j3⟩:=ZiT h need a (by omega)
   have ih:=Ze4 hs h hda hdw n a.t (need&& !isM must a) hpa.1 ⟨l1,j1,by omega,tailM l1 j3⟩ (fun l hl hw hm=>by
    have:=hmin (a::l) (by simp) ⟨hma.1,hma.2,hih,hw⟩ (headM l hm);simp only[List.length_cons]at this;omega)
   rw[hwc];refine⟨⟨hma.1,hma.2,hih,ih.1⟩,by simp[ih.2.1],headM _ ih.2.2.1,fun l hw hl hm=> ?_⟩
   cases l with
   |nil=>simp at hl
   |cons b l=>
    have gb:=good b l hw (by simpa using hl) hm
    by_cases e:b=a
    ·subst e;rcases ih.2.2.2 l hw.2.2.2 (by simpa using hl) (tailM l hm)with e|e
     ·exact .inl (by rw[e])
     ·exact .inr (.inr ⟨rfl,e⟩)
    ·refine .inr (.inl ?_);obtain⟨l8,l9,h1,h2⟩:=(List.find?_eq_some_iff_append.1 hfa).2;have hb:=gb.1;rw[h1]at hb;have hsf:Z3 (l8++a::l9):=by rw[←h1];exact hs.filter _
     rcases List.mem_append.1 hb with hb|hb
     ·have:=h2 b hb;rw[gb.2]at this
      cases this
     ·rcases List.mem_cons.1 hb with hb|hb
      ·exact absurd hb e
      ·exact(List.pairwise_cons.1 (List.pairwise_append.1 hsf).2.1).1 b hb
end
/- Closed walks,plain:the shortest of all;it meets no node twice. -/
section
open Go.RowKit
theorem Zg1 {p:List HArc} {least:Int}:∀{l:List HArc} {u v:Int} {a:HArc},okW p least u l v→a∈l→∃l1 l2,l=l1++a::l2∧okW p least u l1 a.f∧okW p least a.f (a::l2) v
 |[],u,v,a,h,ha=>by cases ha
 |b::l,u,v,a,h,ha=>by
  rcases List.mem_cons.1 ha with rfl|ha
  ·exact⟨[],l,rfl,h.2.1.symm,by rw[h.2.1];exact h⟩
  ·obtain⟨l1,l2,e,h1,h2⟩:=Zg1 h.2.2.2 ha;exact⟨b::l1,l2,by rw[e];rfl,⟨h.1,h.2.1,h.2.2.1,h1⟩,h2⟩
theorem Zoo {p:List HArc} {least:Int}:∀{l:List HArc} {u v:Int},okW p least u l v→∀a∈l,least≤a.f
 |[],_,_,_,a,ha=>by cases ha
 |b::l,u,v,h,a,ha=>by
  rcases List.mem_cons.1 ha with rfl|ha
  ·rw[h.2.1];exact h.2.2.1
  ·exact Zoo h.2.2.2 a ha
theorem Za1 {p:List HArc} {least:Int}:∀{l:List HArc} {u v:Int},okW p least u l v→∀a∈l,a∈p
 |[],_,_,_,a,ha=>by cases ha
 |b::l,u,v,h,a,ha=>by
  rcases List.mem_cons.1 ha with rfl|ha
  ·exact h.1
  ·exact Za1 h.2.2.2 a ha
theorem Zdm {p:List HArc} {least least':Int}:∀{l:List HArc} {u v:Int},okW p least u l v→(∀a∈l,least'≤a.f)→okW p least' u l v
 |[],_,_,h,_=>h
 |b::l,u,v,h,hl=>⟨h.1,h.2.1,by have:=hl b List.mem_cons_self;have:=h.2.1;omega,Zdm h.2.2.2 (fun a ha=>hl a (List.mem_cons_of_mem _ ha))⟩
theorem ZfX:∀{l:List HArc},l≠[]→∃a∈l,∀b∈l,a.f≤b.f
 |[],h=>absurd rfl h
 |[a],_=>⟨a,List.mem_singleton.2 rfl,fun b hb=>by rw[List.mem_singleton]at hb;rw[hb];exact Int.le_refl _⟩
 |a::c::l,_=>by
  obtain⟨m,hm,hl⟩:=ZfX (l:=c::l) (by simp)
  by_cases h:a.f≤m.f
  ·refine⟨a,List.mem_cons_self,fun b hb=> ?_⟩;rcases List.mem_cons.1 hb with rfl|hb
   ·exact Int.le_refl _
   ·have:=hl b hb;omega
  ·refine⟨m,List.mem_cons_of_mem _ hm,fun b hb=> ?_⟩;rcases List.mem_cons.1 hb with rfl|hb
   ·omega
   ·exact hl b hb
theorem ZlW {p:List HArc} {must least u:Int} {c:List HArc} (h:okW p least u c u) (hc:c≠[]):∃v c',c'≠[]∧okW p v v c' v∧c'.length=c.length∧Zj must c'=Zj must c∧∃a∈c,v=a.f:=by
 obtain⟨a,ha,hmin⟩:=ZfX hc;obtain⟨l1,l2,e,h1,h2⟩:=Zg1 h ha;subst e;refine⟨a.f,(a::l2)++l1,by simp,?_,by simp only[List.length_append,List.length_cons];omega,by rw[ZbJ,ZbJ,Bool.or_comm],a,ha,rfl⟩;refine Zdm (ZdG h2 h1) fun b hb=>hmin b ?_
 rcases List.mem_append.1 hb with hb|hb
 ·exact List.mem_append_right _ hb
 ·exact List.mem_append_left _ hb
def ZF (ks:Int→Int) (ws:Int→List HArc):Nat→List HArc
 |0=>[]
 |n+1=>if (decide (0<ks (n:Int))&&(ZF ks ws n==[]||decide (ks (n:Int)<((ZF ks ws n).length:Int))))=true then ws (n:Int) else ZF ks ws n
theorem ZiD (ks:Int→Int) (ws:Int→List HArc) (h:∀i:Int,0<ks i→((ws i).length:Int)=ks i):
  ∀n:Nat,(ZF ks ws n=[]∧∀i:Nat,i<n→¬0<ks (i:Int))∨
   (∃i:Nat,i<n∧0<ks (i:Int)∧ZF ks ws n=ws (i:Int)∧(∀j:Nat,j<n→0<ks (j:Int)→ks (i:Int)≤ks (j:Int))∧∀j:Nat,j<i→¬(0<ks (j:Int)∧ks (j:Int)≤ks (i:Int)))
 |0=> .inl ⟨rfl,fun i hi=>by omega⟩
 |n+1=>by
  have ih:=ZiD ks ws h n
  by_cases hc:(decide (0<ks (n:Int))&&(ZF ks ws n==[]||decide (ks (n:Int)<((ZF ks ws n).length:Int))))=true
  ·have e:ZF ks ws (n+1)=ws (n:Int):=if_pos hc;rw[Bool.and_eq_true,decide_eq_true_eq,Bool.or_eq_true,beq_iff_eq,decide_eq_true_eq]at hc;refine .inr ⟨n,by omega,hc.1,e,fun j hj h0=> ?_,fun j hj hk=> ?_⟩
   ·rcases ih with ⟨h1,h2⟩|⟨i,hi,h0i,h1,h2,h3⟩
    ·have:j=n:=by
      rcases Nat.lt_or_ge j n with e2|e2
      ·exact absurd h0 (h2 j e2)
      ·omega
     subst this;exact Int.le_refl _
    ·have hl:=h (i:Int) h0i;rw[←h1]at hl;rcases hc.2 with e2|e2
     ·rw[e2]at hl;simp at hl;omega
     ·rcases Nat.lt_or_ge j n with e3|e3
      ·have:=h2 j e3 h0;omega
      ·have:j=n:=by omega
       subst this;exact Int.le_refl _
   ·rcases ih with ⟨h1,h2⟩|⟨i,hi,h0i,h1,h2,h3⟩
    ·exact h2 j hj hk.1
    ·have hl:=h (i:Int) h0i;rw[←h1]at hl;have:=h2 j hj hk.1;rcases hc.2 with e2|e2
     ·rw[e2]at hl;simp at hl;omega
     ·omega
  ·have e:ZF ks ws (n+1)=ZF ks ws n:=if_neg hc;rw[e]
   have hc':¬(0<ks (n:Int)∧(ZF ks ws n=[]∨ks (n:Int)<((ZF ks ws n).length:Int))):=fun hx=>hc (by
    rw[Bool.and_eq_true,decide_eq_true_eq,Bool.or_eq_true,beq_iff_eq,decide_eq_true_eq];exact hx)
   rcases ih with ⟨h1,h2⟩|⟨i,hi,h0i,h1,h2,h3⟩
   ·refine .inl ⟨h1,fun i hi h0=> ?_⟩;rcases Nat.lt_or_ge i n with e2|e2
    ·exact h2 i e2 h0
    ·have:i=n:=by omega
     subst this;exact hc' ⟨h0,.inl h1⟩
   ·refine .inr ⟨i,by omega,h0i,h1,fun j hj h0=> ?_,h3⟩;rcases Nat.lt_or_ge j n with e2|e2
    ·exact h2 j e2 h0
    ·have:j=n:=by omega
     subst this;have hl:=h (i:Int) h0i;rw[←h1]at hl;rcases Classical.em (ks (j:Int)<ks (i:Int))with e3|e3
     ·exact absurd ⟨h0,.inr (by omega)⟩ hc'
     ·omega
theorem Zm3 {c:List HArc} (h:∀l1 a l2 b l3,c=l1++a::(l2++b::l3)→a.f≠b.f):c.Pairwise fun a b=>a.f≠b.f:=by
 induction c with
 |nil=>exact List.Pairwise.nil
 |cons a l ih=>
  refine List.pairwise_cons.2 ⟨fun b hb=> ?_,ih fun l1 x l2 y l3 e=>h (a::l1) x l2 y l3 (by rw[e];rfl)⟩;obtain⟨l2,l3,e⟩:=List.append_of_mem hb;exact h [] a l2 b l3 (by rw[e];rfl)
theorem ZmH {p:List HArc} {must i:Int} {need:Bool} {c:List HArc} (hw:okW p i i c i) (hm:need=true→Zj must c=true)
  (hown:∀c',c'≠[]→okW p i i c' i→(need=true→Zj must c'=true)→c.length≤c'.length)
  (hall:∀v c',c'≠[]→okW p v v c' v→(need=true→Zj must c'=true)→c.length≤c'.length):c.Pairwise fun a b=>a.f≠b.f:=by
 refine Zm3 fun l1 a l2 b l3 e hab=> ?_
 subst e;obtain⟨x,h1,h2⟩:=ZfM hw;have ha:x=a.f:=h2.2.1.symm;subst ha;have h3:okW p i a.f ((a::l2)++b::l3) i:=h2;obtain⟨y,h4,h5⟩:=ZfM h3;have hb:y=b.f:=h5.2.1.symm;subst hb;have hR:okW p i i (l1++b::l3) i:=ZdG (by rw[←hab];exact h1) h5
 have hS:okW p i b.f (a::l2) b.f:=by
  have:=h4;rw[hab]at this;exact this
 have hlen:(l1++b::l3).length<(l1++a::(l2++b::l3)).length∧(a::l2).length<(l1++a::(l2++b::l3)).length:=by
  simp only[List.length_append,List.length_cons];omega
 by_cases hq:need=true→Zj must (l1++b::l3)=true
 ·have:=hown _ (by simp) hR hq;omega
 ·have hn:need=true:=Classical.byContradiction fun h=>hq (fun e=>absurd e h)
  have hr:Zj must (l1++b::l3)=false:=by
   have:¬Zj must (l1++b::l3)=true:=fun e=>hq (fun _=>e)
   simpa using this
  have hmm:=hm hn;rw[ZbJ]at hmm hr;have e1:a::(l2++b::l3)=(a::l2)++b::l3:=rfl;rw[e1,ZbJ]at hmm;rw[Bool.or_eq_false_iff]at hr;rw[hr.1,hr.2,Bool.false_or,Bool.or_false]at hmm;obtain⟨v,c',k1,k2,k3,k4,_⟩:=ZlW (must:=must) hS (by simp);have:=hall v c' k1 k2 (fun _=>by rw[k4];exact hmm);omega
end
end Go.Proofs.YtonblekdfinpkaaGreat
