/- What a transaction needs of others. -/
import Derived.Test.YtblplapkdmhikaaGreatDbar
import Derived.Test.YtblplapkdmhikaaGreatDbbc
namespace Go.Proofs.YtblplapkdmhikaaGreat
set_option linter.unusedVariables false
set_option linter.unusedSimpArgs false
section
open Go.RowKit
theorem Zly:SlT Tryz.prog 167 36 3 24:=SlT.mk_ Tryz.underlying167 (z:= .agg #[.int .i64 0,.int .i64 0,.int .i64 0]) (by kernel_rfl) rfl (by omega)
def Zmo (F:Nat→Prop) (w:World) (A:Option Addr) (l:List Ver):Prop:=Recs F w A 3 (l.map Ver.cells)
theorem Zlq {l:List Ver}:∀r∈l.map Ver.cells,r.length=3:=fun r hr=>by
 obtain⟨e,_,rfl⟩:=List.mem_map.1 hr;rfl
def Znq (w:World) (l:List Ver) (e:Ending) (w':World):Prop:=∃A c,e= .returned (.slice A l.length c)∧w'.ownsRow w.heap.size 36 3 (.slice A l.length c) l.length (l.map Ver.cells).flatten∧Upd No w w'
def MetV (m:List (Ver×Value)) (xs:List Ver) (k:Nat):Prop:=∀v:Ver,∃n:Nat,(Zz m v).getD (.int .i64 0)= .int .i64 n∧n≤k∧(n=0↔v∉xs)
theorem MetV.nil:MetV [] [] 0:=fun v=>⟨0,by rw[Zbt];rfl,Nat.le_refl _,by simp⟩
theorem MetV.mono {m:List (Ver×Value)} {xs:List Ver} {k:Nat} (h:MetV m xs k):MetV m xs (k+1):=fun v=>by
 obtain⟨n,h1,h2,h3⟩:=h v;exact⟨n,h1,by omega,h3⟩
theorem MetV.put {m:List (Ver×Value)} {xs:List Ver} {k n:Nat} {v:Ver} (h:MetV m xs k) (hn:(Zz m v).getD (.int .i64 0)= .int .i64 n):MetV (Zs m v (.int .i64 ((n:Int)+1))) (if n=0 then xs++[v] else xs) (k+1):=fun u=>by
 obtain⟨n',h1,h2,h3⟩:=h v;rw[h1]at hn;obtain rfl:n'=n:=by injection hn with _ hn;omega
 by_cases e:u=v
 ·subst e;refine⟨n'+1,by rw[ZI];rfl,by omega,?_⟩
  constructor
  ·intro e;omega
  ·intro hn2
   split at hn2
   ·simp at hn2
   ·rename_i h0
    exact absurd (h3.2 hn2) h0
 ·rw[Z7 _ _ e];obtain⟨q,g1,g2,g3⟩:=h u;refine⟨q,g1,by omega,?_⟩;rw[g3]
  split
  ·simp[e]
  ·rfl
theorem ZdU {id:Int} {l:List HOp} {k:Nat} {x:HOp} (hk:k<l.length) (hx:l[k]=x) (h:ZaS id x=false):Z0 id l (k+1)=Z0 id l k:=by
 show(match l[k]? with|some o=>_|none=>_)=_
 rw[Qg hk,hx];simp[h]
theorem Zjo {id:Int} {l:List HOp} {k:Nat} {x:HOp} (hk:k<l.length) (hx:l[k]=x) (h:ZaS id x=true):Z0 id l (k+1)=if Zp x∉Z0 id l k then Z0 id l k++[Zp x] else Z0 id l k:=by
 show(match l[k]? with|some o=>_|none=>_)=_
 rw[Qg hk,hx];simp[h]
theorem ZgQ (id:Int) (l:List HOp):∀k,(Z0 id l k).length≤k
 |0=>Nat.le_refl _
 |k+1=>by
  have ih:=ZgQ id l k
  show(match l[k]? with|some o=>_|none=>_:List Ver).length≤_
  split
  ·split
   ·simp;omega
   ·omega
  ·omega
set_option maxRecDepth 100000 in
set_option maxHeartbeats 4000000 in
theorem Znz (F:Nat→Prop) (w:World) (i0:Int) (dn:Bool) (A:Option Addr) (c:Nat) (l:List HOp) (h:HOps F w A l) (hl:Zg l.length):
  Calls Tryz.prog 119 #[.agg #[.int .i64 i0,.bool dn,.slice A l.length c]] w (Znq w (ZdV i0 l)):=by
 unfold Zg at hl;have uT:=(Upd.refl No w).alloc (.cells #[.int .i64 i0,.bool dn,.slice A l.length c] 81);have bT:=Qh (Blk.new w 81 [.int .i64 i0,.bool dn,.slice A l.length c]);have hmm:= @run_makeMap Tryz.prog;have hn0:=MapE.new (w.alloc (.cells #[.int .i64 i0,.bool dn,.slice A l.length c] 81)) Zbo;simp only[World.size_alloc]at hn0;have HN:=Qh hn0;clear hn0
 go_enter Tryz.func119,Tryz.ntmps119
 go_wp2
 go_loopg [3,12] l.length (fun gk s i wr=>∃(k:Nat) (A3:Option Addr) (c3:Nat) (xs:List Ver) (m:List (Ver×Value)),k+gk=l.length∧i= .int .i64 k∧s= .slice A3 xs.length c3∧Hid (xs=Z0 i0 l k)∧xs.length≤k∧
  Hid (MapE wr (w.heap.size+1) Zbo m)∧Hid (MetV m xs k)∧wr.ownsRow (w.heap.size+2) 36 3 (.slice A3 xs.length c3) xs.length (xs.map Ver.cells).flatten∧
  Upd No (w.alloc (.cells #[.int .i64 i0,.bool dn,.slice A l.length c] 81)) wr)
 case atStart=>exact⟨0,none,0,[],[],by omega,rfl,rfl,Qh rfl,by simp,Qh HN.out,Qh MetV.nil,World.ownsRow_nil _ _ _ _,(Upd.refl No _).alloc _⟩
 case round=>
  obtain⟨k,A3,c3,xs,m,hgk,rfl,rfl,hxs,hxl,hm,hW,hown,hu⟩:=hrel;clear hmm
  by_cases hlt:k<l.length
  ·obtain⟨ad,hAd,q0,q1,q2,q3⟩:=(h.upd (uT.trans hu) (fun _ _=>id)).at_ hlt;obtain⟨x,hx⟩:∃x,l[k]=x:=⟨_,rfl⟩;rw[hx]at q0 q1 q2 q3;subst hAd;have X:=Qh hx;have b1:(0:Int)≤(k:Int):=Qn _;have b2:(k:Int)<(l.length:Int):=by omega
   have uA:=(Upd.refl No wr).alloc (.cells #[.bool x.read,.int .i64 x.key,.int .i64 x.tx,.int .i64 x.nth] 95);have bo:=Qh (Blk.new wr 95 [.bool x.read,.int .i64 x.key,.int .i64 x.tx,.int .i64 x.nth]);clear hx;have hl1:=hm.out.lt;have hm1:=hm.out.upd uA id;have hown1:=Zb hown uA (fun _ _=>id);have bT1:=Qh ((bT.out.upd hu id).upd uA id);obtain⟨v,hv⟩:∃v,Zp x=v:=⟨_,rfl⟩;have hof:=oof (wr.alloc (.cells #[.bool x.read,.int .i64 x.key,.int .i64 x.tx,.int .i64 x.nth] 95)) x;rw[hv]at hof;have Hof:=Qh (hof.mono (R':=fun e w'=>e= .returned (.agg #[.int .i64 v.tx,.int .i64 v.key,.int .i64 v.nth])∧Upd No (wr.alloc (.cells #[.bool x.read,.int .i64 x.key,.int .i64 x.tx,.int .i64 x.nth] 95)) w') fun e w' h=>h);have V:=Qh hv;clear hof hv
   go_wp2_with fail
   refine(Hof.out).mono ?_;rintro e w1 ⟨rfl,hu1⟩;have uV:=hu1.alloc (.cells #[.int .i64 v.tx,.int .i64 v.key,.int .i64 v.nth] 36);have bv:=Blk.new w1 36 [.int .i64 v.tx,.int .i64 v.key,.int .i64 v.nth];have bo1:=bo.out.upd uV id;have bT2:=bT1.out.upd uV id;have hm2:=hm1.upd uV id;have hown2:=Zb hown1 uV (fun _ _=>id);have k0:=bo1.cell 0;have t0:=bT2.cell 0;have v0:=bv.cell 0;have v1:=bv.cell 1;have v2:=bv.cell 2;simp only[Qz,Qs]at k0 t0 v0 v1 v2;have HU:=Qh ((hu.trans uA).trans uV);have hz1:=uV.size;simp only[World.size_alloc]at hz1;have hz2:=hu1.size;simp only[World.size_alloc]at hz2;have hz3:=hu.size;simp only[World.size_alloc]at hz3;clear uA uV hm1 hown1 bo1 bT2 bv hu1
   cases hr:x.read
   ·rw[hr]at k0;have HS:=Qh (ZdU (id:=i0) hlt X.out (by unfold ZaS;rw[hr];rfl));clear hr;go_wp2
    go_roundg (gk-1)
    case measure=>omega
    case rel=>exact⟨k+1,A3,c3,xs,m,by omega,by go_num,rfl,Qh (by rw[HS.out,hxs.out]),by omega,Qh hm2,Qh hW.out.mono,hown2,HU.out⟩
   ·rw[hr]at k0
    by_cases h0:v.tx=0
    ·have HS:=Qh (ZdU (id:=i0) hlt X.out (by unfold ZaS;rw[V.out,h0];simp));have h0b:(v.tx==0)=true:=by simpa using h0
     clear hr h0;go_wp2
     go_roundg (gk-1)
     case measure=>omega
     case rel=>exact⟨k+1,A3,c3,xs,m,by omega,by go_num,rfl,Qh (by rw[HS.out,hxs.out]),by omega,Qh hm2,Qh hW.out.mono,hown2,HU.out⟩
    ·have h0b:(v.tx==0)=false:=by simpa using h0
     clear h0
     by_cases h1:v.tx=i0
     ·have h1b:(v.tx==i0)=true:=by simpa using h1
      have HS:=Qh (ZdU (id:=i0) hlt X.out (by unfold ZaS;rw[V.out,h1b];simp));clear hr h1;go_wp2
      go_roundg (gk-1)
      case measure=>omega
      case rel=>exact⟨k+1,A3,c3,xs,m,by omega,by go_num,rfl,Qh (by rw[HS.out,hxs.out]),by omega,Qh hm2,Qh hW.out.mono,hown2,HU.out⟩
     ·have h1b:(v.tx==i0)=false:=by simpa using h1
      have HS:=Qh (show Z0 i0 l (k+1)=if v∉xs then xs++[v] else xs by rw[hxs.out,←V.out];exact Zjo (id:=i0) hlt X.out (by unfold ZaS;rw[V.out,h1b,hr,h0b];rfl));clear hr h1;obtain⟨N,hN,hNk,hN0⟩:=hW.out v;have HWp:=Qh (hW.out.put hN);have HN0:=Qh hN0;clear hN0;have HZW:=Qh (show(w1.alloc (.cells #[.int .i64 v.tx,.int .i64 v.key,.int .i64 v.nth] 36)).heap.size=w1.heap.size+1 by simp);go_wp2
      generalize hW0:w1.alloc (.cells #[.int .i64 v.tx,.int .i64 v.key,.int .i64 v.nth] 36)=W0 at*
      clear hW0;have hzw:=HZW.out;have HUW:=HU;have hwr:IntKind.i64.wrap ((N:Int)+1)=(N:Int)+1:=IntWalk.i64_in _ (by omega);have hwn:w1.heap.size≠w.heap.size+1:=by omega
      have hun:∀i,One (w.heap.size+1) i→w.heap.size+1≤i:=fun i e=>by cases e;exact Nat.le_refl _
      have hmd:MapE W0.drew (w.heap.size+1) Zbo m:=hm2;obtain⟨st,w2,e2,hm3,hu2,hst⟩:=ZaX ZfP Tryz.underlying264 Zce hmd v;have e1:=Zm ZfP Tryz.underlying264 Zce hmd.is v;have e3:=Zm ZfP Tryz.underlying264 Zce hm3.is v;rw[ZI]at e3;rw[hN]at e1 e2 e3;obtain⟨w3,e4,hm4,hu3⟩:=hst (.int .i64 ((N:Int)+1));have e5:=Zm ZfP Tryz.underlying264 Zce hm4.is v;rw[ZI]at e5;change (Instr.lookup 264 (.map (some (w.heap.size+1))) (.agg #[.int .i64 v.tx,.int .i64 v.key,.int .i64 v.nth]) false).run Tryz.prog W0.drew= .ok (.int .i64 N) W0.drew at e1;change (Instr.lookup 264 (.map (some (w.heap.size+1))) (.agg #[.int .i64 v.tx,.int .i64 v.key,.int .i64 v.nth]) false).run Tryz.prog w2= .ok (.int .i64 N) w2 at e3;change (Instr.mapEntry 264 (.map (some (w.heap.size+1))) (.agg #[.int .i64 v.tx,.int .i64 v.key,.int .i64 v.nth])).run Tryz.prog W0.drew= .ok (.tuple #[.int .i64 N,.int .i64 st]) w2 at e2;change (Instr.entryStore 264 (.map (some (w.heap.size+1))) (.int .i64 st) (.int .i64 ((N:Int)+1))).run Tryz.prog w2= .ok () w3 at e4;change (Instr.lookup 264 (.map (some (w.heap.size+1))) (.agg #[.int .i64 v.tx,.int .i64 v.key,.int .i64 v.nth]) false).run Tryz.prog w3= .ok (.int .i64 ((N:Int)+1)) w3 at e5;have a0:=Upd.keep hu2 (p:=⟨w1.heap.size,0,none⟩) v0 hwn;have a1:=Upd.keep hu2 (p:=⟨w1.heap.size,1,none⟩) v1 hwn;have a2:=Upd.keep hu2 (p:=⟨w1.heap.size,2,none⟩) v2 hwn;have c0:=Upd.keep hu3 (p:=⟨w1.heap.size,0,none⟩) v0 hwn;have c1:=Upd.keep hu3 (p:=⟨w1.heap.size,1,none⟩) v1 hwn;have c2:=Upd.keep hu3 (p:=⟨w1.heap.size,2,none⟩) v2 hwn
      have hown3:=Zb hown2 hu3.of_drew (fun i hi e=>by have:=(hown2.lt i hi).1;cases e;omega);have HU3:=Qh (HUW.out.then_ hu3.of_drew fun i e=> .inr (by simp only[World.size_alloc];exact hun i e));have hz4:W0.heap.size≤w3.heap.size:=hu3.size;have Hm4:=Qh hm4;clear hN hst hmd hm2 hm3 hm4 hown2 hu2 hu3
      go_region_held3 (fun w'=>w'.cell? ⟨w1.heap.size,0,none⟩=some (.int .i64 v.tx)∧w'.cell? ⟨w1.heap.size,1,none⟩=some (.int .i64 v.key)∧w'.cell? ⟨w1.heap.size,2,none⟩=some (.int .i64 v.nth))
       (first|exact⟨v0,v1,v2⟩|exact⟨a0,a1,a2⟩|exact⟨c0,c1,c2⟩) (fail)
      all_goals
       clear e1 e2 e3 e4 a0 a1 a2 v0 v1 v2 k0 t0 hwr;have Hc:=Qh c0
       by_cases hN1:N=0
       ·have HS2:=Qh (show Z0 i0 l (k+1)=xs++[v] by rw[HS.out,if_pos (HN0.out.1 hN1)]);have HW2:=HWp.out;rw[if_pos hN1]at HW2;have HW3:=Qh HW2;have e6:(Instr.lookup 264 (.map (some (w.heap.size+1))) (.agg #[.int .i64 v.tx,.int .i64 v.key,.int .i64 v.nth]) false).run Tryz.prog w3= .ok (.int .i64 1) w3:=by rw[e5,hN1];rfl
        clear hN1 e5 HW2
        go_wp2_with (at_builtin;refine Zag rfl rfl Zly (v:= .slice A3 xs.length c3) (cells:=[.int .i64 v.tx,.int .i64 v.key,.int .i64 v.nth]) (by rfl) rfl hown3 rfl rfl (by omega) (by omega) (by omega) ?_;intro g' c' w4 hown4 hu4 hg4 hlt4)
        go_roundg (gk-1)
        case measure=>omega
        case rel=>
         refine⟨k+1,some ⟨g',0,none⟩,c',xs++[v],_,by omega,by go_num,by simp,Qh (by rw[HS2.out]),by simp;omega,Qh (Hm4.out.upd hu4 (fun e=>by have:=(hown3.lt _ e).1;omega)),HW3,?_,HU3.out.then_ hu4 fun i e=> .inr (by have:=(hown3.lt i e).1;simp only[World.size_alloc];omega)⟩
         simpa[Ver.cells]using hown4
       ·have HS2:=Qh (show Z0 i0 l (k+1)=xs by rw[HS.out,if_neg (fun e=>hN1 (HN0.out.2 e))]);have HW2:=HWp.out;rw[if_neg hN1]at HW2;have HW3:=Qh HW2;have hb1:((N:Int)+1==1)=false:=by rw[beq_eq_false_iff_ne];omega
        clear hN1 HW2;go_wp2
        go_roundg (gk-1)
        case measure=>omega
        case rel=>exact⟨k+1,A3,c3,xs,_,by omega,by go_num,rfl,Qh (by rw[HS2.out]),by omega,Hm4,HW3,hown3,HU3.out⟩
  ·obtain rfl:k=l.length:=by omega
   have Hx:=Qh (show xs=ZdV i0 l by rw[hxs.out];rfl);clear hxs;go_wp2
   go_ret
   exact⟨A3,c3,by rw[Hx.out];rfl,by rw[←Hx.out];exact ZK hown (by omega),uT.trans hu⟩
end
/- Whether all that a transaction needs is there. -/
section
open Go.RowKit
def Zig (w:World) (g:Nat) (h:Hist):Prop:=Blk w g 29 h.cells
set_option maxRecDepth 100000 in
theorem nd1 (F:Nat→Prop) (w:World) (h:Hist) (g:Nat) (v:Ver) (H:h.lies F w) (hg:Zig w g h):
  Calls Tryz.prog 155 #[.agg v.cells.toArray,.pointer (some ⟨g,0,none⟩)] w fun e w'=>e= .returned (.bool (!(Z8 h.txs v)))∧Upd No w w':=by
 obtain⟨txs,ords,A,c,B,d⟩:=h;unfold Zig Hist.cells at hg;obtain⟨tx,key,nth⟩:=v;unfold Ver.cells;have uA:=(Upd.refl No w).alloc (.cells #[.int .i64 tx,.int .i64 key,.int .i64 nth] 36);have g0:=(hg.upd uA id).cell 0;have g1:=(hg.upd uA id).cell 1;simp only[Qz,Qs]at g0 g1;have hh:=Ze6 F _ ⟨txs,ords,A,c,B,d⟩ ⟨tx,key,nth⟩ (H.upd uA (fun _ _=>id));obtain⟨b,hb⟩:∃b,Z8 txs ⟨tx,key,nth⟩=b:=⟨_,rfl⟩;rw[show Z8 (Hist.txs ⟨txs,ords,A,c,B,d⟩) ⟨tx,key,nth⟩=b from hb]at hh;have HH:=Qh hh;have Hb:=Qh hb;clear hh hb
 go_enter Tryz.func155,Tryz.ntmps155
 go_wp2_with fail
 refine(HH.out).mono ?_;rintro e w1 ⟨rfl,hu1⟩;go_wp2
 go_ret
 exact⟨by rw[show Z8 (Hist.txs ⟨txs,ords,A,c,B,d⟩) ⟨tx,key,nth⟩=b from Hb.out];rfl,uA.trans hu1⟩
def Zdk (txs:List HTx) (l:List Ver):Nat:=l.findIdx fun v=> !(Z8 txs v)
def Zdw (txs:List HTx) (l:List Ver):Int:=if Zdk txs l<l.length then (Zdk txs l:Int) else -1
theorem ZlN {txs:List HTx} {l:List Ver} {k:Nat} (hk:k<l.length) (h:∀(j:Nat) (hj:j<k),Z8 txs (l[j]'(by omega))=true) (h1:Z8 txs l[k]=false):Zdk txs l=k:=by
 unfold Zdk;rw[List.findIdx_eq hk];refine⟨by rw[h1];rfl,fun j hj=>by simp only[h j hj];rfl⟩
theorem ZgK {txs:List HTx} {l:List Ver} (h:∀(j:Nat) (hj:j<l.length),Z8 txs l[j]=true):Zdk txs l=l.length:=by
 unfold Zdk;rw[List.findIdx_eq_length];intro x hx;obtain⟨k,hk,rfl⟩:=List.mem_iff_getElem.1 hx;simp only[h k hk];rfl
theorem Zl0 (txs:List HTx) (l:List Ver):decide (Zdw txs l≥0)= !(l.all (Z8 txs)):=by
 by_cases h:l.all (Z8 txs)=true
 ·have hm:Zdk txs l=l.length:=ZgK fun j hj=>by
   rw[List.all_eq_true]at h;exact h _ (List.getElem_mem hj)
  unfold Zdw;rw[hm,if_neg (by omega),h];decide
 ·have hf:l.all (Z8 txs)=false:=by simpa using h
  have hm:Zdk txs l<l.length:=by
   unfold Zdk;rw[List.findIdx_lt_length];rw[List.all_eq_false]at hf;obtain⟨x,hx,hn⟩:=hf;exact⟨x,hx,by simpa using hn⟩
  unfold Zdw;rw[if_pos hm,hf];simp
set_option maxRecDepth 100000 in
theorem ZoD (F G:Nat→Prop) (w:World) (A:Option Addr) (d:Nat) (l:List Ver) (h:Hist) (g:Nat) (L:Zmo G w A l) (H:h.lies F w) (hg:Zig w g h) (hl:l.length≤4398046511103):
  Calls Tryz.prog 227 #[.slice A l.length d,.func (.func 155) #[] #[.pointer (some ⟨g,0,none⟩)]] w fun e w'=>e= .returned (.int .i64 (Zdw h.txs l))∧Upd No w w':=by
 go_enter Tryz.func227,Tryz.ntmps227
 go_wp2
 go_loopg [8] l.length (fun gk s wr=>∃k:Nat,k+gk=l.length∧s= .int .i64 k∧Hid (∀(j:Nat) (hj:j<l.length),j<k→Z8 h.txs l[j]=true)∧Upd No w wr)
 case atStart=>exact⟨0,by omega,rfl,Qh (fun j _ hj=>by omega),Upd.refl _ _⟩
 case round=>
  obtain⟨k,hgk,rfl,hall,hu⟩:=hrel
  by_cases hlt:k<l.length
  ·have hk':k<(l.map Ver.cells).length:=by simpa using hlt
   obtain⟨ad,hB,_,_,hc⟩:=Recs.at_ (Recs.upd L hu (fun _ _=>id)) hk';rw[List.getElem_map]at hc;obtain⟨x,hx⟩:∃x,l[k]=x:=⟨_,rfl⟩;rw[hx]at hc;have c0:wr.cell? (ad.add (k*3))=some (.int .i64 x.tx):=by simpa using hc 0 _ rfl
   have c1:wr.cell? ⟨(ad.add (k*3)).block,(ad.add (k*3)).off+1,none⟩=some (.int .i64 x.key):=by simpa using hc 1 _ rfl
   have c2:wr.cell? ⟨(ad.add (k*3)).block,(ad.add (k*3)).off+2,none⟩=some (.int .i64 x.nth):=by simpa using hc 2 _ rfl
   subst hB;have X:=Qh hx;have b2:(k:Int)<(l.length:Int):=by omega
   have b1:(0:Int)≤(k:Int):=Qn _;clear hx hc hk';have hn:=nd1 F wr h g x (H.upd hu (fun _ _=>id)) (hg.upd hu id)
   cases he:Z8 h.txs x
   ·have hpos:=Qh (show Zdw h.txs l=(k:Int) by unfold Zdw;rw[ZlN (txs:=h.txs) (l:=l) hlt (fun j hj=>hall.out j (by omega) hj) (by rw[X.out];exact he),if_pos hlt]);rw[he]at hn;have HN:=Qh hn;clear he hn
    go_wp2_with fail
    refine(HN.out).mono ?_;rintro e w1 ⟨rfl,hu1⟩;go_wp2
    go_ret
    exact⟨by rw[hpos.out];rfl,hu.trans hu1⟩
   ·rw[he]at hn;have HN:=Qh hn;have He:=Qh he;clear he hn
    go_wp2_with fail
    refine(HN.out).mono ?_;rintro e w1 ⟨rfl,hu1⟩;go_wp2
    go_roundg (gk-1)
    case measure=>omega
    case rel=>exact⟨k+1,by omega,by go_num,Qh (fun j hj hjk=>by
      by_cases e:j=k
      ·subst e;rw[X.out];exact He.out
      ·exact hall.out j hj (by omega)),hu.trans hu1⟩
  ·obtain rfl:k=l.length:=by omega
   have hpos:=Qh (show Zdw h.txs l= -1 by unfold Zdw;rw[ZgK (txs:=h.txs) (l:=l) fun j hj=>hall.out j hj hj,if_neg (by omega)]);go_wp2
   go_ret
   exact⟨by rw[hpos.out];rfl,hu⟩
set_option maxRecDepth 100000 in
theorem ZoE (F G:Nat→Prop) (w:World) (A:Option Addr) (d:Nat) (l:List Ver) (h:Hist) (g:Nat) (L:Zmo G w A l) (H:h.lies F w) (hg:Zig w g h) (hl:l.length≤4398046511103):
  Calls Tryz.prog 154 #[.slice A l.length d,.func (.func 155) #[] #[.pointer (some ⟨g,0,none⟩)]] w fun e w'=>e= .returned (.bool (!(l.all (Z8 h.txs))))∧Upd No w w':=by
 have hq:=Zl0 h.txs l;have hf:=ZoD F G w A d l h g L H hg hl;obtain⟨b,hb⟩:∃b,l.all (Z8 h.txs)=b:=⟨_,rfl⟩;obtain⟨i,hi⟩:∃i,Zdw h.txs l=i:=⟨_,rfl⟩;rw[hb,hi]at hq;rw[hi]at hf;rw[hb];have HF:=Qh hf;clear hf hb hi
 cases b
 ·have hi0:0≤i:=by simpa using hq
  clear hq
  go_enter Tryz.func154,Tryz.ntmps154
  go_wp2_with fail
  refine(HF.out).mono ?_;rintro e w1 ⟨rfl,hu1⟩;go_wp2
  go_ret
  exact⟨rfl,hu1⟩
 ·have hi0:decide (0≤i)=false:=by simpa using hq
  clear hq
  go_enter Tryz.func154,Tryz.ntmps154
  go_wp2_with fail
  refine(HF.out).mono ?_;rintro e w1 ⟨rfl,hu1⟩;go_wp2
  go_ret
  exact⟨rfl,hu1⟩
theorem ZmM {w w':World} {l:List Ver} {A:Option Addr} {c:Nat} (h:w'.ownsRow w.heap.size 36 3 (.slice A l.length c) l.length (l.map Ver.cells).flatten):Zmo (fun i=>w.heap.size≤i) w' A l:=by
 have h2:=Recs.of_own (n:=l.length) (c:=c) Zlq (by omega) h;exact Recs.weak h2 fun i _ hi=>(h.lt i hi).1
set_option maxRecDepth 100000 in
theorem Znb (F:Nat→Prop) (w:World) (h:Hist) (i0:Int) (dn:Bool) (A:Option Addr) (c:Nat) (l:List HOp) (H:h.lies F w) (hA:HOps F w A l) (hl:Zg l.length):
  Calls Tryz.prog 64 #[h.val,.agg #[.int .i64 i0,.bool dn,.slice A l.length c]] w fun e w'=>e= .returned (.bool (ZaT h.txs i0 l))∧Upd No w w':=by
 have hle:=ZgQ i0 l l.length;obtain⟨txs,ords,A',c',B,d⟩:=h;have uu:=((Upd.refl No w).alloc (.cells #[.slice A' txs.length c',.slice B ords.length d] 29)).alloc (.cells #[.int .i64 i0,.bool dn,.slice A l.length c] 81);have hb:Zig ((w.alloc (.cells #[.slice A' txs.length c',.slice B ords.length d] 29)).alloc (.cells #[.int .i64 i0,.bool dn,.slice A l.length c] 81)) w.heap.size ⟨txs,ords,A',c',B,d⟩:=(Blk.new w _ _).alloc _;have HB:=Qh hb;have hA':=hA.upd uu (fun _ _=>id);obtain⟨ns,hns⟩:∃ns,ZdV i0 l=ns:=⟨_,rfl⟩;have htn:=Znz F _ i0 dn A c l hA' hl;rw[hns]at htn;have hns':(Z0 i0 l l.length)=ns:=hns;rw[hns']at hle;unfold Zg at hl;have HT:=Qh htn;have HV:=Qh (show ZaT txs i0 l=ns.all (Z8 txs) by unfold ZaT;rw[hns]);clear hb hA' htn hns hns';unfold Hist.val
 go_enter Tryz.func64,Tryz.ntmps64
 go_wp2_with fail
 refine(HT.out).mono ?_;rintro e w1 ⟨A1,c1,rfl,ho1,hu1⟩;have hv1:=ZmM ho1;have H1:=(H.upd (uu.trans hu1) (fun _ _=>id));have hc:=ZoE F _ w1 A1 c1 ns ⟨txs,ords,A',c',B,d⟩ w.heap.size hv1 H1 (HB.out.upd hu1 id) (by omega);obtain⟨b,hb⟩:∃b,ns.all (Z8 txs)=b:=⟨_,rfl⟩;rw[show ns.all (Z8 (Hist.txs ⟨txs,ords,A',c',B,d⟩))=b from hb]at hc;have HC:=Qh hc;have Hb:=Qh hb;have HU:=Qh (uu.trans hu1);clear hc hb hv1 H1 ho1 hu1 uu
 go_wp2_with fail
 refine(HC.out).mono ?_;rintro e w2 ⟨rfl,hu2⟩;go_wp2
 go_ret
 exact⟨by rw[show ZaT (Hist.txs ⟨txs,ords,A',c',B,d⟩) i0 l=b from HV.out.trans Hb.out];rfl,HU.out.trans hu2⟩
end
end Go.Proofs.YtblplapkdmhikaaGreat
