/- What a transaction needs of others. -/
import Derived.Test.YtblplapkdmhikaaDxaw
import Derived.Test.YtblplapkdmhikaaDxbf
namespace Go.Proofs.Ytblplapkdmhikaa
set_option linter.unusedVariables false
set_option linter.unusedSimpArgs false
section
open Go.RowKit
theorem Zde:SlT Try.prog 64 28 3 24:=SlT.mk_ Try.underlying64 (z:= .agg #[.int .i64 0,.int .i64 0,.int .i64 0]) (by kernel_rfl) rfl (by omega)
theorem Zb5 {l:List Ver}:∀r∈l.map Ver.cells,r.length=3:=fun r hr=>by
 obtain⟨e,_,rfl⟩:=List.mem_map.1 hr;rfl
def Zbo (w:World) (l:List Ver) (e:Ending) (w':World):Prop:=∃A c,e= .returned (.slice A l.length c)∧w'.ownsRow w.heap.size 28 3 (.slice A l.length c) l.length (l.map Ver.cells).flatten∧Upd No w w'
def MetV (m:List (Ver×Value)) (xs:List Ver) (k:Nat):Prop:=∀v:Ver,∃n:Nat,(Zm m v).getD (.int .i64 0)= .int .i64 n∧n≤k∧(n=0↔v∉xs)
theorem MetV.nil:MetV [] [] 0:=fun v=>⟨0,by rw[Zag];rfl,Nat.le_refl _,by simp⟩
theorem MetV.mono {m:List (Ver×Value)} {xs:List Ver} {k:Nat} (h:MetV m xs k):MetV m xs (k+1):=fun v=>by
 obtain⟨n,h1,h2,h3⟩:=h v;exact⟨n,h1,by omega,h3⟩
theorem MetV.put {m:List (Ver×Value)} {xs:List Ver} {k n:Nat} {v:Ver} (h:MetV m xs k) (hn:(Zm m v).getD (.int .i64 0)= .int .i64 n):MetV (Zu m v (.int .i64 ((n:Int)+1))) (if n=0 then xs++[v] else xs) (k+1):=fun u=>by
 obtain⟨n',h1,h2,h3⟩:=h v;rw[h1]at hn;obtain rfl:n'=n:=by injection hn with _ hn;omega
 by_cases e:u=v
 ·subst e;refine⟨n'+1,by rw[Zr];rfl,by omega,?_⟩
  constructor
  ·intro e;omega
  ·intro hn2
   split at hn2
   ·simp at hn2
   ·rename_i h0
    exact absurd (h3.2 hn2) h0
 ·rw[Zo _ _ e];obtain⟨q,g1,g2,g3⟩:=h u;refine⟨q,g1,by omega,?_⟩;rw[g3]
  split
  ·simp[e]
  ·rfl
theorem ZbO {id:Int} {l:List HOp} {k:Nat} {x:HOp} (hk:k<l.length) (hx:l[k]=x) (h:Zao id x=false):ZB id l (k+1)=ZB id l k:=by
 show(match l[k]? with|some o=>_|none=>_)=_
 rw[Qg hk,hx];simp[h]
theorem Zee {id:Int} {l:List HOp} {k:Nat} {x:HOp} (hk:k<l.length) (hx:l[k]=x) (h:Zao id x=true):ZB id l (k+1)=if Zad x∉ZB id l k then ZB id l k++[Zad x] else ZB id l k:=by
 show(match l[k]? with|some o=>_|none=>_)=_
 rw[Qg hk,hx];simp[h]
theorem Zaj (id:Int) (l:List HOp):∀k,(ZB id l k).length≤k
 |0=>Nat.le_refl _
 |k+1=>by
  have ih:=Zaj id l k
  show(match l[k]? with|some o=>_|none=>_:List Ver).length≤_
  split
  ·split
   ·simp;omega
   ·omega
  ·omega
set_option maxRecDepth 100000 in
set_option maxHeartbeats 4000000 in
theorem ZeA (F:Nat→Prop) (w:World) (i0:Int) (dn:Bool) (A:Option Addr) (c:Nat) (l:List HOp) (h:HOps F w A l) (hl:Zd l.length):
  Calls Try.prog 61 #[.agg #[.int .i64 i0,.bool dn,.slice A l.length c]] w (Zbo w (Z9 i0 l)):=by
 unfold Zd at hl;have uT:=(Upd.refl No w).alloc (.cells #[.int .i64 i0,.bool dn,.slice A l.length c] 35);have bT:=Qh (Blk.new w 35 [.int .i64 i0,.bool dn,.slice A l.length c]);have hmm:= @run_makeMap Try.prog;have hn0:=MapE.new (w.alloc (.cells #[.int .i64 i0,.bool dn,.slice A l.length c] 35)) ZL;simp only[World.size_alloc]at hn0;have HN:=Qh hn0;clear hn0
 go_enter Try.func61,Try.ntmps61
 go_wp2
 go_loopg [3,12] l.length (fun gk s i wr=>∃(k:Nat) (A3:Option Addr) (c3:Nat) (xs:List Ver) (m:List (Ver×Value)),k+gk=l.length∧i= .int .i64 k∧s= .slice A3 xs.length c3∧Hid (xs=ZB i0 l k)∧xs.length≤k∧
  Hid (MapE wr (w.heap.size+1) ZL m)∧Hid (MetV m xs k)∧wr.ownsRow (w.heap.size+2) 28 3 (.slice A3 xs.length c3) xs.length (xs.map Ver.cells).flatten∧
  Upd No (w.alloc (.cells #[.int .i64 i0,.bool dn,.slice A l.length c] 35)) wr)
 case atStart=>exact⟨0,none,0,[],[],by omega,rfl,rfl,Qh rfl,by simp,Qh HN.out,Qh MetV.nil,World.ownsRow_nil _ _ _ _,(Upd.refl No _).alloc _⟩
 case round=>
  obtain⟨k,A3,c3,xs,m,hgk,rfl,rfl,hxs,hxl,hm,hW,hown,hu⟩:=hrel;clear hmm
  by_cases hlt:k<l.length
  ·obtain⟨ad,hAd,q0,q1,q2,q3⟩:=(h.upd (uT.trans hu) (fun _ _=>id)).at_ hlt;obtain⟨x,hx⟩:∃x,l[k]=x:=⟨_,rfl⟩;rw[hx]at q0 q1 q2 q3;subst hAd;have X:=Qh hx;have b1:(0:Int)≤(k:Int):=Qn _;have b2:(k:Int)<(l.length:Int):=by omega
   have uA:=(Upd.refl No wr).alloc (.cells #[.bool x.read,.int .i64 x.key,.int .i64 x.tx,.int .i64 x.nth] 75);have bo:=Qh (Blk.new wr 75 [.bool x.read,.int .i64 x.key,.int .i64 x.tx,.int .i64 x.nth]);clear hx;have hl1:=hm.out.lt;have hm1:=hm.out.upd uA id;have hown1:=Zj hown uA (fun _ _=>id);have bT1:=Qh ((bT.out.upd hu id).upd uA id);obtain⟨v,hv⟩:∃v,Zad x=v:=⟨_,rfl⟩;have hof:=oof (wr.alloc (.cells #[.bool x.read,.int .i64 x.key,.int .i64 x.tx,.int .i64 x.nth] 75)) x;rw[hv]at hof;have Hof:=Qh (hof.mono (R':=fun e w'=>e= .returned (.agg #[.int .i64 v.tx,.int .i64 v.key,.int .i64 v.nth])∧Upd No (wr.alloc (.cells #[.bool x.read,.int .i64 x.key,.int .i64 x.tx,.int .i64 x.nth] 75)) w') fun e w' h=>h);have V:=Qh hv;clear hof hv
   go_wp2_with fail
   refine(Hof.out).mono ?_;rintro e w1 ⟨rfl,hu1⟩;have uV:=hu1.alloc (.cells #[.int .i64 v.tx,.int .i64 v.key,.int .i64 v.nth] 28);have bv:=Blk.new w1 28 [.int .i64 v.tx,.int .i64 v.key,.int .i64 v.nth];have bo1:=bo.out.upd uV id;have bT2:=bT1.out.upd uV id;have hm2:=hm1.upd uV id;have hown2:=Zj hown1 uV (fun _ _=>id);have k0:=bo1.cell 0;have t0:=bT2.cell 0;have v0:=bv.cell 0;have v1:=bv.cell 1;have v2:=bv.cell 2;simp only[Qz,Qs]at k0 t0 v0 v1 v2;have HU:=Qh ((hu.trans uA).trans uV);have hz1:=uV.size;simp only[World.size_alloc]at hz1;have hz2:=hu1.size;simp only[World.size_alloc]at hz2;have hz3:=hu.size;simp only[World.size_alloc]at hz3;clear uA uV hm1 hown1 bo1 bT2 bv hu1
   cases hr:x.read
   ·rw[hr]at k0;have HS:=Qh (ZbO (id:=i0) hlt X.out (by unfold Zao;rw[hr];rfl));clear hr;go_wp2
    go_roundg (gk-1)
    case measure=>omega
    case rel=>exact⟨k+1,A3,c3,xs,m,by omega,by go_num,rfl,Qh (by rw[HS.out,hxs.out]),by omega,Qh hm2,Qh hW.out.mono,hown2,HU.out⟩
   ·rw[hr]at k0
    by_cases h0:v.tx=0
    ·have HS:=Qh (ZbO (id:=i0) hlt X.out (by unfold Zao;rw[V.out,h0];simp));have h0b:(v.tx==0)=true:=by simpa using h0
     clear hr h0;go_wp2
     go_roundg (gk-1)
     case measure=>omega
     case rel=>exact⟨k+1,A3,c3,xs,m,by omega,by go_num,rfl,Qh (by rw[HS.out,hxs.out]),by omega,Qh hm2,Qh hW.out.mono,hown2,HU.out⟩
    ·have h0b:(v.tx==0)=false:=by simpa using h0
     clear h0
     by_cases h1:v.tx=i0
     ·have h1b:(v.tx==i0)=true:=by simpa using h1
      have HS:=Qh (ZbO (id:=i0) hlt X.out (by unfold Zao;rw[V.out,h1b];simp));clear hr h1;go_wp2
      go_roundg (gk-1)
      case measure=>omega
      case rel=>exact⟨k+1,A3,c3,xs,m,by omega,by go_num,rfl,Qh (by rw[HS.out,hxs.out]),by omega,Qh hm2,Qh hW.out.mono,hown2,HU.out⟩
     ·have h1b:(v.tx==i0)=false:=by simpa using h1
      have HS:=Qh (show ZB i0 l (k+1)=if v∉xs then xs++[v] else xs by rw[hxs.out,←V.out];exact Zee (id:=i0) hlt X.out (by unfold Zao;rw[V.out,h1b,hr,h0b];rfl));clear hr h1;obtain⟨N,hN,hNk,hN0⟩:=hW.out v;have HWp:=Qh (hW.out.put hN);have HN0:=Qh hN0;clear hN0;have HZW:=Qh (show(w1.alloc (.cells #[.int .i64 v.tx,.int .i64 v.key,.int .i64 v.nth] 28)).heap.size=w1.heap.size+1 by simp);go_wp2
      generalize hW0:w1.alloc (.cells #[.int .i64 v.tx,.int .i64 v.key,.int .i64 v.nth] 28)=W0 at*
      clear hW0;have hzw:=HZW.out;have HUW:=HU;have hwr:IntKind.i64.wrap ((N:Int)+1)=(N:Int)+1:=IntWalk.i64_in _ (by omega);have hwn:w1.heap.size≠w.heap.size+1:=by omega
      have hun:∀i,One (w.heap.size+1) i→w.heap.size+1≤i:=fun i e=>by cases e;exact Nat.le_refl _
      have hmd:MapE W0.drew (w.heap.size+1) ZL m:=hm2;obtain⟨st,w2,e2,hm3,hu2,hst⟩:=ZbI Zaa Try.underlying142 ZaG hmd v;have e1:=Zw Zaa Try.underlying142 ZaG hmd.is v;have e3:=Zw Zaa Try.underlying142 ZaG hm3.is v;rw[Zr]at e3;rw[hN]at e1 e2 e3;obtain⟨w3,e4,hm4,hu3⟩:=hst (.int .i64 ((N:Int)+1));have e5:=Zw Zaa Try.underlying142 ZaG hm4.is v;rw[Zr]at e5;change (Instr.lookup 142 (.map (some (w.heap.size+1))) (.agg #[.int .i64 v.tx,.int .i64 v.key,.int .i64 v.nth]) false).run Try.prog W0.drew= .ok (.int .i64 N) W0.drew at e1;change (Instr.lookup 142 (.map (some (w.heap.size+1))) (.agg #[.int .i64 v.tx,.int .i64 v.key,.int .i64 v.nth]) false).run Try.prog w2= .ok (.int .i64 N) w2 at e3;change (Instr.mapEntry 142 (.map (some (w.heap.size+1))) (.agg #[.int .i64 v.tx,.int .i64 v.key,.int .i64 v.nth])).run Try.prog W0.drew= .ok (.tuple #[.int .i64 N,.int .i64 st]) w2 at e2;change (Instr.entryStore 142 (.map (some (w.heap.size+1))) (.int .i64 st) (.int .i64 ((N:Int)+1))).run Try.prog w2= .ok () w3 at e4;change (Instr.lookup 142 (.map (some (w.heap.size+1))) (.agg #[.int .i64 v.tx,.int .i64 v.key,.int .i64 v.nth]) false).run Try.prog w3= .ok (.int .i64 ((N:Int)+1)) w3 at e5;have a0:=Upd.keep hu2 (p:=⟨w1.heap.size,0,none⟩) v0 hwn;have a1:=Upd.keep hu2 (p:=⟨w1.heap.size,1,none⟩) v1 hwn;have a2:=Upd.keep hu2 (p:=⟨w1.heap.size,2,none⟩) v2 hwn;have c0:=Upd.keep hu3 (p:=⟨w1.heap.size,0,none⟩) v0 hwn;have c1:=Upd.keep hu3 (p:=⟨w1.heap.size,1,none⟩) v1 hwn;have c2:=Upd.keep hu3 (p:=⟨w1.heap.size,2,none⟩) v2 hwn
      have hown3:=Zj hown2 hu3.of_drew (fun i hi e=>by have:=(hown2.lt i hi).1;cases e;omega);have HU3:=Qh (HUW.out.then_ hu3.of_drew fun i e=> .inr (by simp only[World.size_alloc];exact hun i e));have hz4:W0.heap.size≤w3.heap.size:=hu3.size;have Hm4:=Qh hm4;clear hN hst hmd hm2 hm3 hm4 hown2 hu2 hu3
      go_region_held3 (fun w'=>w'.cell? ⟨w1.heap.size,0,none⟩=some (.int .i64 v.tx)∧w'.cell? ⟨w1.heap.size,1,none⟩=some (.int .i64 v.key)∧w'.cell? ⟨w1.heap.size,2,none⟩=some (.int .i64 v.nth))
       (first|exact⟨v0,v1,v2⟩|exact⟨a0,a1,a2⟩|exact⟨c0,c1,c2⟩) (fail)
      all_goals
       clear e1 e2 e3 e4 a0 a1 a2 v0 v1 v2 k0 t0 hwr;have Hc:=Qh c0
       by_cases hN1:N=0
       ·have HS2:=Qh (show ZB i0 l (k+1)=xs++[v] by rw[HS.out,if_pos (HN0.out.1 hN1)]);have HW2:=HWp.out;rw[if_pos hN1]at HW2;have HW3:=Qh HW2;have e6:(Instr.lookup 142 (.map (some (w.heap.size+1))) (.agg #[.int .i64 v.tx,.int .i64 v.key,.int .i64 v.nth]) false).run Try.prog w3= .ok (.int .i64 1) w3:=by rw[e5,hN1];rfl
        clear hN1 e5 HW2
        go_wp2_with (at_builtin;refine Zc6 rfl rfl Zde (v:= .slice A3 xs.length c3) (cells:=[.int .i64 v.tx,.int .i64 v.key,.int .i64 v.nth]) (by rfl) rfl hown3 rfl rfl (by omega) (by omega) (by omega) ?_;intro g' c' w4 hown4 hu4 hg4 hlt4)
        go_roundg (gk-1)
        case measure=>omega
        case rel=>
         refine⟨k+1,some ⟨g',0,none⟩,c',xs++[v],_,by omega,by go_num,by simp,Qh (by rw[HS2.out]),by simp;omega,Qh (Hm4.out.upd hu4 (fun e=>by have:=(hown3.lt _ e).1;omega)),HW3,?_,HU3.out.then_ hu4 fun i e=> .inr (by have:=(hown3.lt i e).1;simp only[World.size_alloc];omega)⟩
         simpa[Ver.cells]using hown4
       ·have HS2:=Qh (show ZB i0 l (k+1)=xs by rw[HS.out,if_neg (fun e=>hN1 (HN0.out.2 e))]);have HW2:=HWp.out;rw[if_neg hN1]at HW2;have HW3:=Qh HW2;have hb1:((N:Int)+1==1)=false:=by rw[beq_eq_false_iff_ne];omega
        clear hN1 HW2;go_wp2
        go_roundg (gk-1)
        case measure=>omega
        case rel=>exact⟨k+1,A3,c3,xs,_,by omega,by go_num,rfl,Qh (by rw[HS2.out]),by omega,Hm4,HW3,hown3,HU3.out⟩
  ·obtain rfl:k=l.length:=by omega
   have Hx:=Qh (show xs=Z9 i0 l by rw[hxs.out];rfl);clear hxs;go_wp2
   go_ret
   exact⟨A3,c3,by rw[Hx.out];rfl,by rw[←Hx.out];exact Z8 hown (by omega),uT.trans hu⟩
end
end Go.Proofs.Ytblplapkdmhikaa
