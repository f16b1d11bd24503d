/- The document: how often there is a reason for an edge. -/
import Derived.Test.YtdbjokfejmgepaaRabg
import Derived.Test.YtdbjokfejmgepaaRabh
namespace Go.Proofs.Ytdbjokfejmgepaa
set_option linter.unusedVariables false
set_option linter.unusedSimpArgs false
section
open Go.RowKit
def uid (txs:List HTx) (i:Int):Int:=match Zi txs i with|some u=>u.id|none=>0
theorem Zjm (F:Nat→Prop) (w:World) (txs:List HTx) (ords:List HOrd) (A:Option Addr) (c:Nat) (B:Option Addr) (d:Nat) (i:Int) (H:Hist.lies F w ⟨txs,ords,A,c,B,d⟩):
  Calls Try.prog 75 #[.agg #[.slice A txs.length c,.slice B ords.length d],.int .i64 i] w fun e w'=>
  ∃(A':Option Addr) (c':Nat),e= .returned (.tuple #[.agg #[.int .i64 (uid txs i),.bool (Zce txs i),.slice A' (Zc0 txs i).length c'],.bool (Zi txs i).isSome])∧Zy (Zc0 txs i).length∧HOps F w' A' (Zc0 txs i)∧Upd No w w':=by
 unfold Zce Zc0 uid
 cases hf:Zi txs i with
 |none=>
  refine(ZbM H hf).mono ?_;rintro e w' ⟨rfl,hu⟩;exact⟨none,0,rfl,by unfold Zy;simp,fun h=>absurd rfl h,hu⟩
 |some t=>
  refine(Zan H hf).mono ?_;rintro e w' ⟨A',c',rfl,h1,h2,h3⟩;exact⟨A',c',rfl,(H.tx t (ZdG hf)).2.2.1,h2,h3⟩
theorem Zju {F:Nat→Prop} {w:World} {A:Option Addr} {c:Nat} {l:List Int} {tx:Int} {o:Option Int} (h:Ints F w A l) (hl:l.length≤17592186044415) (ho:ZQ l tx=o):
  Calls Try.prog 86 #[.slice A l.length c,.int .i64 tx] w fun e w'=>e= .returned (.tuple #[.int .i64 (o.getD 0),.bool o.isSome])∧Upd No w w':=by
 subst ho;refine(Znm F w A c l tx h hl).mono ?_;intro e w' hq;unfold Zj0 at hq
 cases hn:ZQ l tx with
 |none=>rw[hn]at hq;exact hq
 |some x=>rw[hn]at hq;exact hq
theorem Zhn {l:List Int} {x y:Int} {o:Option Int} (ho:ZQ l x=o):(ZQ l x==some y)=(o.isSome&&o.getD 0==y):=by
 rw[ho]
 cases o with
 |none=>rfl
 |some z=>
  rw[Bool.eq_iff_iff];simp
theorem Zdj {h:Hist} {e:Edge} (hn:((Zi h.txs e.f).isSome&&(Zi h.txs e.t).isSome&&Zce h.txs e.f&&Zce h.txs e.t&& !(e.f==e.t))=false):Zv h e=0:=by
 unfold Zv Zs;unfold Zce at hn
 cases h1:Zi h.txs e.f with
 |none=>rfl
 |some a=>
  cases h2:Zi h.txs e.t with
  |none=>cases ha:a.done<;>simp[ha]
  |some b=>
   rw[h1,h2]at hn;simp only[Option.isSome_some,Bool.true_and]at hn ⊢
   cases ha:a.done
   ·simp
   ·cases hb:b.done
    ·simp
    ·rw[ha,hb]at hn;simp only[Bool.true_and,Bool.not_eq_false',beq_iff_eq]at hn;simp[hn]
theorem ZkM {h:Hist} {e:Edge} (h1:(Zi h.txs e.f).isSome=true) (h2:(Zi h.txs e.t).isSome=true) (h3:Zce h.txs e.f=true) (h4:Zce h.txs e.t=true) (h5:¬e.f=e.t):
  Zv h e=if e.k=1 then (if ZbQ h.ords e.key e.f e.t then 1 else 0) else if e.k=2 then (Zc0 h.txs e.t).countP (p2 e.f e.key (Ze (Zc0 h.txs e.f) e.key))
   else if e.k=3 then (Zc0 h.txs e.f).countP (p3 h (uid h.txs e.f) e.key e.t) else 0:=by
 obtain⟨a,ha⟩:=Option.isSome_iff_exists.1 h1;obtain⟨b,hb⟩:=Option.isSome_iff_exists.1 h2;unfold Zce at h3 h4;rw[ha]at h3;rw[hb]at h4;simp only at h3 h4;unfold Zv Zs Zc0 uid;rw[ha,hb];simp only[h3,h4,if_true,if_neg h5]
theorem Zeg {α:Type} (p:α→Bool) (x:α) (l:List α):(x::l).countP p=(if p x then 1 else 0)+l.countP p:=by
 rw[List.countP_cons];omega
set_option maxRecDepth 100000 in
set_option maxHeartbeats 4000000 in
theorem Zkf (F:Nat→Prop) (w:World) (txs:List HTx) (ords:List HOrd) (A:Option Addr) (c:Nat) (B:Option Addr) (d:Nat) (e:Edge) (H:Hist.lies F w ⟨txs,ords,A,c,B,d⟩):
  Calls Try.prog 62 #[.agg #[.slice A txs.length c,.slice B ords.length d],.agg e.cells.toArray] w fun r w'=>r= .returned (.int .i64 ((Zv ⟨txs,ords,A,c,B,d⟩ e:Nat):Int))∧Upd No w w':=by
 obtain⟨ef,et,ek,ey⟩:=e;unfold Edge.cells;have u0:=((Upd.refl No w).alloc (.cells #[.slice A txs.length c,.slice B ords.length d] 39)).alloc (.cells #[.int .i64 ef,.int .i64 et,.int .i64 ek,.int .i64 ey] 89);have bH:=Qh ((Blk.new w 39 [.slice A txs.length c,.slice B ords.length d]).alloc (.cells #[.int .i64 ef,.int .i64 et,.int .i64 ek,.int .i64 ey] 89));have b1:=Blk.new (w.alloc (.cells #[.slice A txs.length c,.slice B ords.length d] 39)) 89 [.int .i64 ef,.int .i64 et,.int .i64 ek,.int .i64 ey];simp only[World.size_alloc]at b1;have bX:=Qh b1;have U0:=Qh u0;clear b1 u0;obtain⟨i1,hi1⟩:∃b,(Zi txs ef).isSome=b:=⟨_,rfl⟩;obtain⟨i2,hi2⟩:∃b,(Zi txs et).isSome=b:=⟨_,rfl⟩;obtain⟨d1,hd1⟩:∃b,Zce txs ef=b:=⟨_,rfl⟩;obtain⟨d2,hd2⟩:∃b,Zce txs et=b:=⟨_,rfl⟩;obtain⟨x1,hx1⟩:∃b,uid txs ef=b:=⟨_,rfl⟩;obtain⟨x2,hx2⟩:∃b,uid txs et=b:=⟨_,rfl⟩;obtain⟨l1,hl1⟩:∃b,Zc0 txs ef=b:=⟨_,rfl⟩;obtain⟨l2,hl2⟩:∃b,Zc0 txs et=b:=⟨_,rfl⟩;have hF1:=fun W (hW:Upd No w W)=>Zjm F W txs ords A c B d ef (H.upd hW (fun _ _=>id))
 have hF2:=fun W (hW:Upd No w W)=>Zjm F W txs ords A c B d et (H.upd hW (fun _ _=>id))
 rw[hi1,hd1,hx1,hl1]at hF1;rw[hi2,hd2,hx2,hl2]at hF2;have HF1:=Qh (hF1 _ U0.out);have HF2:=Qh hF2;have I1:=Qh hi1;have I2:=Qh hi2;have D1:=Qh hd1;have D2:=Qh hd2;have X1:=Qh hx1;have L1:=Qh hl1;have L2:=Qh hl2;obtain⟨ft,hft⟩:∃b,(ef==et)=b:=⟨_,rfl⟩;have HFT:=Qh hft;clear hF1 hF2 hi1 hi2 hd1 hd2 hx1 hx2 hl1 hl2
 go_enter Try.func62,Try.ntmps62
 go_wp2_with fail
 refine(HF1.out).mono ?_;rintro e w1 ⟨A1,c1,rfl,hfew1,hh1,hu1⟩;have U1:=Qh ((U0.out.trans hu1).alloc (.cells #[.int .i64 x1,.bool d1,.slice A1 l1.length c1] 35));have bT1:=Qh (Blk.new w1 35 [.int .i64 x1,.bool d1,.slice A1 l1.length c1]);have uq1:=hu1.alloc (.cells #[.int .i64 x1,.bool d1,.slice A1 l1.length c1] 35);have bH1:=Qh (bH.out.upd uq1 id);have bX1:=Qh (bX.out.upd uq1 id);have hh1a:=Qh (HOps.upd hh1 ((Upd.refl No w1).alloc (.cells #[.int .i64 x1,.bool d1,.slice A1 l1.length c1] 35)) (fun _ _=>id));have y0:=bX1.out.cell 0;have y1:=bX1.out.cell 1;have r0:=bH1.out.cell 0;have r1:=bH1.out.cell 1;simp only[Qz,Qs]at y0 y1 r0 r1;clear hh1 hu1 uq1
 go_wp2_with fail
 refine(HF2.out _ U1.out).mono ?_;rintro e w2 ⟨A2,c2,rfl,hfew2,hh2,hu2⟩;clear y0 y1 r0 r1;have uq2:=hu2.alloc (.cells #[.int .i64 x2,.bool d2,.slice A2 l2.length c2] 35);have U4:=Qh (U1.out.trans uq2);have bT2:=Qh (Blk.new w2 35 [.int .i64 x2,.bool d2,.slice A2 l2.length c2]);have bT14:=Qh (bT1.out.upd uq2 id);have bH4:=Qh (bH1.out.upd uq2 id);have bX4:=Qh (bX1.out.upd uq2 id);have hh14:=Qh (HOps.upd hh1a.out uq2 (fun _ _=>id));have hh24:=Qh (HOps.upd hh2 ((Upd.refl No w2).alloc (.cells #[.int .i64 x2,.bool d2,.slice A2 l2.length c2] 35)) (fun _ _=>id));have e0:∀W,Upd No (w2.alloc (.cells #[.int .i64 x2,.bool d2,.slice A2 l2.length c2] 35)) W→W.cell? ⟨w.heap.size+1,0,none⟩=some (.int .i64 ef):=fun W hW=>(bX4.out.upd hW id).cell 0
 have e1:∀W,Upd No (w2.alloc (.cells #[.int .i64 x2,.bool d2,.slice A2 l2.length c2] 35)) W→W.cell? ⟨w.heap.size+1,1,none⟩=some (.int .i64 et):=fun W hW=>(bX4.out.upd hW id).cell 1
 have e2:∀W,Upd No (w2.alloc (.cells #[.int .i64 x2,.bool d2,.slice A2 l2.length c2] 35)) W→W.cell? ⟨w.heap.size+1,2,none⟩=some (.int .i64 ek):=fun W hW=>(bX4.out.upd hW id).cell 2
 have e3:∀W,Upd No (w2.alloc (.cells #[.int .i64 x2,.bool d2,.slice A2 l2.length c2] 35)) W→W.cell? ⟨w.heap.size+1,3,none⟩=some (.int .i64 ey):=fun W hW=>(bX4.out.upd hW id).cell 3
 have g0:∀W,Upd No (w2.alloc (.cells #[.int .i64 x2,.bool d2,.slice A2 l2.length c2] 35)) W→W.cell? ⟨w.heap.size,0,none⟩=some (.slice A txs.length c):=fun W hW=>(bH4.out.upd hW id).cell 0
 have g1:∀W,Upd No (w2.alloc (.cells #[.int .i64 x2,.bool d2,.slice A2 l2.length c2] 35)) W→W.cell? ⟨w.heap.size,1,none⟩=some (.slice B ords.length d):=fun W hW=>(bH4.out.upd hW id).cell 1
 have a0:∀W,Upd No (w2.alloc (.cells #[.int .i64 x2,.bool d2,.slice A2 l2.length c2] 35)) W→W.cell? ⟨w1.heap.size,0,none⟩=some (.int .i64 x1):=fun W hW=>(bT14.out.upd hW id).cell 0
 have a1:∀W,Upd No (w2.alloc (.cells #[.int .i64 x2,.bool d2,.slice A2 l2.length c2] 35)) W→W.cell? ⟨w1.heap.size,1,none⟩=some (.bool d1):=fun W hW=>(bT14.out.upd hW id).cell 1
 have a2:∀W,Upd No (w2.alloc (.cells #[.int .i64 x2,.bool d2,.slice A2 l2.length c2] 35)) W→W.cell? ⟨w1.heap.size,2,none⟩=some (.slice A1 l1.length c1):=fun W hW=>(bT14.out.upd hW id).cell 2
 have b0:∀W,Upd No (w2.alloc (.cells #[.int .i64 x2,.bool d2,.slice A2 l2.length c2] 35)) W→W.cell? ⟨w2.heap.size,1,none⟩=some (.bool d2):=fun W hW=>(bT2.out.upd hW id).cell 1
 have b2:∀W,Upd No (w2.alloc (.cells #[.int .i64 x2,.bool d2,.slice A2 l2.length c2] 35)) W→W.cell? ⟨w2.heap.size,2,none⟩=some (.slice A2 l2.length c2):=fun W hW=>(bT2.out.upd hW id).cell 2
 have hr4:Upd No (w2.alloc (.cells #[.int .i64 x2,.bool d2,.slice A2 l2.length c2] 35)) (w2.alloc (.cells #[.int .i64 x2,.bool d2,.slice A2 l2.length c2] 35)):=Upd.refl _ _;clear hh2 hu2 uq2
 cases i1
 ·have HV:=Qh (show Zv ⟨txs,ords,A,c,B,d⟩ ⟨ef,et,ek,ey⟩=0 from Zdj (by simp only[I1.out,I2.out,D1.out,D2.out,HFT.out];rfl));go_wp2
  go_ret
  exact⟨by rw[HV.out];rfl,U4.out⟩
 ·cases i2
  ·have HV:=Qh (show Zv ⟨txs,ords,A,c,B,d⟩ ⟨ef,et,ek,ey⟩=0 from Zdj (by simp only[I1.out,I2.out,D1.out,D2.out,HFT.out];rfl));go_wp2
   go_ret
   exact⟨by rw[HV.out];rfl,U4.out⟩
  ·cases d1
   ·have HV:=Qh (show Zv ⟨txs,ords,A,c,B,d⟩ ⟨ef,et,ek,ey⟩=0 from Zdj (by simp only[I1.out,I2.out,D1.out,D2.out,HFT.out];rfl));go_wp2
    go_ret
    exact⟨by rw[HV.out];rfl,U4.out⟩
   ·cases d2
    ·have HV:=Qh (show Zv ⟨txs,ords,A,c,B,d⟩ ⟨ef,et,ek,ey⟩=0 from Zdj (by simp only[I1.out,I2.out,D1.out,D2.out,HFT.out];rfl));go_wp2
     go_ret
     exact⟨by rw[HV.out];rfl,U4.out⟩
    ·cases ft
     ·have hv:=ZkM (h:=⟨txs,ords,A,c,B,d⟩) (e:=⟨ef,et,ek,ey⟩) I1.out I2.out D1.out D2.out (by simpa using HFT.out);simp only[L1.out,L2.out,X1.out]at hv;have HO:=Qh fun W (hW:Upd No (w2.alloc (.cells #[.int .i64 x2,.bool true,.slice A2 l2.length c2] 35)) W)=>Zmo F W txs ords A c B d ey (H.upd (U4.out.trans hW) (fun _ _=>id))
      obtain⟨ol,hol⟩:∃ol,Zdv ey ords=ol:=⟨_,rfl⟩;rw[hol]at HO;have hnb:∀x y,ZbQ ords ey x y=(ZQ ol x==some y):=fun x y=>by unfold ZbQ;rw[←Zim,hol]
      have HNB:=Qh hnb;have HV:=Qh hv;clear hv hol hnb
      go_wp2_with fail
      refine(HO.out _ hr4).mono ?_;rintro e w5 ⟨A9,c9,rfl,hI9,hl9,hu5⟩;obtain⟨ov,hov⟩:∃ov,(ZQ ol ef).getD 0=ov:=⟨_,rfl⟩;obtain⟨os,hos⟩:∃os,(ZQ ol ef).isSome=os:=⟨_,rfl⟩;have hnx:=Zju (tx:=ef) (c:=c9) hI9 hl9 rfl;rw[hov,hos]at hnx;have HNX:=Qh hnx;have HI9:=Qh hI9;have HN1:=Qh (show ZbQ ords ey ef et=(os&&ov==et) by rw[HNB.out,Zhn rfl,hov,hos]);clear hnx hov hos hI9
      go_wp2_with fail
      refine(HNX.out).mono ?_;rintro e w6 ⟨rfl,hu6⟩;have hr6:Upd No (w2.alloc (.cells #[.int .i64 x2,.bool true,.slice A2 l2.length c2] 35)) w6:=hu5.trans hu6;have HI6:=Qh (HI9.out.upd hu6 (fun _ _=>id));have U6:=Qh (U4.out.trans hr6);clear hu5 hu6 hr4
      by_cases hk1:ek=1
      ·have hkb:(ek==1)=true:=by simpa using hk1
       have hk2:(ek==2)=false:=by rw[hk1];rfl
       have hk3:(ek==3)=false:=by rw[hk1];rfl
       have HV1:=Qh (show Zv ⟨txs,ords,A,c,B,d⟩ ⟨ef,et,ek,ey⟩=if (os&&ov==et)=true then 1 else 0 by rw[HV.out,if_pos hk1,HN1.out]);clear hk1
       cases os
       ·go_wp2
        go_ret
        exact⟨by rw[HV1.out];rfl,U6.out⟩
       ·cases hq:ov==et
        ·have HV2:=Qh (show Zv ⟨txs,ords,A,c,B,d⟩ ⟨ef,et,ek,ey⟩=0 by rw[HV1.out,hq];rfl);go_wp2
         go_ret
         exact⟨by rw[HV2.out];rfl,U6.out⟩
        ·have HV2:=Qh (show Zv ⟨txs,ords,A,c,B,d⟩ ⟨ef,et,ek,ey⟩=1 by rw[HV1.out,hq];rfl);go_wp2
         go_ret
         exact⟨by rw[HV2.out];rfl,U6.out⟩
      ·have hkb:(ek==1)=false:=by simpa using hk1
       have hv2:=HV.out;rw[if_neg hk1]at hv2;clear hk1
       by_cases hk2:ek=2
       ·have hkb2:(ek==2)=true:=by simpa using hk2
        have hk3:(ek==3)=false:=by rw[hk2];rfl
        rw[if_pos hk2]at hv2;have HV2:=Qh hv2;clear hk2 hv2;unfold Zy at hfew1 hfew2;go_wp2
        go_loopg [12,85] l2.length (fun gk s i wr=>∃k n:Nat,k+gk=l2.length∧i= .int .i64 k∧s= .int .i64 n∧n≤k∧Hid (n+(l2.drop k).countP (p2 ef ey (Ze l1 ey))=l2.countP (p2 ef ey (Ze l1 ey)))∧Upd No (w2.alloc (.cells #[.int .i64 x2,.bool true,.slice A2 l2.length c2] 35)) wr)
        case atStart=>exact⟨0,0,by omega,rfl,rfl,by omega,Qh (by simp),hr6⟩
        case round=>
         obtain⟨k,n,hgk,rfl,rfl,hn,hs,hu⟩:=hrel;clear hr6
         by_cases hlt:k<l2.length
         ·obtain⟨ad,hAd,q0,q1,q2,q3⟩:=(hh24.out.upd hu (fun _ _=>id)).at_ hlt;obtain⟨x,hx⟩:∃x,l2[k]=x:=⟨_,rfl⟩;rw[hx]at q0 q1 q2 q3;obtain⟨rd,ky,tx,nt⟩:=x;simp only at q0 q1 q2 q3;subst hAd;have X:=Qh (show l2.drop k=⟨rd,ky,tx,nt⟩::l2.drop (k+1) by rw[←hx];exact List.drop_eq_getElem_cons hlt);have b1:(0:Int)≤(k:Int):=Qn _;have b2:(k:Int)<(l2.length:Int):=by omega
          have hub:=hu.alloc (.cells #[.bool rd,.int .i64 ky,.int .i64 tx,.int .i64 nt] 58);have bO:=Qh (Blk.new wr 58 [.bool rd,.int .i64 ky,.int .i64 tx,.int .i64 nt]);have o0:∀W,Upd No (wr.alloc (.cells #[.bool rd,.int .i64 ky,.int .i64 tx,.int .i64 nt] 58)) W→W.cell? ⟨wr.heap.size,0,none⟩=some (.bool rd):=fun W hW=>(bO.out.upd hW id).cell 0
          have o1:∀W,Upd No (wr.alloc (.cells #[.bool rd,.int .i64 ky,.int .i64 tx,.int .i64 nt] 58)) W→W.cell? ⟨wr.heap.size,1,none⟩=some (.int .i64 ky):=fun W hW=>(bO.out.upd hW id).cell 1
          have o2:∀W,Upd No (wr.alloc (.cells #[.bool rd,.int .i64 ky,.int .i64 tx,.int .i64 nt] 58)) W→W.cell? ⟨wr.heap.size,2,none⟩=some (.int .i64 tx):=fun W hW=>(bO.out.upd hW id).cell 2
          have o3:∀W,Upd No (wr.alloc (.cells #[.bool rd,.int .i64 ky,.int .i64 tx,.int .i64 nt] 58)) W→W.cell? ⟨wr.heap.size,3,none⟩=some (.int .i64 nt):=fun W hW=>(bO.out.upd hW id).cell 3
          have f0:=fun W (hW:Upd No (wr.alloc (.cells #[.bool rd,.int .i64 ky,.int .i64 tx,.int .i64 nt] 58)) W)=>e0 W (hub.trans hW)
          have f1:=fun W (hW:Upd No (wr.alloc (.cells #[.bool rd,.int .i64 ky,.int .i64 tx,.int .i64 nt] 58)) W)=>e1 W (hub.trans hW)
          have f3:=fun W (hW:Upd No (wr.alloc (.cells #[.bool rd,.int .i64 ky,.int .i64 tx,.int .i64 nt] 58)) W)=>e3 W (hub.trans hW)
          have j0:=fun W (hW:Upd No (wr.alloc (.cells #[.bool rd,.int .i64 ky,.int .i64 tx,.int .i64 nt] 58)) W)=>g0 W (hub.trans hW)
          have j1:=fun W (hW:Upd No (wr.alloc (.cells #[.bool rd,.int .i64 ky,.int .i64 tx,.int .i64 nt] 58)) W)=>g1 W (hub.trans hW)
          have m0:=fun W (hW:Upd No (wr.alloc (.cells #[.bool rd,.int .i64 ky,.int .i64 tx,.int .i64 nt] 58)) W)=>a0 W (hub.trans hW)
          have m2:=fun W (hW:Upd No (wr.alloc (.cells #[.bool rd,.int .i64 ky,.int .i64 tx,.int .i64 nt] 58)) W)=>a2 W (hub.trans hW)
          have HW:=Qh fun W (hW:Upd No (wr.alloc (.cells #[.bool rd,.int .i64 ky,.int .i64 tx,.int .i64 nt] 58)) W)=>Za8 F W A1 c1 l1 ey (HOps.upd hh14.out (hub.trans hW) (fun _ _=>id)) (by unfold Zy;exact hfew1)
          obtain⟨wn,hwn⟩:∃wn,Ze l1 ey=wn:=⟨_,rfl⟩;rw[hwn]at HW;have hp:p2 ef ey (Ze l1 ey) ⟨rd,ky,tx,nt⟩=(rd&&(ky==ey&&(tx==ef&&nt==(wn:Int)))):=by unfold p2;rw[hwn];simp only[Bool.and_assoc]
          have hst:=hs.out;rw[X.out,Zeg,hp]at hst;have HST:=Qh hst;clear hst hp hwn hx
          cases rd
          ·have HS:=Qh (show n+(l2.drop (k+1)).countP (p2 ef ey (Ze l1 ey))=l2.countP (p2 ef ey (Ze l1 ey)) by rw[←HST.out];simp[*]);go_wp2;refine wp_region_noPanic ?_;refine wp_region_held_drew (S:=(fun w'=>Upd No (wr.alloc (.cells #[.bool false,.int .i64 ky,.int .i64 tx,.int .i64 nt] 58)) w')) (by kernel_rfl) ?_ (fun hHeld=> ?_)
           ·(first|exact(Upd.refl No _).drew|exact hHeld.trans hu3)
           refine wpK 0 rfl ?_;refine wpK 1 rfl ?_;refine wpK 2 rfl ?_;refine wpN 3 rfl ?_;refine wpN 4 rfl ?_;refine wpN 5 rfl ?_;refine wpN 6 rfl ?_;refine wpN 7 rfl ?_;refine wpK 8 rfl ?_;refine wpK 9 rfl ?_;refine wpN 10 rfl ?_;refine wpN 11 rfl ?_;refine wpN 12 rfl ?_;refine wpN 13 rfl ?_;refine wpN 14 rfl ?_;refine wpK 15 rfl ?_;refine wpK 16 rfl ?_;refine wpN 17 rfl ?_;refine wpN 18 rfl ?_;refine wpN 19 rfl ?_;refine wpN 20 rfl ?_;refine wpN 21 rfl ?_;refine wpN 22 rfl ?_;refine wpR [23] ?_;refine wpC rfl (fun K hK=> ?_) AllReadyH.nil;go_simp;refine hK.out _ _ ?_ (fun hHeld=> ?_)
           ·exact hHeld
           clear hK K
           try simp only[Act.put,sT,sS,sZ]
           refine wpN 24 rfl ?_;refine wpK 25 rfl ?_;refine wpD (NoPanic.normal ?_);have HUB:=Qh (hub.trans hHeld);clear hHeld o0 o1 o2 o3 f0 f1 f3 j0 j1 m0 m2;go_wp2
           go_roundg (gk-1)
           case measure=>omega
           case rel=>exact⟨k+1,n,by omega,by go_num,rfl,by omega,HS,HUB.out⟩
          ·cases hky:ky==ey
           ·have HS:=Qh (show n+(l2.drop (k+1)).countP (p2 ef ey (Ze l1 ey))=l2.countP (p2 ef ey (Ze l1 ey)) by rw[←HST.out];simp[*]);go_wp2;refine wp_region_noPanic ?_;refine wp_region_held_drew (S:=(fun w'=>Upd No (wr.alloc (.cells #[.bool true,.int .i64 ky,.int .i64 tx,.int .i64 nt] 58)) w')) (by kernel_rfl) ?_ (fun hHeld=> ?_)
            ·(first|exact(Upd.refl No _).drew|exact hHeld.trans hu3)
            refine wpK 0 rfl ?_;refine wpK 1 rfl ?_;refine wpK 2 rfl ?_;refine wpK 3 rfl ?_;refine wpK 4 rfl ?_;refine wpK 5 rfl ?_;refine wpK 6 rfl ?_;refine wpK 7 rfl ?_;refine wpK 8 rfl ?_;refine wpK 9 rfl ?_;refine wpN 10 rfl ?_;refine wpN 11 rfl ?_;refine wpN 12 rfl ?_;refine wpN 13 rfl ?_;refine wpN 14 rfl ?_;refine wpK 15 rfl ?_;refine wpK 16 rfl ?_;refine wpN 17 rfl ?_;refine wpN 18 rfl ?_;refine wpN 19 rfl ?_;refine wpN 20 rfl ?_;refine wpN 21 rfl ?_;refine wpN 22 rfl ?_;refine wpR [23] ?_;refine wpC rfl (fun K hK=> ?_) AllReadyH.nil;go_simp;refine hK.out _ _ ?_ (fun hHeld=> ?_)
            ·exact hHeld
            clear hK K
            try simp only[Act.put,sT,sS,sZ]
            refine wpN 24 rfl ?_;refine wpK 25 rfl ?_;refine wpD (NoPanic.normal ?_);have HUB:=Qh (hub.trans hHeld);clear hHeld o0 o1 o2 o3 f0 f1 f3 j0 j1 m0 m2;go_wp2
            go_roundg (gk-1)
            case measure=>omega
            case rel=>exact⟨k+1,n,by omega,by go_num,rfl,by omega,HS,HUB.out⟩
           ·cases htx:tx==ef
            ·have HS:=Qh (show n+(l2.drop (k+1)).countP (p2 ef ey (Ze l1 ey))=l2.countP (p2 ef ey (Ze l1 ey)) by rw[←HST.out];simp[*]);go_wp2;refine wp_region_noPanic ?_;refine wp_region_held_drew (S:=(fun w'=>Upd No (wr.alloc (.cells #[.bool true,.int .i64 ky,.int .i64 tx,.int .i64 nt] 58)) w')) (by kernel_rfl) ?_ (fun hHeld=> ?_)
             ·(first|exact(Upd.refl No _).drew|exact hHeld.trans hu3)
             refine wpK 0 rfl ?_;refine wpK 1 rfl ?_;refine wpK 2 rfl ?_;refine wpK 3 rfl ?_;refine wpK 4 rfl ?_;refine wpK 5 rfl ?_;refine wpK 6 rfl ?_;refine wpK 7 rfl ?_;refine wpK 8 rfl ?_;refine wpK 9 rfl ?_;refine wpK 10 rfl ?_;refine wpK 11 rfl ?_;refine wpK 12 rfl ?_;refine wpK 13 rfl ?_;refine wpK 14 rfl ?_;refine wpK 15 rfl ?_;refine wpK 16 rfl ?_;refine wpN 17 rfl ?_;refine wpN 18 rfl ?_;refine wpN 19 rfl ?_;refine wpN 20 rfl ?_;refine wpN 21 rfl ?_;refine wpN 22 rfl ?_;refine wpR [23] ?_;refine wpC rfl (fun K hK=> ?_) AllReadyH.nil;go_simp;refine hK.out _ _ ?_ (fun hHeld=> ?_)
             ·exact hHeld
             clear hK K
             try simp only[Act.put,sT,sS,sZ]
             refine wpN 24 rfl ?_;refine wpK 25 rfl ?_;refine wpD (NoPanic.normal ?_);have HUB:=Qh (hub.trans hHeld);clear hHeld o0 o1 o2 o3 f0 f1 f3 j0 j1 m0 m2;go_wp2
             go_roundg (gk-1)
             case measure=>omega
             case rel=>exact⟨k+1,n,by omega,by go_num,rfl,by omega,HS,HUB.out⟩
            ·cases hnt:nt==(wn:Int)
             ·have HS:=Qh (show n+(l2.drop (k+1)).countP (p2 ef ey (Ze l1 ey))=l2.countP (p2 ef ey (Ze l1 ey)) by rw[←HST.out];simp[*]);go_wp2;refine wp_region_noPanic ?_;refine wp_region_held_drew (S:=(fun w'=>Upd No (wr.alloc (.cells #[.bool true,.int .i64 ky,.int .i64 tx,.int .i64 nt] 58)) w')) (by kernel_rfl) ?_ (fun hHeld=> ?_)
              ·(first|exact(Upd.refl No _).drew|exact hHeld.trans hu3)
              refine wpK 0 rfl ?_;refine wpK 1 rfl ?_;refine wpK 2 rfl ?_;refine wpK 3 rfl ?_;refine wpK 4 rfl ?_;refine wpK 5 rfl ?_;refine wpK 6 rfl ?_;refine wpK 7 rfl ?_;refine wpK 8 rfl ?_;refine wpK 9 rfl ?_;refine wpK 10 rfl ?_;refine wpK 11 rfl ?_;refine wpK 12 rfl ?_;refine wpK 13 rfl ?_;refine wpK 14 rfl ?_;refine wpK 15 rfl ?_;refine wpK 16 rfl ?_;refine wpK 17 rfl ?_;refine wpK 18 rfl ?_;refine wpK 19 rfl ?_;refine wpK 20 rfl ?_;refine wpK 21 rfl ?_;refine wpK 22 rfl ?_;refine wpR [23] ?_;refine wpC rfl (fun K hK=> ?_) AllReadyH.nil;go_simp
              (first
  |(go_at_call 76;refine(HW.out _ hHeld).mono ?_;rintro e w3 ⟨rfl,hu3⟩))
              try (go_wp2_with fail)
              refine hK.out _ _ ?_ (fun hHeld=> ?_)
              ·(first|exact(Upd.refl No _).drew|exact hHeld.trans hu3)
              clear hK K
              try simp only[Act.put,sT,sS,sZ]
              refine wpK 24 rfl ?_;refine wpK 25 rfl ?_;refine wpD (NoPanic.normal ?_);have HUB:=Qh (hub.trans hHeld);clear hHeld o0 o1 o2 o3 f0 f1 f3 j0 j1 m0 m2;go_wp2
              go_roundg (gk-1)
              case measure=>omega
              case rel=>exact⟨k+1,n,by omega,by go_num,rfl,by omega,HS,HUB.out⟩
             ·have HS:=Qh (show(n+1)+(l2.drop (k+1)).countP (p2 ef ey (Ze l1 ey))=l2.countP (p2 ef ey (Ze l1 ey)) by rw[←HST.out,hky,htx,hnt];simp only[Bool.and_self,if_true];omega);go_wp2;refine wp_region_noPanic ?_;refine wp_region_held_drew (S:=(fun w'=>Upd No (wr.alloc (.cells #[.bool true,.int .i64 ky,.int .i64 tx,.int .i64 nt] 58)) w')) (by kernel_rfl) ?_ (fun hHeld=> ?_)
              ·(first|exact(Upd.refl No _).drew|exact hHeld.trans hu3)
              refine wpK 0 rfl ?_;refine wpK 1 rfl ?_;refine wpK 2 rfl ?_;refine wpK 3 rfl ?_;refine wpK 4 rfl ?_;refine wpK 5 rfl ?_;refine wpK 6 rfl ?_;refine wpK 7 rfl ?_;refine wpK 8 rfl ?_;refine wpK 9 rfl ?_;refine wpK 10 rfl ?_;refine wpK 11 rfl ?_;refine wpK 12 rfl ?_;refine wpK 13 rfl ?_;refine wpK 14 rfl ?_;refine wpK 15 rfl ?_;refine wpK 16 rfl ?_;refine wpK 17 rfl ?_;refine wpK 18 rfl ?_;refine wpK 19 rfl ?_;refine wpK 20 rfl ?_;refine wpK 21 rfl ?_;refine wpK 22 rfl ?_;refine wpR [23] ?_;refine wpC rfl (fun K hK=> ?_) AllReadyH.nil;go_simp
              (first
  |(go_at_call 76;refine(HW.out _ hHeld).mono ?_;rintro e w3 ⟨rfl,hu3⟩))
              try (go_wp2_with fail)
              refine hK.out _ _ ?_ (fun hHeld=> ?_)
              ·(first|exact(Upd.refl No _).drew|exact hHeld.trans hu3)
              clear hK K
              try simp only[Act.put,sT,sS,sZ]
              refine wpK 24 rfl ?_;refine wpK 25 rfl ?_;refine wpD (NoPanic.normal ?_);have HUB:=Qh (hub.trans hHeld);clear hHeld o0 o1 o2 o3 f0 f1 f3 j0 j1 m0 m2;go_wp2
              go_roundg (gk-1)
              case measure=>omega
              case rel=>exact⟨k+1,n+1,by omega,by go_num,by go_num,by omega,HS,HUB.out⟩
         ·obtain rfl:k=l2.length:=by omega
          have HS:=Qh (show n=Zv ⟨txs,ords,A,c,B,d⟩ ⟨ef,et,ek,ey⟩ by have:=hs.out;rw[List.drop_length]at this;rw[HV2.out,←this];simp);go_wp2
          go_ret
          exact⟨by rw[←HS.out];rfl,U4.out.trans hu⟩
       ·have hkb2:(ek==2)=false:=by simpa using hk2
        rw[if_neg hk2]at hv2;clear hk2
        by_cases hk3:ek=3
        ·have hkb3:(ek==3)=true:=by simpa using hk3
         rw[if_pos hk3]at hv2;have HV2:=Qh hv2;clear hk3 hv2;unfold Zy at hfew1 hfew2;have HR6:=Qh hr6;go_wp2
         go_loopg [12,124] l1.length (fun gk s i wr=>∃k n:Nat,k+gk=l1.length∧i= .int .i64 k∧s= .int .i64 n∧n≤k∧Hid (n+(l1.drop k).countP (p3 ⟨txs,ords,A,c,B,d⟩ x1 ey et)=l1.countP (p3 ⟨txs,ords,A,c,B,d⟩ x1 ey et))∧Upd No w6 wr)
         case atStart=>exact⟨0,0,by omega,rfl,rfl,by omega,Qh (by simp),Upd.refl _ _⟩
         case round=>
          obtain⟨k,n,hgk,rfl,rfl,hn,hs,hv6⟩:=hrel;clear hr6;have hu:=HR6.out.trans hv6
          by_cases hlt:k<l1.length
          ·obtain⟨ad,hAd,q0,q1,q2,q3⟩:=(hh14.out.upd hu (fun _ _=>id)).at_ hlt;obtain⟨x,hx⟩:∃x,l1[k]=x:=⟨_,rfl⟩;rw[hx]at q0 q1 q2 q3;obtain⟨rd,ky,tx,nt⟩:=x;simp only at q0 q1 q2 q3;subst hAd;have X:=Qh (show l1.drop k=⟨rd,ky,tx,nt⟩::l1.drop (k+1) by rw[←hx];exact List.drop_eq_getElem_cons hlt);have b1:(0:Int)≤(k:Int):=Qn _;have b2:(k:Int)<(l1.length:Int):=by omega
           have hub:=hu.alloc (.cells #[.bool rd,.int .i64 ky,.int .i64 tx,.int .i64 nt] 58);have bO:=Qh (Blk.new wr 58 [.bool rd,.int .i64 ky,.int .i64 tx,.int .i64 nt]);have o0:∀W,Upd No (wr.alloc (.cells #[.bool rd,.int .i64 ky,.int .i64 tx,.int .i64 nt] 58)) W→W.cell? ⟨wr.heap.size,0,none⟩=some (.bool rd):=fun W hW=>(bO.out.upd hW id).cell 0
           have o1:∀W,Upd No (wr.alloc (.cells #[.bool rd,.int .i64 ky,.int .i64 tx,.int .i64 nt] 58)) W→W.cell? ⟨wr.heap.size,1,none⟩=some (.int .i64 ky):=fun W hW=>(bO.out.upd hW id).cell 1
           have o2:∀W,Upd No (wr.alloc (.cells #[.bool rd,.int .i64 ky,.int .i64 tx,.int .i64 nt] 58)) W→W.cell? ⟨wr.heap.size,2,none⟩=some (.int .i64 tx):=fun W hW=>(bO.out.upd hW id).cell 2
           have o3:∀W,Upd No (wr.alloc (.cells #[.bool rd,.int .i64 ky,.int .i64 tx,.int .i64 nt] 58)) W→W.cell? ⟨wr.heap.size,3,none⟩=some (.int .i64 nt):=fun W hW=>(bO.out.upd hW id).cell 3
           have f0:=fun W (hW:Upd No (wr.alloc (.cells #[.bool rd,.int .i64 ky,.int .i64 tx,.int .i64 nt] 58)) W)=>e0 W (hub.trans hW)
           have f1:=fun W (hW:Upd No (wr.alloc (.cells #[.bool rd,.int .i64 ky,.int .i64 tx,.int .i64 nt] 58)) W)=>e1 W (hub.trans hW)
           have f3:=fun W (hW:Upd No (wr.alloc (.cells #[.bool rd,.int .i64 ky,.int .i64 tx,.int .i64 nt] 58)) W)=>e3 W (hub.trans hW)
           have j0:=fun W (hW:Upd No (wr.alloc (.cells #[.bool rd,.int .i64 ky,.int .i64 tx,.int .i64 nt] 58)) W)=>g0 W (hub.trans hW)
           have j1:=fun W (hW:Upd No (wr.alloc (.cells #[.bool rd,.int .i64 ky,.int .i64 tx,.int .i64 nt] 58)) W)=>g1 W (hub.trans hW)
           have m0:=fun W (hW:Upd No (wr.alloc (.cells #[.bool rd,.int .i64 ky,.int .i64 tx,.int .i64 nt] 58)) W)=>a0 W (hub.trans hW)
           have m2:=fun W (hW:Upd No (wr.alloc (.cells #[.bool rd,.int .i64 ky,.int .i64 tx,.int .i64 nt] 58)) W)=>a2 W (hub.trans hW)
           have HLs:=Qh fun W (hW:Upd No (wr.alloc (.cells #[.bool rd,.int .i64 ky,.int .i64 tx,.int .i64 nt] 58)) W)=>Znn F W txs ords A c B d ⟨rd,ky,tx,nt⟩ (H.upd (U4.out.trans (hub.trans hW)) (fun _ _=>id))
           obtain⟨lb,hlb⟩:∃lb,ZaV txs ⟨tx,ky,nt⟩=lb:=⟨_,rfl⟩;simp only[hlb]at HLs;have HIx:=Qh fun W (hW:Upd No (wr.alloc (.cells #[.bool rd,.int .i64 ky,.int .i64 tx,.int .i64 nt] 58)) W)=>HI6.out.upd ((hv6.alloc _).trans hW) (fun _ _=>id)
           obtain⟨ov2,hov⟩:∃ov,(ZQ ol tx).getD 0=ov:=⟨_,rfl⟩;obtain⟨os2,hos⟩:∃os,(ZQ ol tx).isSome=os:=⟨_,rfl⟩;have HNx:=Qh fun W (hW:Upd No (wr.alloc (.cells #[.bool rd,.int .i64 ky,.int .i64 tx,.int .i64 nt] 58)) W)=>Zju (tx:=tx) (c:=c9) (HIx.out W hW) hl9 rfl
           rw[hov,hos]at HNx
           have hp:p3 ⟨txs,ords,A,c,B,d⟩ x1 ey et ⟨rd,ky,tx,nt⟩=(rd&&(ky==ey&&(!(tx==x1)&&(lb&&(os2&&ov2==et))))):=by
            unfold p3;simp only[Bool.and_assoc]
            by_cases hke:ky=ey
            ·rw[HNB.out,Zhn rfl,hov,hos,show ZaV txs ⟨tx,ky,nt⟩=lb from hlb]
            ·rw[show(ky==ey)=false by simpa using hke];simp
           have hst:=hs.out;rw[X.out,Zeg,hp]at hst;have HST:=Qh hst;have hrb:Upd No (wr.alloc (.cells #[.bool rd,.int .i64 ky,.int .i64 tx,.int .i64 nt] 58)) (wr.alloc (.cells #[.bool rd,.int .i64 ky,.int .i64 tx,.int .i64 nt] 58)):=Upd.refl _ _;clear hst hp hx hlb hov hos
           cases rd
           ·have HS:=Qh (show n+(l1.drop (k+1)).countP (p3 ⟨txs,ords,A,c,B,d⟩ x1 ey et)=l1.countP (p3 ⟨txs,ords,A,c,B,d⟩ x1 ey et) by rw[←HST.out];simp[*]);go_wp2
            go_roundg (gk-1)
            case measure=>omega
            case rel=>exact⟨k+1,n,by omega,by go_num,rfl,by omega,HS,(by first|exact HUB.out|exact hv6.alloc _)⟩
           ·cases hky:ky==ey
            ·have HS:=Qh (show n+(l1.drop (k+1)).countP (p3 ⟨txs,ords,A,c,B,d⟩ x1 ey et)=l1.countP (p3 ⟨txs,ords,A,c,B,d⟩ x1 ey et) by rw[←HST.out];simp[*]);go_wp2
             go_roundg (gk-1)
             case measure=>omega
             case rel=>exact⟨k+1,n,by omega,by go_num,rfl,by omega,HS,(by first|exact HUB.out|exact hv6.alloc _)⟩
            ·cases htx:tx==x1
             ·have htn:(tx != x1)=true:=by unfold bne;rw[htx];rfl
              cases lb
              ·have HS:=Qh (show n+(l1.drop (k+1)).countP (p3 ⟨txs,ords,A,c,B,d⟩ x1 ey et)=l1.countP (p3 ⟨txs,ords,A,c,B,d⟩ x1 ey et) by rw[←HST.out];simp[*])
               go_wp2_with fail
               refine(HLs.out _ hrb).mono ?_;rintro e w7 ⟨rfl,hu7⟩;have HUB:=Qh ((hv6.alloc _).trans hu7);go_wp2
               go_roundg (gk-1)
               case measure=>omega
               case rel=>exact⟨k+1,n,by omega,by go_num,rfl,by omega,HS,HUB.out⟩
              ·go_wp2_with fail
               refine(HLs.out _ hrb).mono ?_;rintro e w7 ⟨rfl,hu7⟩
               go_wp2_with fail
               refine(HNx.out _ hu7).mono ?_;rintro e w8 ⟨rfl,hu8⟩;have hu78:=hu7.trans hu8;have HUB:=Qh ((hv6.alloc _).trans hu78)
               cases os2
               ·have HS:=Qh (show n+(l1.drop (k+1)).countP (p3 ⟨txs,ords,A,c,B,d⟩ x1 ey et)=l1.countP (p3 ⟨txs,ords,A,c,B,d⟩ x1 ey et) by rw[←HST.out];simp[*]);go_wp2
                go_roundg (gk-1)
                case measure=>omega
                case rel=>exact⟨k+1,n,by omega,by go_num,rfl,by omega,HS,(by first|exact HUB.out|exact hv6.alloc _)⟩
               ·cases hq:ov2==et
                ·have HS:=Qh (show n+(l1.drop (k+1)).countP (p3 ⟨txs,ords,A,c,B,d⟩ x1 ey et)=l1.countP (p3 ⟨txs,ords,A,c,B,d⟩ x1 ey et) by rw[←HST.out];simp[*]);go_wp2
                 go_roundg (gk-1)
                 case measure=>omega
                 case rel=>exact⟨k+1,n,by omega,by go_num,rfl,by omega,HS,(by first|exact HUB.out|exact hv6.alloc _)⟩
                ·have HS:=Qh (show(n+1)+(l1.drop (k+1)).countP (p3 ⟨txs,ords,A,c,B,d⟩ x1 ey et)=l1.countP (p3 ⟨txs,ords,A,c,B,d⟩ x1 ey et) by rw[←HST.out,hky,htx,hq];simp only[Bool.and_self,Bool.not_false,if_true];omega);go_wp2
                 go_roundg (gk-1)
                 case measure=>omega
                 case rel=>exact⟨k+1,n+1,by omega,by go_num,by go_num,by omega,HS,HUB.out⟩
             ·have htn:(tx != x1)=false:=by unfold bne;rw[htx];rfl
              have HS:=Qh (show n+(l1.drop (k+1)).countP (p3 ⟨txs,ords,A,c,B,d⟩ x1 ey et)=l1.countP (p3 ⟨txs,ords,A,c,B,d⟩ x1 ey et) by rw[←HST.out];simp[*]);go_wp2
              go_roundg (gk-1)
              case measure=>omega
              case rel=>exact⟨k+1,n,by omega,by go_num,rfl,by omega,HS,(by first|exact HUB.out|exact hv6.alloc _)⟩
          ·obtain rfl:k=l1.length:=by omega
           have HS:=Qh (show n=Zv ⟨txs,ords,A,c,B,d⟩ ⟨ef,et,ek,ey⟩ by have:=hs.out;rw[List.drop_length]at this;rw[HV2.out,←this];simp);go_wp2
           go_ret
           exact⟨by rw[←HS.out];rfl,U4.out.trans hu⟩
        ·have hkb3:(ek==3)=false:=by simpa using hk3
         rw[if_neg hk3]at hv2;have HV2:=Qh hv2;clear hk3 hv2;go_wp2
         go_ret
         exact⟨by rw[HV2.out];rfl,U6.out⟩
     ·have HV:=Qh (show Zv ⟨txs,ords,A,c,B,d⟩ ⟨ef,et,ek,ey⟩=0 from Zdj (by simp only[I1.out,I2.out,D1.out,D2.out,HFT.out];rfl));go_wp2
      go_ret
      exact⟨by rw[HV.out];rfl,U4.out⟩
end
/- The document:kinds of a mask;edges of a mask. -/
section
open Go.RowKit
theorem Zk2 (w:World) (p:Int):Calls Try.prog 60 #[.int .i64 p] w fun e w'=>e= .returned (.int .i64 (ZbS p))∧Upd No w w':=by
 by_cases h5:p=5
 ·subst h5
  go_enter Try.func60,Try.ntmps60
  go_wp2
  go_ret
  exact⟨rfl,Upd.refl _ _⟩
 ·have hb:(p==5)=false:=by simpa using h5
  have hm:=Qh (show ZbS p=0 by unfold ZbS;rw[if_neg h5]);clear h5
  go_enter Try.func60,Try.ntmps60
  go_wp2
  go_ret
  exact⟨by rw[hm.out];rfl,Upd.refl _ _⟩
theorem Zk3 (w:World) (p:Int):Calls Try.prog 58 #[.int .i64 p] w fun e w'=>e= .returned (.int .i64 (ZaT p))∧Upd No w w':=by
 by_cases h0:p<0
 ·have hm:=Qh (show ZaT p=0 by unfold ZaT;rw[if_neg (by omega),if_neg (by omega),if_neg (by omega)]);have hb:decide (p<0)=true:=decide_eq_true h0;clear h0
  go_enter Try.func58,Try.ntmps58
  go_wp2
  go_ret
  exact⟨by rw[hm.out];rfl,(Upd.refl _ _).alloc _⟩
 ·by_cases h5:5<p
  ·have hm:=Qh (show ZaT p=0 by unfold ZaT;rw[if_neg (by omega),if_neg (by omega),if_neg (by omega)]);have hb:decide (p<0)=false:=decide_eq_false h0;have hb2:decide (5<p)=true:=decide_eq_true h5;clear h0 h5
   go_enter Try.func58,Try.ntmps58
   go_wp2
   go_ret
   exact⟨by rw[hm.out];rfl,(Upd.refl _ _).alloc _⟩
  ·have hq:p=0∨p=1∨p=2∨p=3∨p=4∨p=5:=by omega
   clear h0 h5;rcases hq with h|h|h|h|h|h
   ·subst h
    go_enter Try.func58,Try.ntmps58
    go_wp2
    go_ret
    exact⟨rfl,(Upd.refl _ _).alloc _⟩
   ·subst h
    go_enter Try.func58,Try.ntmps58
    go_wp2
    go_ret
    exact⟨rfl,(Upd.refl _ _).alloc _⟩
   ·subst h
    go_enter Try.func58,Try.ntmps58
    go_wp2
    go_ret
    exact⟨rfl,(Upd.refl _ _).alloc _⟩
   ·subst h
    go_enter Try.func58,Try.ntmps58
    go_wp2
    go_ret
    exact⟨rfl,(Upd.refl _ _).alloc _⟩
   ·subst h
    go_enter Try.func58,Try.ntmps58
    go_wp2
    go_ret
    exact⟨rfl,(Upd.refl _ _).alloc _⟩
   ·subst h
    go_enter Try.func58,Try.ntmps58
    go_wp2
    go_ret
    exact⟨rfl,(Upd.refl _ _).alloc _⟩
end
/- Looking at a history:the exported functions,with their values named. -/
section
open Go.RowKit
section
variable {F G:Nat→Prop} {w:World} {txs:List HTx} {ords:List HOrd} {A B:Option Addr} {c d n1 n2:Nat}
end
theorem Zdr {w:World} {g size:Nat} {t:TypeId} {rows:List (List Value)} (hr:∀r∈rows,r.length=size) (h:Blk w g t rows.flatten):Recs (fun i=>i=g) w (some ⟨g,0,none⟩) size rows:=fun _=>by
 refine⟨_,rfl,rfl,h.lt,fun i row hi j v hj=> ?_⟩;have e1:(⟨g,0,none⟩:Addr).add (i*size+j)=⟨g,i*size+j,none⟩:=by unfold Addr.add;split<;>simp_all
 rw[e1,h.cell];exact Ze0 hr hi hj
theorem ZhE {w:World} {g:Nat} {t:TypeId} {xs:List Int} (h:Blk w g t (xs.map (Value.int .i64))):Ints (fun i=>i=g) w (some ⟨g,0,none⟩) xs:=
 Ints.of_row h rfl fun j v hj=>by rw[List.getElem?_toArray,List.getElem?_map,hj];rfl
def Zo (n:Nat):Hist:=
 ⟨[⟨1,true,[⟨true,1,0,0⟩,⟨false,2,0,0⟩],some ⟨n+1,0,none⟩,2⟩,⟨2,true,[⟨true,2,0,0⟩,⟨false,1,0,0⟩],some ⟨n+1+1,0,none⟩,2⟩],
  [⟨1,[2],some ⟨n+1+1+1+1,0,none⟩,1⟩,⟨2,[1],some ⟨n+1+1+1+1+1,0,none⟩,1⟩],some ⟨n+1+1+1,0,none⟩,2,some ⟨n+1+1+1+1+1+1,0,none⟩,2⟩
theorem Zjc {W:World} {n:Nat} {t1 t2 t3 t4:TypeId}
  (b1:Blk W (n+1) t1 [.bool true,.int .i64 1,.int .i64 0,.int .i64 0,.bool false,.int .i64 2,.int .i64 0,.int .i64 0])
  (b2:Blk W (n+1+1) t1 [.bool true,.int .i64 2,.int .i64 0,.int .i64 0,.bool false,.int .i64 1,.int .i64 0,.int .i64 0])
  (b3:Blk W (n+1+1+1) t2 [.int .i64 1,.bool true,.slice (some ⟨n+1,0,none⟩) 2 2,.int .i64 2,.bool true,.slice (some ⟨n+1+1,0,none⟩) 2 2])
  (b4:Blk W (n+1+1+1+1) t3 [.int .i64 2]) (b5:Blk W (n+1+1+1+1+1) t3 [.int .i64 1])
  (b6:Blk W (n+1+1+1+1+1+1) t4 [.int .i64 1,.slice (some ⟨n+1+1+1+1,0,none⟩) 1 1,.int .i64 2,.slice (some ⟨n+1+1+1+1+1,0,none⟩) 1 1]):
  (Zo n).lies (fun _=>True) W:=by
 have h3:∀(l:List HTx),∀r∈l.map HTx.cells,r.length=3:=fun l r hr=>by
  obtain⟨e,_,rfl⟩:=List.mem_map.1 hr;rfl
 have h2:∀(l:List HOrd),∀r∈l.map HOrd.cells,r.length=2:=fun l r hr=>by
  obtain⟨e,_,rfl⟩:=List.mem_map.1 hr;rfl
 refine⟨(Zdr (h3 _) b3).weak fun _ _ _=>trivial,(Zdr (h2 _) b6).weak fun _ _ _=>trivial,?_,?_,by simp[Zo],by simp[Zo],by simp[Zo],by simp[Zo]⟩
 ·intro t ht;simp only[Zo,List.mem_cons,List.not_mem_nil,or_false]at ht;rcases ht with rfl|rfl
  ·refine⟨Recs.weak (Zdr ZhK b1) fun _ _ _=>trivial,by simp,by unfold Zy;simp,by unfold i64;simp,?_⟩;intro o ho;simp only[List.mem_cons,List.not_mem_nil,or_false]at ho;rcases ho with rfl|rfl<;>(unfold HOp.ok i64;decide)
  ·refine⟨Recs.weak (Zdr ZhK b2) fun _ _ _=>trivial,by simp,by unfold Zy;simp,by unfold i64;simp,?_⟩;intro o ho;simp only[List.mem_cons,List.not_mem_nil,or_false]at ho;rcases ho with rfl|rfl<;>(unfold HOp.ok i64;decide)
 ·intro o ho;simp only[Zo,List.mem_cons,List.not_mem_nil,or_false]at ho;rcases ho with rfl|rfl
  ·refine⟨(ZhE (xs:=[2]) b4).weak fun _ _ _=>trivial,by simp,by simp,by unfold i64;simp,?_⟩;intro n hn;simp only[List.mem_cons,List.not_mem_nil,or_false]at hn;subst hn;unfold i64;decide
  ·refine⟨(ZhE (xs:=[1]) b5).weak fun _ _ _=>trivial,by simp,by simp,by unfold i64;simp,?_⟩;intro n hn;simp only[List.mem_cons,List.not_mem_nil,or_false]at hn;subst hn;unfold i64;decide
set_option maxRecDepth 100000 in
theorem ZmY (w:World):Calls Try.prog 20 #[] w fun e w'=>e= .returned (.agg #[.slice (some ⟨w.heap.size+1+1+1,0,none⟩) 2 2,.slice (some ⟨w.heap.size+1+1+1+1+1+1,0,none⟩) 2 2])∧(Zo w.heap.size).lies (fun _=>True) w'∧Upd No w w':=by
 go_enter Try.func20,Try.ntmps20
 go_wp2;refine bodyPost_ret (v:= .agg #[.slice (some ⟨w.heap.size+1+1+1,0,none⟩) 2 2,.slice (some ⟨w.heap.size+1+1+1+1+1+1,0,none⟩) 2 2]) (by simp[results,Try.results20,go_sem]) rfl ⟨rfl,?_,((((((((Upd.refl No w).alloc _).alloc _).alloc _).alloc _).alloc _).alloc _).alloc _)⟩;exact Zjc (((((((Blk.new_at (by simp only[World.size_alloc])).alloc _).alloc _).alloc _).alloc _).alloc _)) ((((((Blk.new_at (by simp only[World.size_alloc])).alloc _).alloc _).alloc _).alloc _)) (((((Blk.new_at (by simp only[World.size_alloc])).alloc _).alloc _).alloc _)) ((((Blk.new_at (by simp only[World.size_alloc])).alloc _).alloc _)) (((Blk.new_at (by simp only[World.size_alloc])).alloc _)) (Blk.new_at (by simp only[World.size_alloc]))
def e1:Edge:=⟨1,2,3,1⟩
def e2:Edge:=⟨2,1,3,2⟩
section
variable (n:Nat)
theorem a1:Zcb (Zo n) 5 [e1,e2] Zdz=true:=by kernel_rfl
theorem a2:Zcb (Zo n) 5 [e1,e2,e1,e2] Zdz=true:=by kernel_rfl
theorem a3:Zcb (Zo n) 4 [e1,e2] Zdz=false:=by kernel_rfl
theorem a4:Zcb (Zo n) 5 [e1] Zdz=false:=by kernel_rfl
theorem a5:Zcb (Zo n) 5 [e1,e2] ⟨2,0,⟨1,5,1⟩⟩=false:=by kernel_rfl
theorem a6 (B:Option Addr):Zcb ⟨(Zo n).txs,[],(Zo n).A,2,B,0⟩ 5 [e1,e2] Zdz=false:=by kernel_rfl
theorem a7:Zcb (Zo n) 5 [] Zdz=false:=by kernel_rfl
theorem a8:(Zg (Zo n)&&ZiX (Zo n) e1)=true:=by kernel_rfl
theorem a9:(Zg (Zo n)&&ZiX (Zo n) ⟨1,2,3,2⟩)=false:=by kernel_rfl
end
end
end Go.Proofs.Ytdbjokfejmgepaa
