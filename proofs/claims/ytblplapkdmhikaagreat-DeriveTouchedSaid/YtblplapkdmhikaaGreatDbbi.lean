/- The document: how often there is a reason for an edge. -/
import Derived.Test.YtblplapkdmhikaaGreatDbak
import Derived.Test.YtblplapkdmhikaaGreatDbbh
namespace Go.Proofs.YtblplapkdmhikaaGreat
set_option linter.unusedVariables false
set_option linter.unusedSimpArgs false
section
open Go.RowKit
def uid (txs:List HTx) (i:Int):Int:=match Ze txs i with|some u=>u.id|none=>0
theorem Zkn (F:Nat→Prop) (w:World) (txs:List HTx) (ords:List HOrd) (A:Option Addr) (c:Nat) (B:Option Addr) (d:Nat) (i:Int) (H:Hist.lies F w ⟨txs,ords,A,c,B,d⟩):
  Calls Tryz.prog 121 #[.agg #[.slice A txs.length c,.slice B ords.length d],.int .i64 i] w fun e w'=>
  ∃(A':Option Addr) (c':Nat),e= .returned (.tuple #[.agg #[.int .i64 (uid txs i),.bool (Zaw txs i),.slice A' (ZaN txs i).length c'],.bool (Ze txs i).isSome])∧Zg (ZaN txs i).length∧HOps F w' A' (ZaN txs i)∧Upd No w w':=by
 unfold Zaw ZaN uid
 cases hf:Ze txs i with
 |none=>
  refine(Zcg H hf).mono ?_;rintro e w' ⟨rfl,hu⟩;exact⟨none,0,rfl,by unfold Zg;simp,fun h=>absurd rfl h,hu⟩
 |some t=>
  refine(Zbe H hf).mono ?_;rintro e w' ⟨A',c',rfl,h1,h2,h3⟩;exact⟨A',c',rfl,(H.tx t (Ze8 hf)).2.2.1,h2,h3⟩
theorem Zks {F:Nat→Prop} {w:World} {A:Option Addr} {c:Nat} {l:List Int} {tx:Int} {o:Option Int} (h:Ints F w A l) (hl:l.length≤17592186044415) (ho:Z6 l tx=o):
  Calls Tryz.prog 191 #[.slice A l.length c,.int .i64 tx] w fun e w'=>e= .returned (.tuple #[.int .i64 (o.getD 0),.bool o.isSome])∧Upd No w w':=by
 subst ho;refine(Zov F w A c l tx h hl).mono ?_;intro e w' hq;unfold Zll at hq
 cases hn:Z6 l tx with
 |none=>rw[hn]at hq;exact hq
 |some x=>rw[hn]at hq;exact hq
theorem ZhM {l:List Int} {x y:Int} {o:Option Int} (ho:Z6 l x=o):(Z6 l x==some y)=(o.isSome&&o.getD 0==y):=by
 rw[ho]
 cases o with
 |none=>rfl
 |some z=>
  rw[Bool.eq_iff_iff];simp
theorem Zda {h:Hist} {e:Edge} (hn:((Ze h.txs e.f).isSome&&(Ze h.txs e.t).isSome&&Zaw h.txs e.f&&Zaw h.txs e.t&& !(e.f==e.t))=false):Zf h e=0:=by
 unfold Zf Zq;unfold Zaw at hn
 cases h1:Ze h.txs e.f with
 |none=>rfl
 |some a=>
  cases h2:Ze h.txs e.t with
  |none=>cases ha:a.done<;>simp[ha]
  |some b=>
   rw[h1,h2]at hn;simp only[Option.isSome_some,Bool.true_and]at hn ⊢
   cases ha:a.done
   ·simp
   ·cases hb:b.done
    ·simp
    ·rw[ha,hb]at hn;simp only[Bool.true_and,Bool.not_eq_false',beq_iff_eq]at hn;simp[hn]
theorem Zmh {h:Hist} {e:Edge} (h1:(Ze h.txs e.f).isSome=true) (h2:(Ze h.txs e.t).isSome=true) (h3:Zaw h.txs e.f=true) (h4:Zaw h.txs e.t=true) (h5:¬e.f=e.t):
  Zf h e=if e.k=1 then (if Zbf h.ords e.key e.f e.t then 1 else 0) else if e.k=2 then (ZaN h.txs e.t).countP (p2 e.f e.key (Zd (ZaN h.txs e.f) e.key))
   else if e.k=3 then (ZaN h.txs e.f).countP (p3 h (uid h.txs e.f) e.key e.t) else 0:=by
 obtain⟨a,ha⟩:=Option.isSome_iff_exists.1 h1;obtain⟨b,hb⟩:=Option.isSome_iff_exists.1 h2;unfold Zaw at h3 h4;rw[ha]at h3;rw[hb]at h4;simp only at h3 h4;unfold Zf Zq ZaN uid;rw[ha,hb];simp only[h3,h4,if_true,if_neg h5]
theorem Zee {α:Type} (p:α→Bool) (x:α) (l:List α):(x::l).countP p=(if p x then 1 else 0)+l.countP p:=by
 rw[List.countP_cons];omega
set_option maxRecDepth 100000 in
set_option maxHeartbeats 4000000 in
theorem ZlF (F:Nat→Prop) (w:World) (txs:List HTx) (ords:List HOrd) (A:Option Addr) (c:Nat) (B:Option Addr) (d:Nat) (e:Edge) (H:Hist.lies F w ⟨txs,ords,A,c,B,d⟩):
  Calls Tryz.prog 100 #[.agg #[.slice A txs.length c,.slice B ords.length d],.agg e.cells.toArray] w fun r w'=>r= .returned (.int .i64 ((Zf ⟨txs,ords,A,c,B,d⟩ e:Nat):Int))∧Upd No w w':=by
 obtain⟨ef,et,ek,ey⟩:=e;unfold Edge.cells;have u0:=((Upd.refl No w).alloc (.cells #[.slice A txs.length c,.slice B ords.length d] 29)).alloc (.cells #[.int .i64 ef,.int .i64 et,.int .i64 ek,.int .i64 ey] 53);have bH:=Qh ((Blk.new w 29 [.slice A txs.length c,.slice B ords.length d]).alloc (.cells #[.int .i64 ef,.int .i64 et,.int .i64 ek,.int .i64 ey] 53));have b1:=Blk.new (w.alloc (.cells #[.slice A txs.length c,.slice B ords.length d] 29)) 53 [.int .i64 ef,.int .i64 et,.int .i64 ek,.int .i64 ey];simp only[World.size_alloc]at b1;have bX:=Qh b1;have U0:=Qh u0;clear b1 u0;obtain⟨i1,hi1⟩:∃b,(Ze txs ef).isSome=b:=⟨_,rfl⟩;obtain⟨i2,hi2⟩:∃b,(Ze txs et).isSome=b:=⟨_,rfl⟩;obtain⟨d1,hd1⟩:∃b,Zaw txs ef=b:=⟨_,rfl⟩;obtain⟨d2,hd2⟩:∃b,Zaw txs et=b:=⟨_,rfl⟩;obtain⟨x1,hx1⟩:∃b,uid txs ef=b:=⟨_,rfl⟩;obtain⟨x2,hx2⟩:∃b,uid txs et=b:=⟨_,rfl⟩;obtain⟨l1,hl1⟩:∃b,ZaN txs ef=b:=⟨_,rfl⟩;obtain⟨l2,hl2⟩:∃b,ZaN txs et=b:=⟨_,rfl⟩;have hF1:=fun W (hW:Upd No w W)=>Zkn F W txs ords A c B d ef (H.upd hW (fun _ _=>id))
 have hF2:=fun W (hW:Upd No w W)=>Zkn F W txs ords A c B d et (H.upd hW (fun _ _=>id))
 rw[hi1,hd1,hx1,hl1]at hF1;rw[hi2,hd2,hx2,hl2]at hF2;have HF1:=Qh (hF1 _ U0.out);have HF2:=Qh hF2;have I1:=Qh hi1;have I2:=Qh hi2;have D1:=Qh hd1;have D2:=Qh hd2;have X1:=Qh hx1;have L1:=Qh hl1;have L2:=Qh hl2;obtain⟨ft,hft⟩:∃b,(ef==et)=b:=⟨_,rfl⟩;have HFT:=Qh hft;clear hF1 hF2 hi1 hi2 hd1 hd2 hx1 hx2 hl1 hl2
 go_enter Tryz.func100,Tryz.ntmps100
 go_wp2_with fail
 refine(HF1.out).mono ?_;rintro e w1 ⟨A1,c1,rfl,hfew1,hh1,hu1⟩;have U1:=Qh ((U0.out.trans hu1).alloc (.cells #[.int .i64 x1,.bool d1,.slice A1 l1.length c1] 81));have bT1:=Qh (Blk.new w1 81 [.int .i64 x1,.bool d1,.slice A1 l1.length c1]);have uq1:=hu1.alloc (.cells #[.int .i64 x1,.bool d1,.slice A1 l1.length c1] 81);have bH1:=Qh (bH.out.upd uq1 id);have bX1:=Qh (bX.out.upd uq1 id);have hh1a:=Qh (HOps.upd hh1 ((Upd.refl No w1).alloc (.cells #[.int .i64 x1,.bool d1,.slice A1 l1.length c1] 81)) (fun _ _=>id));have y0:=bX1.out.cell 0;have y1:=bX1.out.cell 1;have r0:=bH1.out.cell 0;have r1:=bH1.out.cell 1;simp only[Qz,Qs]at y0 y1 r0 r1;clear hh1 hu1 uq1
 go_wp2_with fail
 refine(HF2.out _ U1.out).mono ?_;rintro e w2 ⟨A2,c2,rfl,hfew2,hh2,hu2⟩;clear y0 y1 r0 r1;have uq2:=hu2.alloc (.cells #[.int .i64 x2,.bool d2,.slice A2 l2.length c2] 81);have U4:=Qh (U1.out.trans uq2);have bT2:=Qh (Blk.new w2 81 [.int .i64 x2,.bool d2,.slice A2 l2.length c2]);have bT14:=Qh (bT1.out.upd uq2 id);have bH4:=Qh (bH1.out.upd uq2 id);have bX4:=Qh (bX1.out.upd uq2 id);have hh14:=Qh (HOps.upd hh1a.out uq2 (fun _ _=>id));have hh24:=Qh (HOps.upd hh2 ((Upd.refl No w2).alloc (.cells #[.int .i64 x2,.bool d2,.slice A2 l2.length c2] 81)) (fun _ _=>id));have e0:∀W,Upd No (w2.alloc (.cells #[.int .i64 x2,.bool d2,.slice A2 l2.length c2] 81)) W→W.cell? ⟨w.heap.size+1,0,none⟩=some (.int .i64 ef):=fun W hW=>(bX4.out.upd hW id).cell 0
 have e1:∀W,Upd No (w2.alloc (.cells #[.int .i64 x2,.bool d2,.slice A2 l2.length c2] 81)) W→W.cell? ⟨w.heap.size+1,1,none⟩=some (.int .i64 et):=fun W hW=>(bX4.out.upd hW id).cell 1
 have e2:∀W,Upd No (w2.alloc (.cells #[.int .i64 x2,.bool d2,.slice A2 l2.length c2] 81)) W→W.cell? ⟨w.heap.size+1,2,none⟩=some (.int .i64 ek):=fun W hW=>(bX4.out.upd hW id).cell 2
 have e3:∀W,Upd No (w2.alloc (.cells #[.int .i64 x2,.bool d2,.slice A2 l2.length c2] 81)) W→W.cell? ⟨w.heap.size+1,3,none⟩=some (.int .i64 ey):=fun W hW=>(bX4.out.upd hW id).cell 3
 have g0:∀W,Upd No (w2.alloc (.cells #[.int .i64 x2,.bool d2,.slice A2 l2.length c2] 81)) W→W.cell? ⟨w.heap.size,0,none⟩=some (.slice A txs.length c):=fun W hW=>(bH4.out.upd hW id).cell 0
 have g1:∀W,Upd No (w2.alloc (.cells #[.int .i64 x2,.bool d2,.slice A2 l2.length c2] 81)) W→W.cell? ⟨w.heap.size,1,none⟩=some (.slice B ords.length d):=fun W hW=>(bH4.out.upd hW id).cell 1
 have a0:∀W,Upd No (w2.alloc (.cells #[.int .i64 x2,.bool d2,.slice A2 l2.length c2] 81)) W→W.cell? ⟨w1.heap.size,0,none⟩=some (.int .i64 x1):=fun W hW=>(bT14.out.upd hW id).cell 0
 have a1:∀W,Upd No (w2.alloc (.cells #[.int .i64 x2,.bool d2,.slice A2 l2.length c2] 81)) W→W.cell? ⟨w1.heap.size,1,none⟩=some (.bool d1):=fun W hW=>(bT14.out.upd hW id).cell 1
 have a2:∀W,Upd No (w2.alloc (.cells #[.int .i64 x2,.bool d2,.slice A2 l2.length c2] 81)) W→W.cell? ⟨w1.heap.size,2,none⟩=some (.slice A1 l1.length c1):=fun W hW=>(bT14.out.upd hW id).cell 2
 have b0:∀W,Upd No (w2.alloc (.cells #[.int .i64 x2,.bool d2,.slice A2 l2.length c2] 81)) W→W.cell? ⟨w2.heap.size,1,none⟩=some (.bool d2):=fun W hW=>(bT2.out.upd hW id).cell 1
 have b2:∀W,Upd No (w2.alloc (.cells #[.int .i64 x2,.bool d2,.slice A2 l2.length c2] 81)) W→W.cell? ⟨w2.heap.size,2,none⟩=some (.slice A2 l2.length c2):=fun W hW=>(bT2.out.upd hW id).cell 2
 have hr4:Upd No (w2.alloc (.cells #[.int .i64 x2,.bool d2,.slice A2 l2.length c2] 81)) (w2.alloc (.cells #[.int .i64 x2,.bool d2,.slice A2 l2.length c2] 81)):=Upd.refl _ _;clear hh2 hu2 uq2
 cases i1
 ·have HV:=Qh (show Zf ⟨txs,ords,A,c,B,d⟩ ⟨ef,et,ek,ey⟩=0 from Zda (by simp only[I1.out,I2.out,D1.out,D2.out,HFT.out];rfl));go_wp2
  go_ret
  exact⟨by rw[HV.out];rfl,U4.out⟩
 ·cases i2
  ·have HV:=Qh (show Zf ⟨txs,ords,A,c,B,d⟩ ⟨ef,et,ek,ey⟩=0 from Zda (by simp only[I1.out,I2.out,D1.out,D2.out,HFT.out];rfl));go_wp2
   go_ret
   exact⟨by rw[HV.out];rfl,U4.out⟩
  ·cases d1
   ·have HV:=Qh (show Zf ⟨txs,ords,A,c,B,d⟩ ⟨ef,et,ek,ey⟩=0 from Zda (by simp only[I1.out,I2.out,D1.out,D2.out,HFT.out];rfl));go_wp2
    go_ret
    exact⟨by rw[HV.out];rfl,U4.out⟩
   ·cases d2
    ·have HV:=Qh (show Zf ⟨txs,ords,A,c,B,d⟩ ⟨ef,et,ek,ey⟩=0 from Zda (by simp only[I1.out,I2.out,D1.out,D2.out,HFT.out];rfl));go_wp2
     go_ret
     exact⟨by rw[HV.out];rfl,U4.out⟩
    ·cases ft
     ·have hv:=Zmh (h:=⟨txs,ords,A,c,B,d⟩) (e:=⟨ef,et,ek,ey⟩) I1.out I2.out D1.out D2.out (by simpa using HFT.out);simp only[L1.out,L2.out,X1.out]at hv;have HO:=Qh fun W (hW:Upd No (w2.alloc (.cells #[.int .i64 x2,.bool true,.slice A2 l2.length c2] 81)) W)=>ZnM F W txs ords A c B d ey (H.upd (U4.out.trans hW) (fun _ _=>id))
      obtain⟨ol,hol⟩:∃ol,Zdn ey ords=ol:=⟨_,rfl⟩;rw[hol]at HO;have hnb:∀x y,Zbf ords ey x y=(Z6 ol x==some y):=fun x y=>by unfold Zbf;rw[←ZiN,hol]
      have HNB:=Qh hnb;have HV:=Qh hv;clear hv hol hnb
      go_wp2_with fail
      refine(HO.out _ hr4).mono ?_;rintro e w5 ⟨A9,c9,rfl,hI9,hl9,hu5⟩;obtain⟨ov,hov⟩:∃ov,(Z6 ol ef).getD 0=ov:=⟨_,rfl⟩;obtain⟨os,hos⟩:∃os,(Z6 ol ef).isSome=os:=⟨_,rfl⟩;have hnx:=Zks (tx:=ef) (c:=c9) hI9 hl9 rfl;rw[hov,hos]at hnx;have HNX:=Qh hnx;have HI9:=Qh hI9;have HN1:=Qh (show Zbf ords ey ef et=(os&&ov==et) by rw[HNB.out,ZhM rfl,hov,hos]);clear hnx hov hos hI9
      go_wp2_with fail
      refine(HNX.out).mono ?_;rintro e w6 ⟨rfl,hu6⟩;have hr6:Upd No (w2.alloc (.cells #[.int .i64 x2,.bool true,.slice A2 l2.length c2] 81)) w6:=hu5.trans hu6;have HI6:=Qh (HI9.out.upd hu6 (fun _ _=>id));have U6:=Qh (U4.out.trans hr6);clear hu5 hu6 hr4
      by_cases hk1:ek=1
      ·have hkb:(ek==1)=true:=by simpa using hk1
       have hk2:(ek==2)=false:=by rw[hk1];rfl
       have hk3:(ek==3)=false:=by rw[hk1];rfl
       have HV1:=Qh (show Zf ⟨txs,ords,A,c,B,d⟩ ⟨ef,et,ek,ey⟩=if (os&&ov==et)=true then 1 else 0 by rw[HV.out,if_pos hk1,HN1.out]);clear hk1
       cases os
       ·go_wp2
        go_ret
        exact⟨by rw[HV1.out];rfl,U6.out⟩
       ·cases hq:ov==et
        ·have HV2:=Qh (show Zf ⟨txs,ords,A,c,B,d⟩ ⟨ef,et,ek,ey⟩=0 by rw[HV1.out,hq];rfl);go_wp2
         go_ret
         exact⟨by rw[HV2.out];rfl,U6.out⟩
        ·have HV2:=Qh (show Zf ⟨txs,ords,A,c,B,d⟩ ⟨ef,et,ek,ey⟩=1 by rw[HV1.out,hq];rfl);go_wp2
         go_ret
         exact⟨by rw[HV2.out];rfl,U6.out⟩
      ·have hkb:(ek==1)=false:=by simpa using hk1
       have hv2:=HV.out;rw[if_neg hk1]at hv2;clear hk1
       by_cases hk2:ek=2
       ·have hkb2:(ek==2)=true:=by simpa using hk2
        have hk3:(ek==3)=false:=by rw[hk2];rfl
        rw[if_pos hk2]at hv2;have HV2:=Qh hv2;clear hk2 hv2;unfold Zg at hfew1 hfew2;go_wp2
        go_loopg [12,85] l2.length (fun gk s i wr=>∃k n:Nat,k+gk=l2.length∧i= .int .i64 k∧s= .int .i64 n∧n≤k∧Hid (n+(l2.drop k).countP (p2 ef ey (Zd l1 ey))=l2.countP (p2 ef ey (Zd l1 ey)))∧Upd No (w2.alloc (.cells #[.int .i64 x2,.bool true,.slice A2 l2.length c2] 81)) wr)
        case atStart=>exact⟨0,0,by omega,rfl,rfl,by omega,Qh (by simp),hr6⟩
        case round=>
         obtain⟨k,n,hgk,rfl,rfl,hn,hs,hu⟩:=hrel;clear hr6
         by_cases hlt:k<l2.length
         ·obtain⟨ad,hAd,q0,q1,q2,q3⟩:=(hh24.out.upd hu (fun _ _=>id)).at_ hlt;obtain⟨x,hx⟩:∃x,l2[k]=x:=⟨_,rfl⟩;rw[hx]at q0 q1 q2 q3;obtain⟨rd,ky,tx,nt⟩:=x;simp only at q0 q1 q2 q3;subst hAd;have X:=Qh (show l2.drop k=⟨rd,ky,tx,nt⟩::l2.drop (k+1) by rw[←hx];exact List.drop_eq_getElem_cons hlt);have b1:(0:Int)≤(k:Int):=Qn _;have b2:(k:Int)<(l2.length:Int):=by omega
          have hub:=hu.alloc (.cells #[.bool rd,.int .i64 ky,.int .i64 tx,.int .i64 nt] 95);have bO:=Qh (Blk.new wr 95 [.bool rd,.int .i64 ky,.int .i64 tx,.int .i64 nt]);have o0:∀W,Upd No (wr.alloc (.cells #[.bool rd,.int .i64 ky,.int .i64 tx,.int .i64 nt] 95)) W→W.cell? ⟨wr.heap.size,0,none⟩=some (.bool rd):=fun W hW=>(bO.out.upd hW id).cell 0
          have o1:∀W,Upd No (wr.alloc (.cells #[.bool rd,.int .i64 ky,.int .i64 tx,.int .i64 nt] 95)) W→W.cell? ⟨wr.heap.size,1,none⟩=some (.int .i64 ky):=fun W hW=>(bO.out.upd hW id).cell 1
          have o2:∀W,Upd No (wr.alloc (.cells #[.bool rd,.int .i64 ky,.int .i64 tx,.int .i64 nt] 95)) W→W.cell? ⟨wr.heap.size,2,none⟩=some (.int .i64 tx):=fun W hW=>(bO.out.upd hW id).cell 2
          have o3:∀W,Upd No (wr.alloc (.cells #[.bool rd,.int .i64 ky,.int .i64 tx,.int .i64 nt] 95)) W→W.cell? ⟨wr.heap.size,3,none⟩=some (.int .i64 nt):=fun W hW=>(bO.out.upd hW id).cell 3
          have f0:=fun W (hW:Upd No (wr.alloc (.cells #[.bool rd,.int .i64 ky,.int .i64 tx,.int .i64 nt] 95)) W)=>e0 W (hub.trans hW)
          have f1:=fun W (hW:Upd No (wr.alloc (.cells #[.bool rd,.int .i64 ky,.int .i64 tx,.int .i64 nt] 95)) W)=>e1 W (hub.trans hW)
          have f3:=fun W (hW:Upd No (wr.alloc (.cells #[.bool rd,.int .i64 ky,.int .i64 tx,.int .i64 nt] 95)) W)=>e3 W (hub.trans hW)
          have j0:=fun W (hW:Upd No (wr.alloc (.cells #[.bool rd,.int .i64 ky,.int .i64 tx,.int .i64 nt] 95)) W)=>g0 W (hub.trans hW)
          have j1:=fun W (hW:Upd No (wr.alloc (.cells #[.bool rd,.int .i64 ky,.int .i64 tx,.int .i64 nt] 95)) W)=>g1 W (hub.trans hW)
          have m0:=fun W (hW:Upd No (wr.alloc (.cells #[.bool rd,.int .i64 ky,.int .i64 tx,.int .i64 nt] 95)) W)=>a0 W (hub.trans hW)
          have m2:=fun W (hW:Upd No (wr.alloc (.cells #[.bool rd,.int .i64 ky,.int .i64 tx,.int .i64 nt] 95)) W)=>a2 W (hub.trans hW)
          have HW:=Qh fun W (hW:Upd No (wr.alloc (.cells #[.bool rd,.int .i64 ky,.int .i64 tx,.int .i64 nt] 95)) W)=>ZbA F W A1 c1 l1 ey (HOps.upd hh14.out (hub.trans hW) (fun _ _=>id)) (by unfold Zg;exact hfew1)
          obtain⟨wn,hwn⟩:∃wn,Zd l1 ey=wn:=⟨_,rfl⟩;rw[hwn]at HW;have hp:p2 ef ey (Zd l1 ey) ⟨rd,ky,tx,nt⟩=(rd&&(ky==ey&&(tx==ef&&nt==(wn:Int)))):=by unfold p2;rw[hwn];simp only[Bool.and_assoc]
          have hst:=hs.out;rw[X.out,Zee,hp]at hst;have HST:=Qh hst;clear hst hp hwn hx
          cases rd
          ·have HS:=Qh (show n+(l2.drop (k+1)).countP (p2 ef ey (Zd l1 ey))=l2.countP (p2 ef ey (Zd l1 ey)) by rw[←HST.out];simp[*]);go_wp2;refine wp_region_noPanic ?_;refine wp_region_held_drew (S:=(fun w'=>Upd No (wr.alloc (.cells #[.bool false,.int .i64 ky,.int .i64 tx,.int .i64 nt] 95)) w')) (by kernel_rfl) ?_ (fun hHeld=> ?_)
           ·(first|exact(Upd.refl No _).drew|exact hHeld.trans hu3)
           refine wpK 0 rfl ?_;refine wpK 1 rfl ?_;refine wpK 2 rfl ?_;refine wpN 3 rfl ?_;refine wpN 4 rfl ?_;refine wpN 5 rfl ?_;refine wpN 6 rfl ?_;refine wpN 7 rfl ?_;refine wpK 8 rfl ?_;refine wpK 9 rfl ?_;refine wpN 10 rfl ?_;refine wpN 11 rfl ?_;refine wpN 12 rfl ?_;refine wpN 13 rfl ?_;refine wpN 14 rfl ?_;refine wpK 15 rfl ?_;refine wpK 16 rfl ?_;refine wpN 17 rfl ?_;refine wpN 18 rfl ?_;refine wpN 19 rfl ?_;refine wpN 20 rfl ?_;refine wpN 21 rfl ?_;refine wpN 22 rfl ?_;refine wpR [23] ?_;refine wpC rfl (fun K hK=> ?_) AllReadyH.nil;go_simp;refine hK.out _ _ ?_ (fun hHeld=> ?_)
           ·exact hHeld
           clear hK K
           try simp only[Act.put,sT,sS,sZ]
           refine wpN 24 rfl ?_;refine wpK 25 rfl ?_;refine wpD (NoPanic.normal ?_);have HUB:=Qh (hub.trans hHeld);clear hHeld o0 o1 o2 o3 f0 f1 f3 j0 j1 m0 m2;go_wp2
           go_roundg (gk-1)
           case measure=>omega
           case rel=>exact⟨k+1,n,by omega,by go_num,rfl,by omega,HS,HUB.out⟩
          ·cases hky:ky==ey
           ·have HS:=Qh (show n+(l2.drop (k+1)).countP (p2 ef ey (Zd l1 ey))=l2.countP (p2 ef ey (Zd l1 ey)) by rw[←HST.out];simp[*]);go_wp2;refine wp_region_noPanic ?_;refine wp_region_held_drew (S:=(fun w'=>Upd No (wr.alloc (.cells #[.bool true,.int .i64 ky,.int .i64 tx,.int .i64 nt] 95)) w')) (by kernel_rfl) ?_ (fun hHeld=> ?_)
            ·(first|exact(Upd.refl No _).drew|exact hHeld.trans hu3)
            refine wpK 0 rfl ?_;refine wpK 1 rfl ?_;refine wpK 2 rfl ?_;refine wpK 3 rfl ?_;refine wpK 4 rfl ?_;refine wpK 5 rfl ?_;refine wpK 6 rfl ?_;refine wpK 7 rfl ?_;refine wpK 8 rfl ?_;refine wpK 9 rfl ?_;refine wpN 10 rfl ?_;refine wpN 11 rfl ?_;refine wpN 12 rfl ?_;refine wpN 13 rfl ?_;refine wpN 14 rfl ?_;refine wpK 15 rfl ?_;refine wpK 16 rfl ?_;refine wpN 17 rfl ?_;refine wpN 18 rfl ?_;refine wpN 19 rfl ?_;refine wpN 20 rfl ?_;refine wpN 21 rfl ?_;refine wpN 22 rfl ?_;refine wpR [23] ?_;refine wpC rfl (fun K hK=> ?_) AllReadyH.nil;go_simp;refine hK.out _ _ ?_ (fun hHeld=> ?_)
            ·exact hHeld
            clear hK K
            try simp only[Act.put,sT,sS,sZ]
            refine wpN 24 rfl ?_;refine wpK 25 rfl ?_;refine wpD (NoPanic.normal ?_);have HUB:=Qh (hub.trans hHeld);clear hHeld o0 o1 o2 o3 f0 f1 f3 j0 j1 m0 m2;go_wp2
            go_roundg (gk-1)
            case measure=>omega
            case rel=>exact⟨k+1,n,by omega,by go_num,rfl,by omega,HS,HUB.out⟩
           ·cases htx:tx==ef
            ·have HS:=Qh (show n+(l2.drop (k+1)).countP (p2 ef ey (Zd l1 ey))=l2.countP (p2 ef ey (Zd l1 ey)) by rw[←HST.out];simp[*]);go_wp2;refine wp_region_noPanic ?_;refine wp_region_held_drew (S:=(fun w'=>Upd No (wr.alloc (.cells #[.bool true,.int .i64 ky,.int .i64 tx,.int .i64 nt] 95)) w')) (by kernel_rfl) ?_ (fun hHeld=> ?_)
             ·(first|exact(Upd.refl No _).drew|exact hHeld.trans hu3)
             refine wpK 0 rfl ?_;refine wpK 1 rfl ?_;refine wpK 2 rfl ?_;refine wpK 3 rfl ?_;refine wpK 4 rfl ?_;refine wpK 5 rfl ?_;refine wpK 6 rfl ?_;refine wpK 7 rfl ?_;refine wpK 8 rfl ?_;refine wpK 9 rfl ?_;refine wpK 10 rfl ?_;refine wpK 11 rfl ?_;refine wpK 12 rfl ?_;refine wpK 13 rfl ?_;refine wpK 14 rfl ?_;refine wpK 15 rfl ?_;refine wpK 16 rfl ?_;refine wpN 17 rfl ?_;refine wpN 18 rfl ?_;refine wpN 19 rfl ?_;refine wpN 20 rfl ?_;refine wpN 21 rfl ?_;refine wpN 22 rfl ?_;refine wpR [23] ?_;refine wpC rfl (fun K hK=> ?_) AllReadyH.nil;go_simp;refine hK.out _ _ ?_ (fun hHeld=> ?_)
             ·exact hHeld
             clear hK K
             try simp only[Act.put,sT,sS,sZ]
             refine wpN 24 rfl ?_;refine wpK 25 rfl ?_;refine wpD (NoPanic.normal ?_);have HUB:=Qh (hub.trans hHeld);clear hHeld o0 o1 o2 o3 f0 f1 f3 j0 j1 m0 m2;go_wp2
             go_roundg (gk-1)
             case measure=>omega
             case rel=>exact⟨k+1,n,by omega,by go_num,rfl,by omega,HS,HUB.out⟩
            ·cases hnt:nt==(wn:Int)
             ·have HS:=Qh (show n+(l2.drop (k+1)).countP (p2 ef ey (Zd l1 ey))=l2.countP (p2 ef ey (Zd l1 ey)) by rw[←HST.out];simp[*]);go_wp2;refine wp_region_noPanic ?_;refine wp_region_held_drew (S:=(fun w'=>Upd No (wr.alloc (.cells #[.bool true,.int .i64 ky,.int .i64 tx,.int .i64 nt] 95)) w')) (by kernel_rfl) ?_ (fun hHeld=> ?_)
              ·(first|exact(Upd.refl No _).drew|exact hHeld.trans hu3)
              refine wpK 0 rfl ?_;refine wpK 1 rfl ?_;refine wpK 2 rfl ?_;refine wpK 3 rfl ?_;refine wpK 4 rfl ?_;refine wpK 5 rfl ?_;refine wpK 6 rfl ?_;refine wpK 7 rfl ?_;refine wpK 8 rfl ?_;refine wpK 9 rfl ?_;refine wpK 10 rfl ?_;refine wpK 11 rfl ?_;refine wpK 12 rfl ?_;refine wpK 13 rfl ?_;refine wpK 14 rfl ?_;refine wpK 15 rfl ?_;refine wpK 16 rfl ?_;refine wpK 17 rfl ?_;refine wpK 18 rfl ?_;refine wpK 19 rfl ?_;refine wpK 20 rfl ?_;refine wpK 21 rfl ?_;refine wpK 22 rfl ?_;refine wpR [23] ?_;refine wpC rfl (fun K hK=> ?_) AllReadyH.nil;go_simp
              (first
  |(go_at_call 113;refine(HW.out _ hHeld).mono ?_;rintro e w3 ⟨rfl,hu3⟩))
              try (go_wp2_with fail)
              refine hK.out _ _ ?_ (fun hHeld=> ?_)
              ·(first|exact(Upd.refl No _).drew|exact hHeld.trans hu3)
              clear hK K
              try simp only[Act.put,sT,sS,sZ]
              refine wpK 24 rfl ?_;refine wpK 25 rfl ?_;refine wpD (NoPanic.normal ?_);have HUB:=Qh (hub.trans hHeld);clear hHeld o0 o1 o2 o3 f0 f1 f3 j0 j1 m0 m2;go_wp2
              go_roundg (gk-1)
              case measure=>omega
              case rel=>exact⟨k+1,n,by omega,by go_num,rfl,by omega,HS,HUB.out⟩
             ·have HS:=Qh (show(n+1)+(l2.drop (k+1)).countP (p2 ef ey (Zd l1 ey))=l2.countP (p2 ef ey (Zd l1 ey)) by rw[←HST.out,hky,htx,hnt];simp only[Bool.and_self,if_true];omega);go_wp2;refine wp_region_noPanic ?_;refine wp_region_held_drew (S:=(fun w'=>Upd No (wr.alloc (.cells #[.bool true,.int .i64 ky,.int .i64 tx,.int .i64 nt] 95)) w')) (by kernel_rfl) ?_ (fun hHeld=> ?_)
              ·(first|exact(Upd.refl No _).drew|exact hHeld.trans hu3)
              refine wpK 0 rfl ?_;refine wpK 1 rfl ?_;refine wpK 2 rfl ?_;refine wpK 3 rfl ?_;refine wpK 4 rfl ?_;refine wpK 5 rfl ?_;refine wpK 6 rfl ?_;refine wpK 7 rfl ?_;refine wpK 8 rfl ?_;refine wpK 9 rfl ?_;refine wpK 10 rfl ?_;refine wpK 11 rfl ?_;refine wpK 12 rfl ?_;refine wpK 13 rfl ?_;refine wpK 14 rfl ?_;refine wpK 15 rfl ?_;refine wpK 16 rfl ?_;refine wpK 17 rfl ?_;refine wpK 18 rfl ?_;refine wpK 19 rfl ?_;refine wpK 20 rfl ?_;refine wpK 21 rfl ?_;refine wpK 22 rfl ?_;refine wpR [23] ?_;refine wpC rfl (fun K hK=> ?_) AllReadyH.nil;go_simp
              (first
  |(go_at_call 113;refine(HW.out _ hHeld).mono ?_;rintro e w3 ⟨rfl,hu3⟩))
              try (go_wp2_with fail)
              refine hK.out _ _ ?_ (fun hHeld=> ?_)
              ·(first|exact(Upd.refl No _).drew|exact hHeld.trans hu3)
              clear hK K
              try simp only[Act.put,sT,sS,sZ]
              refine wpK 24 rfl ?_;refine wpK 25 rfl ?_;refine wpD (NoPanic.normal ?_);have HUB:=Qh (hub.trans hHeld);clear hHeld o0 o1 o2 o3 f0 f1 f3 j0 j1 m0 m2;go_wp2
              go_roundg (gk-1)
              case measure=>omega
              case rel=>exact⟨k+1,n+1,by omega,by go_num,by go_num,by omega,HS,HUB.out⟩
         ·obtain rfl:k=l2.length:=by omega
          have HS:=Qh (show n=Zf ⟨txs,ords,A,c,B,d⟩ ⟨ef,et,ek,ey⟩ by have:=hs.out;rw[List.drop_length]at this;rw[HV2.out,←this];simp);go_wp2
          go_ret
          exact⟨by rw[←HS.out];rfl,U4.out.trans hu⟩
       ·have hkb2:(ek==2)=false:=by simpa using hk2
        rw[if_neg hk2]at hv2;clear hk2
        by_cases hk3:ek=3
        ·have hkb3:(ek==3)=true:=by simpa using hk3
         rw[if_pos hk3]at hv2;have HV2:=Qh hv2;clear hk3 hv2;unfold Zg at hfew1 hfew2;have HR6:=Qh hr6;go_wp2
         go_loopg [12,124] l1.length (fun gk s i wr=>∃k n:Nat,k+gk=l1.length∧i= .int .i64 k∧s= .int .i64 n∧n≤k∧Hid (n+(l1.drop k).countP (p3 ⟨txs,ords,A,c,B,d⟩ x1 ey et)=l1.countP (p3 ⟨txs,ords,A,c,B,d⟩ x1 ey et))∧Upd No w6 wr)
         case atStart=>exact⟨0,0,by omega,rfl,rfl,by omega,Qh (by simp),Upd.refl _ _⟩
         case round=>
          obtain⟨k,n,hgk,rfl,rfl,hn,hs,hv6⟩:=hrel;clear hr6;have hu:=HR6.out.trans hv6
          by_cases hlt:k<l1.length
          ·obtain⟨ad,hAd,q0,q1,q2,q3⟩:=(hh14.out.upd hu (fun _ _=>id)).at_ hlt;obtain⟨x,hx⟩:∃x,l1[k]=x:=⟨_,rfl⟩;rw[hx]at q0 q1 q2 q3;obtain⟨rd,ky,tx,nt⟩:=x;simp only at q0 q1 q2 q3;subst hAd;have X:=Qh (show l1.drop k=⟨rd,ky,tx,nt⟩::l1.drop (k+1) by rw[←hx];exact List.drop_eq_getElem_cons hlt);have b1:(0:Int)≤(k:Int):=Qn _;have b2:(k:Int)<(l1.length:Int):=by omega
           have hub:=hu.alloc (.cells #[.bool rd,.int .i64 ky,.int .i64 tx,.int .i64 nt] 95);have bO:=Qh (Blk.new wr 95 [.bool rd,.int .i64 ky,.int .i64 tx,.int .i64 nt]);have o0:∀W,Upd No (wr.alloc (.cells #[.bool rd,.int .i64 ky,.int .i64 tx,.int .i64 nt] 95)) W→W.cell? ⟨wr.heap.size,0,none⟩=some (.bool rd):=fun W hW=>(bO.out.upd hW id).cell 0
           have o1:∀W,Upd No (wr.alloc (.cells #[.bool rd,.int .i64 ky,.int .i64 tx,.int .i64 nt] 95)) W→W.cell? ⟨wr.heap.size,1,none⟩=some (.int .i64 ky):=fun W hW=>(bO.out.upd hW id).cell 1
           have o2:∀W,Upd No (wr.alloc (.cells #[.bool rd,.int .i64 ky,.int .i64 tx,.int .i64 nt] 95)) W→W.cell? ⟨wr.heap.size,2,none⟩=some (.int .i64 tx):=fun W hW=>(bO.out.upd hW id).cell 2
           have o3:∀W,Upd No (wr.alloc (.cells #[.bool rd,.int .i64 ky,.int .i64 tx,.int .i64 nt] 95)) W→W.cell? ⟨wr.heap.size,3,none⟩=some (.int .i64 nt):=fun W hW=>(bO.out.upd hW id).cell 3
           have f0:=fun W (hW:Upd No (wr.alloc (.cells #[.bool rd,.int .i64 ky,.int .i64 tx,.int .i64 nt] 95)) W)=>e0 W (hub.trans hW)
           have f1:=fun W (hW:Upd No (wr.alloc (.cells #[.bool rd,.int .i64 ky,.int .i64 tx,.int .i64 nt] 95)) W)=>e1 W (hub.trans hW)
           have f3:=fun W (hW:Upd No (wr.alloc (.cells #[.bool rd,.int .i64 ky,.int .i64 tx,.int .i64 nt] 95)) W)=>e3 W (hub.trans hW)
           have j0:=fun W (hW:Upd No (wr.alloc (.cells #[.bool rd,.int .i64 ky,.int .i64 tx,.int .i64 nt] 95)) W)=>g0 W (hub.trans hW)
           have j1:=fun W (hW:Upd No (wr.alloc (.cells #[.bool rd,.int .i64 ky,.int .i64 tx,.int .i64 nt] 95)) W)=>g1 W (hub.trans hW)
           have m0:=fun W (hW:Upd No (wr.alloc (.cells #[.bool rd,.int .i64 ky,.int .i64 tx,.int .i64 nt] 95)) W)=>a0 W (hub.trans hW)
           have m2:=fun W (hW:Upd No (wr.alloc (.cells #[.bool rd,.int .i64 ky,.int .i64 tx,.int .i64 nt] 95)) W)=>a2 W (hub.trans hW)
           have HLs:=Qh fun W (hW:Upd No (wr.alloc (.cells #[.bool rd,.int .i64 ky,.int .i64 tx,.int .i64 nt] 95)) W)=>Zow F W txs ords A c B d ⟨rd,ky,tx,nt⟩ (H.upd (U4.out.trans (hub.trans hW)) (fun _ _=>id))
           obtain⟨lb,hlb⟩:∃lb,ZaC txs ⟨tx,ky,nt⟩=lb:=⟨_,rfl⟩;simp only[hlb]at HLs;have HIx:=Qh fun W (hW:Upd No (wr.alloc (.cells #[.bool rd,.int .i64 ky,.int .i64 tx,.int .i64 nt] 95)) W)=>HI6.out.upd ((hv6.alloc _).trans hW) (fun _ _=>id)
           obtain⟨ov2,hov⟩:∃ov,(Z6 ol tx).getD 0=ov:=⟨_,rfl⟩;obtain⟨os2,hos⟩:∃os,(Z6 ol tx).isSome=os:=⟨_,rfl⟩;have HNx:=Qh fun W (hW:Upd No (wr.alloc (.cells #[.bool rd,.int .i64 ky,.int .i64 tx,.int .i64 nt] 95)) W)=>Zks (tx:=tx) (c:=c9) (HIx.out W hW) hl9 rfl
           rw[hov,hos]at HNx
           have hp:p3 ⟨txs,ords,A,c,B,d⟩ x1 ey et ⟨rd,ky,tx,nt⟩=(rd&&(ky==ey&&(!(tx==x1)&&(lb&&(os2&&ov2==et))))):=by
            unfold p3;simp only[Bool.and_assoc]
            by_cases hke:ky=ey
            ·rw[HNB.out,ZhM rfl,hov,hos,show ZaC txs ⟨tx,ky,nt⟩=lb from hlb]
            ·rw[show(ky==ey)=false by simpa using hke];simp
           have hst:=hs.out;rw[X.out,Zee,hp]at hst;have HST:=Qh hst;have hrb:Upd No (wr.alloc (.cells #[.bool rd,.int .i64 ky,.int .i64 tx,.int .i64 nt] 95)) (wr.alloc (.cells #[.bool rd,.int .i64 ky,.int .i64 tx,.int .i64 nt] 95)):=Upd.refl _ _;clear hst hp hx hlb hov hos
           cases rd
           ·have HS:=Qh (show n+(l1.drop (k+1)).countP (p3 ⟨txs,ords,A,c,B,d⟩ x1 ey et)=l1.countP (p3 ⟨txs,ords,A,c,B,d⟩ x1 ey et) by rw[←HST.out];simp[*]);go_wp2
            go_roundg (gk-1)
            case measure=>omega
            case rel=>exact⟨k+1,n,by omega,by go_num,rfl,by omega,HS,(by first|exact HUB.out|exact hv6.alloc _)⟩
           ·cases hky:ky==ey
            ·have HS:=Qh (show n+(l1.drop (k+1)).countP (p3 ⟨txs,ords,A,c,B,d⟩ x1 ey et)=l1.countP (p3 ⟨txs,ords,A,c,B,d⟩ x1 ey et) by rw[←HST.out];simp[*]);go_wp2
             go_roundg (gk-1)
             case measure=>omega
             case rel=>exact⟨k+1,n,by omega,by go_num,rfl,by omega,HS,(by first|exact HUB.out|exact hv6.alloc _)⟩
            ·cases htx:tx==x1
             ·have htn:(tx != x1)=true:=by unfold bne;rw[htx];rfl
              cases lb
              ·have HS:=Qh (show n+(l1.drop (k+1)).countP (p3 ⟨txs,ords,A,c,B,d⟩ x1 ey et)=l1.countP (p3 ⟨txs,ords,A,c,B,d⟩ x1 ey et) by rw[←HST.out];simp[*])
               go_wp2_with fail
               refine(HLs.out _ hrb).mono ?_;rintro e w7 ⟨rfl,hu7⟩;have HUB:=Qh ((hv6.alloc _).trans hu7);go_wp2
               go_roundg (gk-1)
               case measure=>omega
               case rel=>exact⟨k+1,n,by omega,by go_num,rfl,by omega,HS,HUB.out⟩
              ·go_wp2_with fail
               refine(HLs.out _ hrb).mono ?_;rintro e w7 ⟨rfl,hu7⟩
               go_wp2_with fail
               refine(HNx.out _ hu7).mono ?_;rintro e w8 ⟨rfl,hu8⟩;have hu78:=hu7.trans hu8;have HUB:=Qh ((hv6.alloc _).trans hu78)
               cases os2
               ·have HS:=Qh (show n+(l1.drop (k+1)).countP (p3 ⟨txs,ords,A,c,B,d⟩ x1 ey et)=l1.countP (p3 ⟨txs,ords,A,c,B,d⟩ x1 ey et) by rw[←HST.out];simp[*]);go_wp2
                go_roundg (gk-1)
                case measure=>omega
                case rel=>exact⟨k+1,n,by omega,by go_num,rfl,by omega,HS,(by first|exact HUB.out|exact hv6.alloc _)⟩
               ·cases hq:ov2==et
                ·have HS:=Qh (show n+(l1.drop (k+1)).countP (p3 ⟨txs,ords,A,c,B,d⟩ x1 ey et)=l1.countP (p3 ⟨txs,ords,A,c,B,d⟩ x1 ey et) by rw[←HST.out];simp[*]);go_wp2
                 go_roundg (gk-1)
                 case measure=>omega
                 case rel=>exact⟨k+1,n,by omega,by go_num,rfl,by omega,HS,(by first|exact HUB.out|exact hv6.alloc _)⟩
                ·have HS:=Qh (show(n+1)+(l1.drop (k+1)).countP (p3 ⟨txs,ords,A,c,B,d⟩ x1 ey et)=l1.countP (p3 ⟨txs,ords,A,c,B,d⟩ x1 ey et) by rw[←HST.out,hky,htx,hq];simp only[Bool.and_self,Bool.not_false,if_true];omega);go_wp2
                 go_roundg (gk-1)
                 case measure=>omega
                 case rel=>exact⟨k+1,n+1,by omega,by go_num,by go_num,by omega,HS,HUB.out⟩
             ·have htn:(tx != x1)=false:=by unfold bne;rw[htx];rfl
              have HS:=Qh (show n+(l1.drop (k+1)).countP (p3 ⟨txs,ords,A,c,B,d⟩ x1 ey et)=l1.countP (p3 ⟨txs,ords,A,c,B,d⟩ x1 ey et) by rw[←HST.out];simp[*]);go_wp2
              go_roundg (gk-1)
              case measure=>omega
              case rel=>exact⟨k+1,n,by omega,by go_num,rfl,by omega,HS,(by first|exact HUB.out|exact hv6.alloc _)⟩
          ·obtain rfl:k=l1.length:=by omega
           have HS:=Qh (show n=Zf ⟨txs,ords,A,c,B,d⟩ ⟨ef,et,ek,ey⟩ by have:=hs.out;rw[List.drop_length]at this;rw[HV2.out,←this];simp);go_wp2
           go_ret
           exact⟨by rw[←HS.out];rfl,U4.out.trans hu⟩
        ·have hkb3:(ek==3)=false:=by simpa using hk3
         rw[if_neg hk3]at hv2;have HV2:=Qh hv2;clear hk3 hv2;go_wp2
         go_ret
         exact⟨by rw[HV2.out];rfl,U6.out⟩
     ·have HV:=Qh (show Zf ⟨txs,ords,A,c,B,d⟩ ⟨ef,et,ek,ey⟩=0 from Zda (by simp only[I1.out,I2.out,D1.out,D2.out,HFT.out];rfl));go_wp2
      go_ret
      exact⟨by rw[HV.out];rfl,U4.out⟩
end
/- Orders:the first order that goes along all edges,in plain words;what is kept while ids are taken one by one. -/
section
open Go.RowKit
def ZjH (l:List Edge) (left:List Int) (x:Int):Bool:=l.all fun e=> !(decide (e.t=x)&&decide (e.f∈left))
def Zfc (l:List Edge) (L:List Int) (x:Int):Nat:=(l.filter fun e=>decide (e.t=x)&&decide (e.f∈L)).length
theorem Zh2 (l:List Edge) (L:List Int) (x:Int):ZjH l L x=(Zfc l L x==0):=by
 rw[Bool.eq_iff_iff];unfold ZjH Zfc;simp only[List.all_eq_true,beq_iff_eq,List.length_eq_zero_iff,List.filter_eq_nil_iff]
 grind
structure TpI (l:List Edge) (ids L nx ys:List Int) (g:Int→Int):Prop where
 rise:L.Pairwise (·<·)
 sub:∀x∈L,x∈ids
 cnt:∀x∈ids,g x=1+((Zfc l L x+nx.count x:Nat):Int)
 heap:ys.Perm (L.filter fun x=>Zfc l L x+nx.count x==0)
 gone:∀x∈ids,x∉L→Zfc l L x+nx.count x=0
 nxs:∀x∈nx,x∈ids
theorem TpI.mem {l:List Edge} {ids L nx ys:List Int} {g:Int→Int} (h:TpI l ids L nx ys g) (x:Int):x∈ys↔x∈L∧Zfc l L x+nx.count x=0:=by
 rw[h.heap.mem_iff,List.mem_filter,beq_iff_eq]
theorem TpI.nodup {l:List Edge} {ids L nx ys:List Int} {g:Int→Int} (h:TpI l ids L nx ys g):ys.Nodup:=h.heap.nodup_iff.2 ((ZbG h.rise).filter _)
theorem TpI.step {l:List Edge} {ids L nx ys:List Int} {x:Int} {g:Int→Int} (h:TpI l ids L (x::nx) ys g):
  TpI l ids L nx (if g x-1=1 then ys++[x] else ys) (fun y=>if y=x then g x-1 else g y):=by
 have hx:=h.nxs x (List.mem_cons_self ..);have hgx:=h.cnt x hx;rw[List.count_cons_self]at hgx
 have hxL:x∈L:=Classical.byContradiction fun hn=>by
  have:=h.gone x hx hn;rw[List.count_cons_self]at this;omega
 have hco:∀y,y≠x→(x::nx).count y=nx.count y:=fun y hy=>List.count_cons_of_ne (Ne.symm hy)
 have hxn:x∉ys:=fun hm=>by
  have:=((h.mem x).1 hm).2;rw[List.count_cons_self]at this;omega
 refine⟨h.rise,h.sub,fun y hy=> ?_,?_,fun y hy hn=> ?_,fun y hy=>h.nxs y (List.mem_cons_of_mem _ hy)⟩
 ·by_cases e:y=x
  ·subst e;rw[if_pos rfl];omega
  ·rw[if_neg e,h.cnt y hy,hco y e]
 ·have hnd:(L.filter fun y=>Zfc l L y+nx.count y==0).Nodup:=(ZbG h.rise).filter _
  split
  ·rename_i he
   refine(List.perm_ext_iff_of_nodup ?_ hnd).2 fun y=> ?_
   ·rw[List.nodup_append];exact⟨h.nodup,by simp,fun a ha b hb=>by rw[List.mem_singleton]at hb;subst hb;exact fun e=>hxn (e▸ha)⟩
   ·rw[List.mem_append,List.mem_singleton,h.mem,List.mem_filter,beq_iff_eq]
    by_cases e:y=x
    ·subst e
     constructor
     ·intro _;exact⟨hxL,by omega⟩
     ·intro _;exact Or.inr rfl
    ·rw[hco y e];simp[e]
  ·rename_i he
   refine(List.perm_ext_iff_of_nodup h.nodup hnd).2 fun y=> ?_
   rw[h.mem,List.mem_filter,beq_iff_eq]
   by_cases e:y=x
   ·subst e;rw[List.count_cons_self]
    constructor
    ·rintro⟨_,h2⟩;omega
    ·rintro⟨_,h2⟩;omega
   ·rw[hco y e]
 ·have:=h.gone y hy hn
  by_cases e:y=x
  ·subst e;exact absurd hxL hn
  ·rw[hco y e]at this;exact this
theorem Zjv {L:List Int} {p:Int→Bool} {m:Int} (hr:L.Pairwise (·<·)) (hm:m∈L) (hp:p m=true) (hl:∀y∈L,p y=true→m≤y):L.find? p=some m:=by
 cases hf:L.find? p with
 |none=>rw[List.find?_eq_none]at hf;exact absurd hp (hf m hm)
 |some x=>
  have hx:=List.find?_some hf;have hxm:=List.mem_of_find?_eq_some hf;have h1:=hl x hxm hx;rw[List.find?_eq_some_iff_append]at hf;obtain⟨_,l1,l2,rfl,hl1⟩:=hf;rcases List.mem_append.1 hm with h2|h2
  ·have:=hl1 m h2;rw[hp]at this;simp at this
  ·rcases List.mem_cons.1 h2 with rfl|h2
   ·rfl
   ·have:=(List.pairwise_cons.1 (List.pairwise_append.1 hr).2.1).1 m h2;omega
theorem TpI.find {l:List Edge} {ids L ys:List Int} {g:Int→Int} (h:TpI l ids L [] ys g) {m:Int} (hm:m∈ys) (hl:∀y∈ys,m≤y):L.find? (ZjH l L)=some m:=by
 have h1:=(h.mem m).1 hm;refine Zjv h.rise h1.1 (by rw[Zh2];simpa using h1.2) fun y hy hp=>hl y ((h.mem y).2 ⟨hy,by rw[Zh2]at hp;simpa using hp⟩)
end
/- Looking at a history:the exported functions,with their values named. -/
section
open Go.RowKit
section
variable {F G:Nat→Prop} {w:World} {txs:List HTx} {ords:List HOrd} {A B:Option Addr} {c d n1 n2:Nat}
end
theorem Zcw {w:World} {g size:Nat} {t:TypeId} {rows:List (List Value)} (hr:∀r∈rows,r.length=size) (h:Blk w g t rows.flatten):Recs (fun i=>i=g) w (some ⟨g,0,none⟩) size rows:=fun _=>by
 refine⟨_,rfl,rfl,h.lt,fun i row hi j v hj=> ?_⟩;have e1:(⟨g,0,none⟩:Addr).add (i*size+j)=⟨g,i*size+j,none⟩:=by unfold Addr.add;split<;>simp_all
 rw[e1,h.cell];exact ZcD hr hi hj
theorem Ze3 {w:World} {g:Nat} {t:TypeId} {xs:List Int} (h:Blk w g t (xs.map (Value.int .i64))):Ints (fun i=>i=g) w (some ⟨g,0,none⟩) xs:=
 Ints.of_row h rfl fun j v hj=>by rw[List.getElem?_toArray,List.getElem?_map,hj];rfl
def Zdh (n:Nat):Hist:=
 ⟨[⟨1,true,[⟨true,1,0,0⟩,⟨false,2,0,0⟩],some ⟨n+1,0,none⟩,2⟩,⟨2,true,[⟨true,2,0,0⟩,⟨false,1,0,0⟩],some ⟨n+1+1,0,none⟩,2⟩],
  [⟨1,[2],some ⟨n+1+1+1+1,0,none⟩,1⟩,⟨2,[1],some ⟨n+1+1+1+1+1,0,none⟩,1⟩],some ⟨n+1+1+1,0,none⟩,2,some ⟨n+1+1+1+1+1+1,0,none⟩,2⟩
def e1:Edge:=⟨1,2,3,1⟩
def e2:Edge:=⟨2,1,3,2⟩
section
variable (n:Nat)
theorem a1:Zdc (Zdh n) 5 [e1,e2] ZfG=true:=by kernel_rfl
theorem a2:Zdc (Zdh n) 5 [e1,e2,e1,e2] ZfG=true:=by kernel_rfl
theorem a3:Zdc (Zdh n) 4 [e1,e2] ZfG=false:=by kernel_rfl
theorem a4:Zdc (Zdh n) 5 [e1] ZfG=false:=by kernel_rfl
theorem a5:Zdc (Zdh n) 5 [e1,e2] ⟨2,0,⟨1,5,1⟩⟩=false:=by kernel_rfl
theorem a9:(Za (Zdh n)&&ZmB (Zdh n) ⟨1,2,3,2⟩)=false:=by kernel_rfl
end
end
end Go.Proofs.YtblplapkdmhikaaGreat
