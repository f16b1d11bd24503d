/- The document: how often there is a reason for an edge. -/
import Derived.Test.YtbefgiboikfojaaGreatRcad
import Derived.Test.YtbefgiboikfojaaGreatRcba
namespace Go.Proofs.YtbefgiboikfojaaGreat
open Go.RowKit
set_option linter.unusedVariables false
set_option linter.unusedSimpArgs false
set_option maxRecDepth 100000
set_option maxHeartbeats 4000000
def uid(txs:List HTx)(i:Int):Int:=match Zh txs i with|some u=>u.id|none=>0
theorem Zpp(F:Gt)(w:Gy)(txs:List HTx)(ords:Gq)(A:OA)(c:Nat)(B:OA)(d:Nat)(i:Int)(H:Hist.lies F w ⟨txs,ords,A,c,B,d⟩):
  Calls Tryz.prog 87 #[.agg #[.slice A txs.length c,.slice B ords.length d],Qi i] w fun e w'=>
  ∃(A':OA) (c':Nat),e= .returned (.tuple #[.agg #[Qi (uid txs i),.bool (Zbr txs i),.slice A' (ZbV txs i).length c'],.bool (Zh txs i).isSome])∧Zp (ZbV txs i).length∧HOps F w' A' (ZbV txs i)∧Upd No w w':=by
 unfold Zbr ZbV uid
 cases hf:Zh txs i with
 |none=>
  refine(Zdz H hf).mono ?_;rintro e w' ⟨rfl,hu⟩;exact⟨none,0,rfl,by unfold Zp;simp,fun h=>absurd rfl h,hu⟩
 |some t=>
  refine(ZbB H hf).mono ?_;rintro e w' ⟨A',c',rfl,h1,h2,h3⟩;exact⟨A',c',rfl,(H.tx t (Zf8 hf)).2.2.1,h2,h3⟩
theorem Zpw{F:Gt}{w:Gy}{A:OA}{c:Nat}{l:Gv}{tx:Int}{o:Option Int}(h:Ints F w A l)(hl:l.length<=17592186044415)(ho:ZaI l tx=o):
  CN 98 #[.slice A l.length c,Qi tx] w (.tuple #[Qi (o.getD 0),.bool o.isSome]):=by
 subst ho;refine(Zvg F w A c l tx h hl).mono ?_;intro e w' hq;unfold ZqA at hq
 cases hn:ZaI l tx with
 |none=>rw[hn]at hq;exact hq
 |some x=>rw[hn]at hq;exact hq
theorem ZlQ{l:Gv}{x y:Int}{o:Option Int}(ho:ZaI l x=o):(ZaI l x==some y)=(o.isSome&&o.getD 0==y):=by
 rw[ho]
 cases o with
 |none=>rfl
 |some z=>
  rw[Bool.eq_iff_iff];simp
theorem Zfy{h:Hist}{e:Edge}(hn:((Zh h.txs e.f).isSome&&(Zh h.txs e.t).isSome&&Zbr h.txs e.f&&Zbr h.txs e.t&& !(e.f==e.t))=false):ZH h e=0:=by
 unfold ZH ZU;unfold Zbr at hn
 cases h1:Zh h.txs e.f with
 |none=>rfl
 |some a=>
  cases h2:Zh h.txs e.t with
  |none=>cases ha:a.done<;>simp[ha]
  |some b=>
   rw[h1,h2]at hn;simp only[Option.isSome_some,Bool.true_and]at hn ⊢
   cases ha:a.done
   ·simp
   ·cases hb:b.done
    ·simp
    ·rw[ha,hb]at hn;simp only[Bool.true_and,Bool.not_eq_false',beq_iff_eq]at hn;simp[hn]
theorem ZrY{h:Hist}{e:Edge}(h1:(Zh h.txs e.f).isSome=true)(h2:(Zh h.txs e.t).isSome=true)(h3:Zbr h.txs e.f=true)(h4:Zbr h.txs e.t=true)(h5:¬e.f=e.t):
  ZH h e=if e.k=1 then (if Zc4 h.ords e.key e.f e.t then 1 else 0) else if e.k=2 then (ZbV h.txs e.t).countP (p2 e.f e.key (Zd (ZbV h.txs e.f) e.key))
   else if e.k=3 then (ZbV h.txs e.f).countP (p3 h (uid h.txs e.f) e.key e.t) else 0:=by
 obtain⟨a,ha⟩:=Option.isSome_iff_exists.1 h1;obtain⟨b,hb⟩:=Option.isSome_iff_exists.1 h2;unfold Zbr at h3 h4;rw[ha]at h3;rw[hb]at h4;simp only at h3 h4;unfold ZH ZU ZbV uid;rw[ha,hb];simp only[h3,h4,if_true,if_neg h5]
theorem Zg2{α:Type}(p:α->Bool)(x:α)(l:List α):(x::l).countP p=(if p x then 1 else 0)+l.countP p:=by
 rw[Fi];omega
theorem Zq3(F:Gt)(w:Gy)(txs:List HTx)(ords:Gq)(A:OA)(c:Nat)(B:OA)(d:Nat)(e:Edge)(H:Hist.lies F w ⟨txs,ords,A,c,B,d⟩):
  Calls Tryz.prog 57 #[.agg #[.slice A txs.length c,.slice B ords.length d],.agg e.cells.toArray] w fun r w'=>r= .returned (Qi ((ZH ⟨txs,ords,A,c,B,d⟩ e:Nat):Int))∧Upd No w w':=by
 obtain⟨ef,et,ek,ey⟩:=e;unfold Edge.cells;have u0:=((Gg No w).alloc (.cells #[.slice A txs.length c,.slice B ords.length d] 29)).alloc (.cells #[Qi ef,Qi et,Qi ek,Qi ey] 94);have bH:=Qh ((Gh w 29 [.slice A txs.length c,.slice B ords.length d]).alloc (.cells #[Qi ef,Qi et,Qi ek,Qi ey] 94));have b1:=Gh (w.alloc (.cells #[.slice A txs.length c,.slice B ords.length d] 29)) 94 [Qi ef,Qi et,Qi ek,Qi ey];simp only[Ge]at b1;have bX:=Qh b1;have U0:=Qh u0;clear b1 u0;obtain⟨i1,hi1⟩:∃b,(Zh txs ef).isSome=b:=⟨_,rfl⟩;obtain⟨i2,hi2⟩:∃b,(Zh txs et).isSome=b:=⟨_,rfl⟩;obtain⟨d1,hd1⟩:∃b,Zbr txs ef=b:=⟨_,rfl⟩;obtain⟨d2,hd2⟩:∃b,Zbr txs et=b:=⟨_,rfl⟩;obtain⟨x1,cD⟩:∃b,uid txs ef=b:=⟨_,rfl⟩;obtain⟨x2,a7⟩:∃b,uid txs et=b:=⟨_,rfl⟩;obtain⟨l1,co⟩:∃b,ZbV txs ef=b:=⟨_,rfl⟩;obtain⟨l2,aN⟩:∃b,ZbV txs et=b:=⟨_,rfl⟩;have wg:=fun W (hW:Upd No w W)=>Zpp F W txs ords A c B d ef (H.upd hW Qo)
 have mG:=fun W (hW:Upd No w W)=>Zpp F W txs ords A c B d et (H.upd hW Qo)
 rw[hi1,hd1,cD,co]at wg;rw[hi2,hd2,a7,aN]at mG;have DI:=Qh (wg _ U0.out);have kq:=Qh mG;have I1:=Qh hi1;have I2:=Qh hi2;have D1:=Qh hd1;have D2:=Qh hd2;have X1:=Qh cD;have L1:=Qh co;have L2:=Qh aN;obtain⟨ft,hft⟩:∃b,(ef==et)=b:=⟨_,rfl⟩;have lc:=Qh hft;clear wg mG hi1 hi2 hd1 hd2 cD a7 co aN;go_enter Tryz.func57,Tryz.ntmps57;go_wp2_with fail;refine(DI.out).mono ?_;rintro e w1 ⟨A1,c1,rfl,jt,bq,hu1⟩;have U1:=Qh ((U0.out.trans hu1).alloc (.cells #[Qi x1,.bool d1,.slice A1 l1.length c1] 53));have bT1:=Qh (Gh w1 53 [Qi x1,.bool d1,.slice A1 l1.length c1]);have uq1:=hu1.alloc (.cells #[Qi x1,.bool d1,.slice A1 l1.length c1] 53);have bH1:=Qh (bH.out.upd uq1 id);have bX1:=Qh (bX.out.upd uq1 id);have wK:=Qh (HOps.upd bq ((Gg No w1).alloc (.cells #[Qi x1,.bool d1,.slice A1 l1.length c1] 53)) Qo);obtain⟨y0,y1⟩:=bX1.out.c2;obtain⟨r0,r1⟩:=bH1.out.c2;clear bq hu1 uq1;go_wp2_with fail;refine(kq.out _ U1.out).mono ?_;rintro e w2 ⟨A2,c2,rfl,mf,ic,hu2⟩;clear y0 y1 r0 r1;have uq2:=hu2.alloc (.cells #[Qi x2,.bool d2,.slice A2 l2.length c2] 53);have U4:=Qh (U1.out.trans uq2);have bT2:=Qh (Gh w2 53 [Qi x2,.bool d2,.slice A2 l2.length c2]);have bT14:=Qh (bT1.out.upd uq2 id);have bH4:=Qh (bH1.out.upd uq2 id)
 have bX4:=Qh (bX1.out.upd uq2 id);have rn:=Qh (HOps.upd wK.out uq2 Qo);have vj:=Qh (HOps.upd ic ((Gg No w2).alloc (.cells #[Qi x2,.bool d2,.slice A2 l2.length c2] 53)) Qo);have e0:∀W,Upd No (w2.alloc (.cells #[Qi x2,.bool d2,.slice A2 l2.length c2] 53)) W->W.cell? ⟨w.heap.size+1,0,none⟩=some (Qi ef):=fun W hW=>(bX4.out.upd hW id).cell 0
 have e1:∀W,Upd No (w2.alloc (.cells #[Qi x2,.bool d2,.slice A2 l2.length c2] 53)) W->W.cell? ⟨w.heap.size+1,1,none⟩=some (Qi et):=fun W hW=>(bX4.out.upd hW id).cell 1
 have e2:∀W,Upd No (w2.alloc (.cells #[Qi x2,.bool d2,.slice A2 l2.length c2] 53)) W->W.cell? ⟨w.heap.size+1,2,none⟩=some (Qi ek):=fun W hW=>(bX4.out.upd hW id).cell 2
 have e3:∀W,Upd No (w2.alloc (.cells #[Qi x2,.bool d2,.slice A2 l2.length c2] 53)) W->W.cell? ⟨w.heap.size+1,3,none⟩=some (Qi ey):=fun W hW=>(bX4.out.upd hW id).cell 3
 have g0:∀W,Upd No (w2.alloc (.cells #[Qi x2,.bool d2,.slice A2 l2.length c2] 53)) W->W.cell? ⟨w.heap.size,0,none⟩=some (.slice A txs.length c):=fun W hW=>(bH4.out.upd hW id).cell 0
 have g1:∀W,Upd No (w2.alloc (.cells #[Qi x2,.bool d2,.slice A2 l2.length c2] 53)) W->W.cell? ⟨w.heap.size,1,none⟩=some (.slice B ords.length d):=fun W hW=>(bH4.out.upd hW id).cell 1
 have a0:∀W,Upd No (w2.alloc (.cells #[Qi x2,.bool d2,.slice A2 l2.length c2] 53)) W->W.cell? ⟨w1.heap.size,0,none⟩=some (Qi x1):=fun W hW=>(bT14.out.upd hW id).cell 0
 have a1:∀W,Upd No (w2.alloc (.cells #[Qi x2,.bool d2,.slice A2 l2.length c2] 53)) W->W.cell? ⟨w1.heap.size,1,none⟩=some (.bool d1):=fun W hW=>(bT14.out.upd hW id).cell 1
 have a2:∀W,Upd No (w2.alloc (.cells #[Qi x2,.bool d2,.slice A2 l2.length c2] 53)) W->W.cell? ⟨w1.heap.size,2,none⟩=some (.slice A1 l1.length c1):=fun W hW=>(bT14.out.upd hW id).cell 2
 have b0:∀W,Upd No (w2.alloc (.cells #[Qi x2,.bool d2,.slice A2 l2.length c2] 53)) W->W.cell? ⟨w2.heap.size,1,none⟩=some (.bool d2):=fun W hW=>(bT2.out.upd hW id).cell 1
 have b2:∀W,Upd No (w2.alloc (.cells #[Qi x2,.bool d2,.slice A2 l2.length c2] 53)) W->W.cell? ⟨w2.heap.size,2,none⟩=some (.slice A2 l2.length c2):=fun W hW=>(bT2.out.upd hW id).cell 2
 have yU:Upd No (w2.alloc (.cells #[Qi x2,.bool d2,.slice A2 l2.length c2] 53)) (w2.alloc (.cells #[Qi x2,.bool d2,.slice A2 l2.length c2] 53)):=Gg _ _;clear ic hu2 uq2
 cases i1
 ·have HV:Hid (ZH ⟨txs,ords,A,c,B,d⟩ ⟨ef,et,ek,ey⟩=0):=Qh (Zfy (by simp only[I1.out,I2.out,D1.out,D2.out,lc.out];rfl));go_wp2;go_ret;exact⟨by rw[HV.out];rfl,U4.out⟩
 ·cases i2
  ·have HV:Hid (ZH ⟨txs,ords,A,c,B,d⟩ ⟨ef,et,ek,ey⟩=0):=Qh (Zfy (by simp only[I1.out,I2.out,D1.out,D2.out,lc.out];rfl));go_wp2;go_ret;exact⟨by rw[HV.out];rfl,U4.out⟩
  ·cases d1
   ·have HV:Hid (ZH ⟨txs,ords,A,c,B,d⟩ ⟨ef,et,ek,ey⟩=0):=Qh (Zfy (by simp only[I1.out,I2.out,D1.out,D2.out,lc.out];rfl));go_wp2;go_ret;exact⟨by rw[HV.out];rfl,U4.out⟩
   ·cases d2
    ·have HV:Hid (ZH ⟨txs,ords,A,c,B,d⟩ ⟨ef,et,ek,ey⟩=0):=Qh (Zfy (by simp only[I1.out,I2.out,D1.out,D2.out,lc.out];rfl));go_wp2;go_ret;exact⟨by rw[HV.out];rfl,U4.out⟩
    ·cases ft
     ·have hv:=ZrY (h:=⟨txs,ords,A,c,B,d⟩) (e:=⟨ef,et,ek,ey⟩) I1.out I2.out D1.out D2.out (by simpa using lc.out);simp only[L1.out,L2.out,X1.out]at hv;have HO:=Qh fun W (hW:Upd No (w2.alloc (.cells #[Qi x2,.bool true,.slice A2 l2.length c2] 53)) W)=>Zub F W txs ords A c B d ey (H.upd (U4.out.trans hW) Qo)
      obtain⟨ol,kD⟩:=Qe (ZfV ey ords);rw[kD]at HO;have gr:∀x y,Zc4 ords ey x y=(ZaI ol x==some y):=fun x y=>by unfold Zc4;rw[<-Znk,kD]
      have fM:=Qh gr;have HV:=Qh hv;clear hv kD gr;go_wp2_with fail;refine(HO.out _ yU).mono ?_;rintro e w5 ⟨A9,c9,rfl,xg,kd,hu5⟩;obtain⟨ov,eC⟩:=Qe ((ZaI ol ef).getD 0);obtain⟨os,mV⟩:=Qe ((ZaI ol ef).isSome);have nO:=Zpw (tx:=ef) (c:=c9) xg kd rfl;rw[eC,mV]at nO;have br:=Qh nO;have pV:=Qh xg;have iO:=Qh (show Zc4 ords ey ef et=(os&&ov==et) by rw[fM.out,ZlQ rfl,eC,mV]);clear nO eC mV xg;go_wp2_with fail;refine Ck br.out fun w6 hu6=>?_;have pp:Upd No (w2.alloc (.cells #[Qi x2,.bool true,.slice A2 l2.length c2] 53)) w6:=hu5.trans hu6;have ow:=Qh (pV.out.upd hu6 Qo);have U6:=Qh (U4.out.trans pp);clear hu5 hu6 yU
      by_cases hk1:ek=1
      ·have e9:(ek==1)=true:=by simpa using hk1
       have hk2:(ek==2)=false:=by rw[hk1];rfl
       have iR:(ek==3)=false:=by rw[hk1];rfl
       have xD:=Qh (show ZH ⟨txs,ords,A,c,B,d⟩ ⟨ef,et,ek,ey⟩=if (os&&ov==et)=true then 1 else 0 by rw[HV.out,if_pos hk1,iO.out]);clear hk1
       cases os
       ·go_wp2;go_ret;exact⟨by rw[xD.out];rfl,U6.out⟩
       ·cases hq:ov==et
        ·have du:=Qh (show ZH ⟨txs,ords,A,c,B,d⟩ ⟨ef,et,ek,ey⟩=0 by rw[xD.out,hq];rfl);go_wp2;go_ret;exact⟨by rw[du.out];rfl,U6.out⟩
        ·have du:=Qh (show ZH ⟨txs,ords,A,c,B,d⟩ ⟨ef,et,ek,ey⟩=1 by rw[xD.out,hq];rfl);go_wp2;go_ret;exact⟨by rw[du.out];rfl,U6.out⟩
      ·have e9:(ek==1)=false:=by simpa using hk1
       have hv2:=HV.out;rw[if_neg hk1]at hv2;clear hk1
       by_cases hk2:ek=2
       ·have kT:(ek==2)=true:=by simpa using hk2
        have iR:(ek==3)=false:=by rw[hk2];rfl
        rw[if_pos hk2]at hv2;have du:=Qh hv2;clear hk2 hv2;unfold Zp at jt mf;go_wp2
        go_loopg [12,85] l2.length (fun gk s i wr=>∃k n:Nat,k+gk=l2.length∧i= Qi k∧s= Qi n∧n<=k∧Hid (n+(l2.drop k).countP (p2 ef ey (Zd l1 ey))=l2.countP (p2 ef ey (Zd l1 ey)))∧Upd No (w2.alloc (.cells #[Qi x2,.bool true,.slice A2 l2.length c2] 53)) wr)
        case atStart=>exact⟨0,0,by omega,rfl,rfl,by omega,Qh (by simp),pp⟩
        case round=>
         obtain⟨k,n,aK,rfl,rfl,hn,hs,hu⟩:=hrel;clear pp
         by_cases hlt:k<l2.length
         ·obtain⟨ad,aA,q0,q1,q2,q3⟩:=(vj.out.upd hu Qo).at_ hlt;obtain⟨x,hx⟩:=Qe (l2[k]);rw[hx]at q0 q1 q2 q3;obtain⟨rd,ky,tx,nt⟩:=x;simp only at q0 q1 q2 q3;subst aA;have X:=Qh (show l2.drop k=⟨rd,ky,tx,nt⟩::l2.drop (k+1) by rw[<-hx];exact Ev hlt);have b1:(0:Int)<=(k:Int):=Qn _;have b2:(k:Int)<(l2.length:Int):=by omega
          have cG:=hu.alloc (.cells #[.bool rd,Qi ky,Qi tx,Qi nt] 50);have bO:=Qh (Gh wr 50 [.bool rd,Qi ky,Qi tx,Qi nt]);have o0:∀W,Upd No (wr.alloc (.cells #[.bool rd,Qi ky,Qi tx,Qi nt] 50)) W->W.cell? ⟨wr.heap.size,0,none⟩=some (.bool rd):=fun W hW=>(bO.out.upd hW id).cell 0
          have o1:∀W,Upd No (wr.alloc (.cells #[.bool rd,Qi ky,Qi tx,Qi nt] 50)) W->W.cell? ⟨wr.heap.size,1,none⟩=some (Qi ky):=fun W hW=>(bO.out.upd hW id).cell 1
          have o2:∀W,Upd No (wr.alloc (.cells #[.bool rd,Qi ky,Qi tx,Qi nt] 50)) W->W.cell? ⟨wr.heap.size,2,none⟩=some (Qi tx):=fun W hW=>(bO.out.upd hW id).cell 2
          have o3:∀W,Upd No (wr.alloc (.cells #[.bool rd,Qi ky,Qi tx,Qi nt] 50)) W->W.cell? ⟨wr.heap.size,3,none⟩=some (Qi nt):=fun W hW=>(bO.out.upd hW id).cell 3
          have f0:=fun W (hW:Upd No (wr.alloc (.cells #[.bool rd,Qi ky,Qi tx,Qi nt] 50)) W)=>e0 W (cG.trans hW)
          have f1:=fun W (hW:Upd No (wr.alloc (.cells #[.bool rd,Qi ky,Qi tx,Qi nt] 50)) W)=>e1 W (cG.trans hW)
          have f3:=fun W (hW:Upd No (wr.alloc (.cells #[.bool rd,Qi ky,Qi tx,Qi nt] 50)) W)=>e3 W (cG.trans hW)
          have j0:=fun W (hW:Upd No (wr.alloc (.cells #[.bool rd,Qi ky,Qi tx,Qi nt] 50)) W)=>g0 W (cG.trans hW)
          have j1:=fun W (hW:Upd No (wr.alloc (.cells #[.bool rd,Qi ky,Qi tx,Qi nt] 50)) W)=>g1 W (cG.trans hW)
          have m0:=fun W (hW:Upd No (wr.alloc (.cells #[.bool rd,Qi ky,Qi tx,Qi nt] 50)) W)=>a0 W (cG.trans hW)
          have m2:=fun W (hW:Upd No (wr.alloc (.cells #[.bool rd,Qi ky,Qi tx,Qi nt] 50)) W)=>a2 W (cG.trans hW)
          have HW:=Qh fun W (hW:Upd No (wr.alloc (.cells #[.bool rd,Qi ky,Qi tx,Qi nt] 50)) W)=>ZcI F W A1 c1 l1 ey (HOps.upd rn.out (cG.trans hW) Qo) (by unfold Zp;exact jt)
          obtain⟨wn,eB⟩:=Qe (Zd l1 ey);rw[eB]at HW;have hp:p2 ef ey (Zd l1 ey) ⟨rd,ky,tx,nt⟩=(rd&&(ky==ey&&(tx==ef&&nt==(wn:Int)))):=by unfold p2;rw[eB];simp only[Bool.and_assoc]
          have ag:=hs.out;rw[X.out,Zg2,hp]at ag;have aD:=Qh ag;clear ag hp eB hx
          cases rd
          ·have HS:=Qh (show n+(l2.drop (k+1)).countP (p2 ef ey (Zd l1 ey))=l2.countP (p2 ef ey (Zd l1 ey)) by rw[<-aD.out];simp[*]);go_wp2;refine wpS (fun w'=>Upd No (wr.alloc (.cells #[.bool false,Qi ky,Qi tx,Qi nt] 50)) w') ?_ fun jH=>?_
           ·(first|exact(Gg No _).drew|exact jH.trans hu3)
           (iterate 23 refine wpF ?_);refine wpZ 23 rfl fun K hK=>?_;go_simp;refine hK.out _ _ ?_ fun jH=>?_
           ·exact jH
           try simp only[Qa]
           (iterate 2 refine wpF ?_);refine wpD (Gd ?_);have dZ:=Qh (cG.trans jH);clear jH o0 o1 o2 o3 f0 f1 f3 j0 j1 m0 m2;go_wp2;go_roundg (gk-1);exact⟨k+1,n,by omega,by go_num,rfl,by omega,HS,dZ.out⟩;omega
          ·cases hky:ky==ey
           ·have HS:=Qh (show n+(l2.drop (k+1)).countP (p2 ef ey (Zd l1 ey))=l2.countP (p2 ef ey (Zd l1 ey)) by rw[<-aD.out];simp[*]);go_wp2;refine wpS (fun w'=>Upd No (wr.alloc (.cells #[.bool true,Qi ky,Qi tx,Qi nt] 50)) w') ?_ fun jH=>?_
            ·(first|exact(Gg No _).drew|exact jH.trans hu3)
            (iterate 23 refine wpF ?_);refine wpZ 23 rfl fun K hK=>?_;go_simp;refine hK.out _ _ ?_ fun jH=>?_
            ·exact jH
            try simp only[Qa]
            (iterate 2 refine wpF ?_);refine wpD (Gd ?_);have dZ:=Qh (cG.trans jH);clear jH o0 o1 o2 o3 f0 f1 f3 j0 j1 m0 m2;go_wp2;go_roundg (gk-1);exact⟨k+1,n,by omega,by go_num,rfl,by omega,HS,dZ.out⟩;omega
           ·cases htx:tx==ef
            ·have HS:=Qh (show n+(l2.drop (k+1)).countP (p2 ef ey (Zd l1 ey))=l2.countP (p2 ef ey (Zd l1 ey)) by rw[<-aD.out];simp[*]);go_wp2;refine wpS (fun w'=>Upd No (wr.alloc (.cells #[.bool true,Qi ky,Qi tx,Qi nt] 50)) w') ?_ fun jH=>?_
             ·(first|exact(Gg No _).drew|exact jH.trans hu3)
             (iterate 23 refine wpF ?_);refine wpZ 23 rfl fun K hK=>?_;go_simp;refine hK.out _ _ ?_ fun jH=>?_
             ·exact jH
             try simp only[Qa]
             (iterate 2 refine wpF ?_);refine wpD (Gd ?_);have dZ:=Qh (cG.trans jH);clear jH o0 o1 o2 o3 f0 f1 f3 j0 j1 m0 m2;go_wp2;go_roundg (gk-1);exact⟨k+1,n,by omega,by go_num,rfl,by omega,HS,dZ.out⟩;omega
            ·cases hnt:nt==(wn:Int)
             ·have HS:=Qh (show n+(l2.drop (k+1)).countP (p2 ef ey (Zd l1 ey))=l2.countP (p2 ef ey (Zd l1 ey)) by rw[<-aD.out];simp[*]);go_wp2;refine wpS (fun w'=>Upd No (wr.alloc (.cells #[.bool true,Qi ky,Qi tx,Qi nt] 50)) w') ?_ fun jH=>?_
              ·(first|exact(Gg No _).drew|exact jH.trans hu3)
              (iterate 23 refine wpF ?_);refine wpZ 23 rfl fun K hK=>?_;go_simp
              (first
  |(go_at_call 88;refine Ck (HW.out _ jH) fun w3 hu3=>?_))
              try (go_wp2_with fail)
              refine hK.out _ _ ?_ fun jH=>?_
              ·(first|exact(Gg No _).drew|exact jH.trans hu3)
              try simp only[Qa]
              (iterate 2 refine wpF ?_);refine wpD (Gd ?_);have dZ:=Qh (cG.trans jH);clear jH o0 o1 o2 o3 f0 f1 f3 j0 j1 m0 m2;go_wp2;go_roundg (gk-1);exact⟨k+1,n,by omega,by go_num,rfl,by omega,HS,dZ.out⟩;omega
             ·have HS:=Qh (show(n+1)+(l2.drop (k+1)).countP (p2 ef ey (Zd l1 ey))=l2.countP (p2 ef ey (Zd l1 ey)) by rw[<-aD.out,hky,htx,hnt];simp only[Bool.and_self,if_true];omega);go_wp2;refine wpS (fun w'=>Upd No (wr.alloc (.cells #[.bool true,Qi ky,Qi tx,Qi nt] 50)) w') ?_ fun jH=>?_
              ·(first|exact(Gg No _).drew|exact jH.trans hu3)
              (iterate 23 refine wpF ?_);refine wpZ 23 rfl fun K hK=>?_;go_simp
              (first
  |(go_at_call 88;refine Ck (HW.out _ jH) fun w3 hu3=>?_))
              try (go_wp2_with fail)
              refine hK.out _ _ ?_ fun jH=>?_
              ·(first|exact(Gg No _).drew|exact jH.trans hu3)
              try simp only[Qa]
              (iterate 2 refine wpF ?_);refine wpD (Gd ?_);have dZ:=Qh (cG.trans jH);clear jH o0 o1 o2 o3 f0 f1 f3 j0 j1 m0 m2;go_wp2;go_roundg (gk-1);exact⟨k+1,n+1,by omega,by go_num,by go_num,by omega,HS,dZ.out⟩;omega
         ·obtain rfl:k=l2.length:=by omega
          have HS:=Qh (show n=ZH ⟨txs,ords,A,c,B,d⟩ ⟨ef,et,ek,ey⟩ by have:=hs.out;rw[Fq]at this;rw[du.out,<-this];simp);go_wp2;go_ret;exact⟨by rw[<-HS.out];rfl,U4.out.trans hu⟩
       ·have kT:(ek==2)=false:=by simpa using hk2
        rw[if_neg hk2]at hv2;clear hk2
        by_cases iR:ek=3
        ·have xe:(ek==3)=true:=by simpa using iR
         rw[if_pos iR]at hv2;have du:=Qh hv2;clear iR hv2;unfold Zp at jt mf;have gf:=Qh pp;go_wp2
         go_loopg [12,124] l1.length (fun gk s i wr=>∃k n:Nat,k+gk=l1.length∧i= Qi k∧s= Qi n∧n<=k∧Hid (n+(l1.drop k).countP (p3 ⟨txs,ords,A,c,B,d⟩ x1 ey et)=l1.countP (p3 ⟨txs,ords,A,c,B,d⟩ x1 ey et))∧Upd No w6 wr)
         case atStart=>exact⟨0,0,by omega,rfl,rfl,by omega,Qh (by simp),Gg _ _⟩
         case round=>
          obtain⟨k,n,aK,rfl,rfl,hn,hs,hv6⟩:=hrel;clear pp;have hu:=gf.out.trans hv6
          by_cases hlt:k<l1.length
          ·obtain⟨ad,aA,q0,q1,q2,q3⟩:=(rn.out.upd hu Qo).at_ hlt;obtain⟨x,hx⟩:=Qe (l1[k]);rw[hx]at q0 q1 q2 q3;obtain⟨rd,ky,tx,nt⟩:=x;simp only at q0 q1 q2 q3;subst aA;have X:=Qh (show l1.drop k=⟨rd,ky,tx,nt⟩::l1.drop (k+1) by rw[<-hx];exact Ev hlt);have b1:(0:Int)<=(k:Int):=Qn _;have b2:(k:Int)<(l1.length:Int):=by omega
           have cG:=hu.alloc (.cells #[.bool rd,Qi ky,Qi tx,Qi nt] 50);have bO:=Qh (Gh wr 50 [.bool rd,Qi ky,Qi tx,Qi nt]);have o0:∀W,Upd No (wr.alloc (.cells #[.bool rd,Qi ky,Qi tx,Qi nt] 50)) W->W.cell? ⟨wr.heap.size,0,none⟩=some (.bool rd):=fun W hW=>(bO.out.upd hW id).cell 0
           have o1:∀W,Upd No (wr.alloc (.cells #[.bool rd,Qi ky,Qi tx,Qi nt] 50)) W->W.cell? ⟨wr.heap.size,1,none⟩=some (Qi ky):=fun W hW=>(bO.out.upd hW id).cell 1
           have o2:∀W,Upd No (wr.alloc (.cells #[.bool rd,Qi ky,Qi tx,Qi nt] 50)) W->W.cell? ⟨wr.heap.size,2,none⟩=some (Qi tx):=fun W hW=>(bO.out.upd hW id).cell 2
           have o3:∀W,Upd No (wr.alloc (.cells #[.bool rd,Qi ky,Qi tx,Qi nt] 50)) W->W.cell? ⟨wr.heap.size,3,none⟩=some (Qi nt):=fun W hW=>(bO.out.upd hW id).cell 3
           have f0:=fun W (hW:Upd No (wr.alloc (.cells #[.bool rd,Qi ky,Qi tx,Qi nt] 50)) W)=>e0 W (cG.trans hW)
           have f1:=fun W (hW:Upd No (wr.alloc (.cells #[.bool rd,Qi ky,Qi tx,Qi nt] 50)) W)=>e1 W (cG.trans hW)
           have f3:=fun W (hW:Upd No (wr.alloc (.cells #[.bool rd,Qi ky,Qi tx,Qi nt] 50)) W)=>e3 W (cG.trans hW)
           have j0:=fun W (hW:Upd No (wr.alloc (.cells #[.bool rd,Qi ky,Qi tx,Qi nt] 50)) W)=>g0 W (cG.trans hW)
           have j1:=fun W (hW:Upd No (wr.alloc (.cells #[.bool rd,Qi ky,Qi tx,Qi nt] 50)) W)=>g1 W (cG.trans hW)
           have m0:=fun W (hW:Upd No (wr.alloc (.cells #[.bool rd,Qi ky,Qi tx,Qi nt] 50)) W)=>a0 W (cG.trans hW)
           have m2:=fun W (hW:Upd No (wr.alloc (.cells #[.bool rd,Qi ky,Qi tx,Qi nt] 50)) W)=>a2 W (cG.trans hW)
           have vO:=Qh fun W (hW:Upd No (wr.alloc (.cells #[.bool rd,Qi ky,Qi tx,Qi nt] 50)) W)=>Zvh F W txs ords A c B d ⟨rd,ky,tx,nt⟩ (H.upd (U4.out.trans (cG.trans hW)) Qo)
           obtain⟨lb,jn⟩:=Qe (ZbR txs ⟨tx,ky,nt⟩);simp only[jn]at vO;have AW:=Qh fun W (hW:Upd No (wr.alloc (.cells #[.bool rd,Qi ky,Qi tx,Qi nt] 50)) W)=>ow.out.upd ((hv6.alloc _).trans hW) Qo
           obtain⟨ov2,eC⟩:∃ov,(ZaI ol tx).getD 0=ov:=⟨_,rfl⟩;obtain⟨os2,mV⟩:∃os,(ZaI ol tx).isSome=os:=⟨_,rfl⟩;have zK:=Qh fun W (hW:Upd No (wr.alloc (.cells #[.bool rd,Qi ky,Qi tx,Qi nt] 50)) W)=>Zpw (tx:=tx) (c:=c9) (AW.out W hW) kd rfl
           rw[eC,mV]at zK
           have hp:p3 ⟨txs,ords,A,c,B,d⟩ x1 ey et ⟨rd,ky,tx,nt⟩=(rd&&(ky==ey&&(!(tx==x1)&&(lb&&(os2&&ov2==et))))):=by
            unfold p3;simp only[Bool.and_assoc]
            by_cases hke:ky=ey
            ·rw[fM.out,ZlQ rfl,eC,mV,show ZbR txs ⟨tx,ky,nt⟩=lb from jn]
            ·rw[show(ky==ey)=false by simpa using hke];simp
           have ag:=hs.out;rw[X.out,Zg2,hp]at ag;have aD:=Qh ag;have sC:Upd No (wr.alloc (.cells #[.bool rd,Qi ky,Qi tx,Qi nt] 50)) (wr.alloc (.cells #[.bool rd,Qi ky,Qi tx,Qi nt] 50)):=Gg _ _;clear ag hp hx jn eC mV
           cases rd
           ·have HS:=Qh (show n+(l1.drop (k+1)).countP (p3 ⟨txs,ords,A,c,B,d⟩ x1 ey et)=l1.countP (p3 ⟨txs,ords,A,c,B,d⟩ x1 ey et) by rw[<-aD.out];simp[*]);go_wp2;go_roundg (gk-1);exact⟨k+1,n,by omega,by go_num,rfl,by omega,HS,(by first|exact dZ.out|exact hv6.alloc _)⟩;omega
           ·cases hky:ky==ey
            ·have HS:=Qh (show n+(l1.drop (k+1)).countP (p3 ⟨txs,ords,A,c,B,d⟩ x1 ey et)=l1.countP (p3 ⟨txs,ords,A,c,B,d⟩ x1 ey et) by rw[<-aD.out];simp[*]);go_wp2;go_roundg (gk-1);exact⟨k+1,n,by omega,by go_num,rfl,by omega,HS,(by first|exact dZ.out|exact hv6.alloc _)⟩;omega
            ·cases htx:tx==x1
             ·have htn:(tx != x1)=true:=by unfold bne;rw[htx];rfl
              cases lb
              ·have HS:=Qh (show n+(l1.drop (k+1)).countP (p3 ⟨txs,ords,A,c,B,d⟩ x1 ey et)=l1.countP (p3 ⟨txs,ords,A,c,B,d⟩ x1 ey et) by rw[<-aD.out];simp[*]);go_wp2_with fail;refine Ck (vO.out _ sC) fun w7 hu7=>?_;have dZ:=Qh ((hv6.alloc _).trans hu7);go_wp2;go_roundg (gk-1);exact⟨k+1,n,by omega,by go_num,rfl,by omega,HS,dZ.out⟩;omega
              ·go_wp2_with fail;refine Ck (vO.out _ sC) fun w7 hu7=>?_;go_wp2_with fail;refine Ck (zK.out _ hu7) fun w8 hu8=>?_;have wU:=hu7.trans hu8;have dZ:=Qh ((hv6.alloc _).trans wU)
               cases os2
               ·have HS:=Qh (show n+(l1.drop (k+1)).countP (p3 ⟨txs,ords,A,c,B,d⟩ x1 ey et)=l1.countP (p3 ⟨txs,ords,A,c,B,d⟩ x1 ey et) by rw[<-aD.out];simp[*]);go_wp2;go_roundg (gk-1);exact⟨k+1,n,by omega,by go_num,rfl,by omega,HS,(by first|exact dZ.out|exact hv6.alloc _)⟩;omega
               ·cases hq:ov2==et
                ·have HS:=Qh (show n+(l1.drop (k+1)).countP (p3 ⟨txs,ords,A,c,B,d⟩ x1 ey et)=l1.countP (p3 ⟨txs,ords,A,c,B,d⟩ x1 ey et) by rw[<-aD.out];simp[*]);go_wp2;go_roundg (gk-1);exact⟨k+1,n,by omega,by go_num,rfl,by omega,HS,(by first|exact dZ.out|exact hv6.alloc _)⟩;omega
                ·have HS:=Qh (show(n+1)+(l1.drop (k+1)).countP (p3 ⟨txs,ords,A,c,B,d⟩ x1 ey et)=l1.countP (p3 ⟨txs,ords,A,c,B,d⟩ x1 ey et) by rw[<-aD.out,hky,htx,hq];simp only[Bool.and_self,Bool.not_false,if_true];omega);go_wp2;go_roundg (gk-1);exact⟨k+1,n+1,by omega,by go_num,by go_num,by omega,HS,dZ.out⟩;omega
             ·have htn:(tx != x1)=false:=by unfold bne;rw[htx];rfl
              have HS:=Qh (show n+(l1.drop (k+1)).countP (p3 ⟨txs,ords,A,c,B,d⟩ x1 ey et)=l1.countP (p3 ⟨txs,ords,A,c,B,d⟩ x1 ey et) by rw[<-aD.out];simp[*]);go_wp2;go_roundg (gk-1);exact⟨k+1,n,by omega,by go_num,rfl,by omega,HS,(by first|exact dZ.out|exact hv6.alloc _)⟩;omega
          ·obtain rfl:k=l1.length:=by omega
           have HS:=Qh (show n=ZH ⟨txs,ords,A,c,B,d⟩ ⟨ef,et,ek,ey⟩ by have:=hs.out;rw[Fq]at this;rw[du.out,<-this];simp);go_wp2;go_ret;exact⟨by rw[<-HS.out];rfl,U4.out.trans hu⟩
        ·have xe:(ek==3)=false:=by simpa using iR
         rw[if_neg iR]at hv2;have du:=Qh hv2;clear iR hv2;go_wp2;go_ret;exact⟨by rw[du.out];rfl,U6.out⟩
     ·have HV:Hid (ZH ⟨txs,ords,A,c,B,d⟩ ⟨ef,et,ek,ey⟩=0):=Qh (Zfy (by simp only[I1.out,I2.out,D1.out,D2.out,lc.out];rfl));go_wp2;go_ret;exact⟨by rw[HV.out];rfl,U4.out⟩
/- The document:kinds of a mask;edges of a mask. -/
theorem Zsn(w:Gy)(p:Int):CN 55 #[Qi p] w (Qi (ZbQ p)):=by
 by_cases h5:p=5
 ·subst h5;go_enter Tryz.func55,Tryz.ntmps55;go_wp2;go_ret;exact⟨rfl,Gg _ _⟩
 ·have hb:(p==5)=false:=by simpa using h5
  have hm:=Qh (show ZbQ p=0 by unfold ZbQ;rw[if_neg h5]);clear h5;go_enter Tryz.func55,Tryz.ntmps55;go_wp2;go_ret;exact⟨by rw[hm.out];rfl,Gg _ _⟩
theorem Zso(w:Gy)(p:Int):CN 53 #[Qi p] w (Qi (Zba p)):=by
 by_cases h0:p<0
 ·have hm:=Qh (show Zba p=0 by unfold Zba;rw[if_neg (by omega),if_neg (by omega),if_neg (by omega)]);have hb:decide (p<0)=true:=Qt h0;clear h0;go_enter Tryz.func53,Tryz.ntmps53;go_wp2;go_ret;exact⟨by rw[hm.out];rfl,(Gg _ _).alloc _⟩
 ·by_cases h5:5<p
  ·have hm:=Qh (show Zba p=0 by unfold Zba;rw[if_neg (by omega),if_neg (by omega),if_neg (by omega)]);have hb:decide (p<0)=false:=Qf h0;have hb2:decide (5<p)=true:=Qt h5;clear h0 h5;go_enter Tryz.func53,Tryz.ntmps53;go_wp2;go_ret;exact⟨by rw[hm.out];rfl,(Gg _ _).alloc _⟩
  ·have hq:p=0∨p=1∨p=2∨p=3∨p=4∨p=5:=by omega
   clear h0 h5;rcases hq with h|h|h|h|h|h
   ·subst h;go_enter Tryz.func53,Tryz.ntmps53;go_wp2;go_ret;exact⟨rfl,(Gg _ _).alloc _⟩
   ·subst h;go_enter Tryz.func53,Tryz.ntmps53;go_wp2;go_ret;exact⟨rfl,(Gg _ _).alloc _⟩
   ·subst h;go_enter Tryz.func53,Tryz.ntmps53;go_wp2;go_ret;exact⟨rfl,(Gg _ _).alloc _⟩
   ·subst h;go_enter Tryz.func53,Tryz.ntmps53;go_wp2;go_ret;exact⟨rfl,(Gg _ _).alloc _⟩
   ·subst h;go_enter Tryz.func53,Tryz.ntmps53;go_wp2;go_ret;exact⟨rfl,(Gg _ _).alloc _⟩
   ·subst h;go_enter Tryz.func53,Tryz.ntmps53;go_wp2;go_ret;exact⟨rfl,(Gg _ _).alloc _⟩
/- Looking at a history:the exported functions,with their values named. -/
section
variable {F G:Gt} {w:Gy} {txs:List HTx} {ords:Gq} {A B:OA} {c d n1 n2:Nat}
end
theorem ZfR{w:Gy}{g size:Nat}{t:Gx}{rows:List (Gl)}(hr:∀r∈rows,r.length=size)(h:Blk w g t rows.flatten):Recs (fun i=>i=g) w (some ⟨g,0,none⟩) size rows:=fun _=>by
 refine⟨_,rfl,rfl,h.lt,fun i row hi j v hj=>?_⟩;have e1:(⟨g,0,none⟩:Addr).add (i*size+j)=⟨g,i*size+j,none⟩:=by unfold Addr.add;split<;>simp_all
 rw[e1,h.cell];exact ZeM hr hi hj
theorem Zl7{w:Gy}{g:Nat}{t:Gx}{xs:Gv}(h:Blk w g t (xs.map (Value.int .i64))):Ints (fun i=>i=g) w (some ⟨g,0,none⟩) xs:=
 Ints.of_row h rfl fun j v hj=>by rw[List.getElem?_toArray,List.getElem?_map,hj];rfl
def ZY(n:Nat):Hist:=
 ⟨[⟨1,true,[⟨true,1,0,0⟩,⟨false,2,0,0⟩],some ⟨n+1,0,none⟩,2⟩,⟨2,true,[⟨true,2,0,0⟩,⟨false,1,0,0⟩],some ⟨n+1+1,0,none⟩,2⟩],
  [⟨1,[2],some ⟨n+1+1+1+1,0,none⟩,1⟩,⟨2,[1],some ⟨n+1+1+1+1+1,0,none⟩,1⟩],some ⟨n+1+1+1,0,none⟩,2,some ⟨n+1+1+1+1+1+1,0,none⟩,2⟩
theorem Zo7{W:Gy}{n:Nat}{t1 t2 t3 t4:Gx}
  (b1:Blk W (n+1) t1 [.bool true,Qi 1,Qi 0,Qi 0,.bool false,Qi 2,Qi 0,Qi 0])
  (b2:Blk W (n+1+1) t1 [.bool true,Qi 2,Qi 0,Qi 0,.bool false,Qi 1,Qi 0,Qi 0])
  (b3:Blk W (n+1+1+1) t2 [Qi 1,.bool true,.slice (some ⟨n+1,0,none⟩) 2 2,Qi 2,.bool true,.slice (some ⟨n+1+1,0,none⟩) 2 2])
  (b4:Blk W (n+1+1+1+1) t3 [Qi 2]) (b5:Blk W (n+1+1+1+1+1) t3 [Qi 1])
  (b6:Blk W (n+1+1+1+1+1+1) t4 [Qi 1,.slice (some ⟨n+1+1+1+1,0,none⟩) 1 1,Qi 2,.slice (some ⟨n+1+1+1+1+1,0,none⟩) 1 1]):
  (ZY n).lies (fun _=>True) W:=by
 have h3:∀(l:List HTx),∀r∈l.map HTx.cells,r.length=3:=fun l r hr=>by
  obtain⟨e,_,rfl⟩:=Gc.1 hr;rfl
 have h2:∀(l:Gq),∀r∈l.map HOrd.cells,r.length=2:=fun l r hr=>by
  obtain⟨e,_,rfl⟩:=Gc.1 hr;rfl
 refine⟨(ZfR (h3 _) b3).weak fun _ _ _=>trivial,(ZfR (h2 _) b6).weak fun _ _ _=>trivial,?_,?_,by simp[ZY],by simp[ZY],by simp[ZY],by simp[ZY]⟩
 ·intro t ht;simp only[ZY,F9,Ft,or_false]at ht;rcases ht with rfl|rfl
  ·refine⟨Recs.weak (ZfR Zf5 b1) fun _ _ _=>trivial,by simp,by unfold Zp;simp,by unfold i64;simp,?_⟩;intro o ho;simp only[F9,Ft,or_false]at ho;rcases ho with rfl|rfl<;>(unfold HOp.ok i64;decide)
  ·refine⟨Recs.weak (ZfR Zf5 b2) fun _ _ _=>trivial,by simp,by unfold Zp;simp,by unfold i64;simp,?_⟩;intro o ho;simp only[F9,Ft,or_false]at ho;rcases ho with rfl|rfl<;>(unfold HOp.ok i64;decide)
 ·intro o ho;simp only[ZY,F9,Ft,or_false]at ho;rcases ho with rfl|rfl
  ·refine⟨(Zl7 (xs:=[2]) b4).weak fun _ _ _=>trivial,by simp,by simp,by unfold i64;simp,?_⟩;intro n hn;simp only[F9,Ft,or_false]at hn;subst hn;unfold i64;decide
  ·refine⟨(Zl7 (xs:=[1]) b5).weak fun _ _ _=>trivial,by simp,by simp,by unfold i64;simp,?_⟩;intro n hn;simp only[F9,Ft,or_false]at hn;subst hn;unfold i64;decide
theorem Zu1(w:Gy):Calls Tryz.prog 11 #[] w fun e w'=>e= .returned (.agg #[.slice (some ⟨w.heap.size+1+1+1,0,none⟩) 2 2,.slice (some ⟨w.heap.size+1+1+1+1+1+1,0,none⟩) 2 2])∧(ZY w.heap.size).lies (fun _=>True) w'∧Upd No w w':=by
 go_enter Tryz.func11,Tryz.ntmps11;go_wp2;refine bodyPost_ret (v:= .agg #[.slice (some ⟨w.heap.size+1+1+1,0,none⟩) 2 2,.slice (some ⟨w.heap.size+1+1+1+1+1+1,0,none⟩) 2 2]) (by simp[results,Tryz.results11,go_sem]) rfl ⟨rfl,?_,((((((((Gg No w).alloc _).alloc _).alloc _).alloc _).alloc _).alloc _).alloc _)⟩;exact Zo7 (((((((Blk.new_at (by simp only[Ge])).alloc _).alloc _).alloc _).alloc _).alloc _)) ((((((Blk.new_at (by simp only[Ge])).alloc _).alloc _).alloc _).alloc _)) (((((Blk.new_at (by simp only[Ge])).alloc _).alloc _).alloc _)) ((((Blk.new_at (by simp only[Ge])).alloc _).alloc _)) (((Blk.new_at (by simp only[Ge])).alloc _)) (Blk.new_at (by simp only[Ge]))
def e1:Edge:=⟨1,2,3,1⟩
def e2:Edge:=⟨2,1,3,2⟩
section
variable (n:Nat)
theorem a1:ZfB (ZY n) 5 [e1,e2] ZiW=true:=by kernel_rfl
theorem a2:ZfB (ZY n) 5 [e1,e2,e1,e2] ZiW=true:=by kernel_rfl
theorem a3:ZfB (ZY n) 4 [e1,e2] ZiW=false:=by kernel_rfl
theorem a4:ZfB (ZY n) 5 [e1] ZiW=false:=by kernel_rfl
theorem a5:ZfB (ZY n) 5 [e1,e2] ⟨2,0,⟨1,5,1⟩⟩=false:=by kernel_rfl
theorem a9:(Zc (ZY n)&&Zgb (ZY n) ⟨1,2,3,2⟩)=false:=by kernel_rfl
end
/- Looking at a history:the law's asking for some answers. -/
theorem WalkE.upd{w w':Gy}{A:OA}{l:List Edge}(h:∃G,Walk G w A l)(k:Upd No w w'):∃G,Walk G w' A l:=by
 obtain⟨G,h⟩:=h;exact⟨G,Recs.upd h k Qo⟩
theorem Hist.lies.lt{F:Gt}{w:Gy}{h:Hist}(H:h.lies F w):h.lies (fun i=>i<w.heap.size) w:=
 ⟨Recs.lt H.txs,Recs.lt H.ords,fun t ht=>⟨Recs.lt (H.tx t ht).1,(H.tx t ht).2⟩,fun o ho=>⟨Ints.lt (H.ord o ho).1,(H.ord o ho).2⟩,H.c,H.d,H.few,H.fewo⟩
/- Looking at a history:the law that a walk that is right is right from whichever place it is begun. -/
theorem Zbe{P:Gw}{ops:Array Oper}{o:Oper}{a:Act}{W:Gy}{K:Act->Gy->Prop}{Q:Exit->Act->Gy->Prop}{E:Prop}(cw:o.guard=none){ty:Gx}{x y:Operand}(ho:o.op= .store ty x y)
  {g:Nat} {t:Gx} {old cells:Gl} (hx:a.eval x= .pointer (some ⟨g,0,none⟩)) (hy:a.eval y= .agg cells.toArray) (hb:Blk W g t old) (hi:(P.info? ty).map (·.size)=some cells.length) (hold:old.length=cells.length)
  (h1:cells.all (·.oneCell')=true) (h:∀w',Blk w' g t cells->Upd (One g) W w'->K (a.put o.dst undef) w'):if Region.wanted o (yielded ops a.tmps)=true then Oper.wp P o a W K Q else E:=by
 rw[if_pos (by simp[Region.wanted,cw])];refine wp_store_row ty x y ho g cells.toArray hx hy t old.toArray hb (by simpa using hi) (by simpa using hold) (by simpa using h1) ?_;exact h _ (setRow_heap W g old.toArray cells.toArray t (0,0) hb) ⟨rfl,rfl,rfl,by simp[World.setRow],fun k hk hn=>setRow_other W g k _ hn⟩
