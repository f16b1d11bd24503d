/- Phenomena: which a history has (phen.Has, phen.All, tenterref30.Has). -/
import Derived.Test.YtdbjokfejmgepaaRaah
import Derived.Test.YtdbjokfejmgepaaRabg
import Derived.Test.YtdbjokfejmgepaaRabj
import Derived.Test.YtdbjokfejmgepaaRabp
import Derived.Test.YtdbjokfejmgepaaRabu
import Derived.Test.YtdbjokfejmgepaaRabz
namespace Go.Proofs.Ytdbjokfejmgepaa
set_option linter.unusedVariables false
set_option linter.unusedSimpArgs false
section
open Go.RowKit
def Zcs (h:Hist) (p:Int):Bool:=if p=2∨p=3 then decide (0<(Zbf h p).length) else ZdV (ZY (ZK h)) (ZaT p) (ZbS p)
set_option maxRecDepth 100000 in
set_option maxHeartbeats 2000000 in
theorem Zms (F:Nat→Prop) (w:World) (txs:List HTx) (ords:List HOrd) (A:Option Addr) (c:Nat) (B:Option Addr) (d:Nat) (p:Int) (H:Hist.lies F w ⟨txs,ords,A,c,B,d⟩) (hl:ZF ⟨txs,ords,A,c,B,d⟩=true):
  Calls Try.prog 43 #[.agg #[.slice A txs.length c,.slice B ords.length d],.int .i64 p] w fun e w'=>e= .returned (.bool (Zcs ⟨txs,ords,A,c,B,d⟩ p))∧Upd No w w':=by
 obtain⟨wb,hwb⟩:∃wb,w.alloc (.cells #[.slice A txs.length c,.slice B ords.length d] 39)=wb:=⟨_,rfl⟩;have u0:Upd No w wb:=by rw[←hwb];exact(Upd.refl No w).alloc _
 have bH:Blk wb w.heap.size 39 [.slice A txs.length c,.slice B ords.length d]:=by rw[←hwb];exact Blk.new w _ _
 have h0:∀W,Upd No wb W→W.cell? ⟨w.heap.size,0,none⟩=some (.slice A txs.length c):=fun W u=>(bH.upd u id).cell 0
 have h1:∀W,Upd No wb W→W.cell? ⟨w.heap.size,1,none⟩=some (.slice B ords.length d):=fun W u=>(bH.upd u id).cell 1
 have HH:=Qh (H.upd u0 (fun _ _=>id));have U0:=Qh u0;have hr:Upd No wb wb:=Upd.refl _ _;clear bH u0 H
 by_cases p2:p=2
 ·subst p2;have CB:=Qh (ZgR F wb txs ords A c B d 2 HH.out);obtain⟨bl,hbl⟩:∃bl,Zbf ⟨txs,ords,A,c,B,d⟩ 2=bl:=⟨_,rfl⟩;have HV:=Qh (show Zcs ⟨txs,ords,A,c,B,d⟩ 2=decide (0<bl.length) by unfold Zcs;rw[if_pos (by decide),hbl]);rw[hbl]at CB;rw[HV.out];clear hbl
  go_enter Try.func43,Try.ntmps43
  go_wp2_with fail
  refine(CB.out).mono ?_;rintro e w1 ⟨A1,c1,rfl,_,hu1⟩;go_wp2
  go_ret
  exact⟨rfl,U0.out.trans hu1⟩
 by_cases p3:p=3
 ·subst p3;have CB:=Qh (ZgR F wb txs ords A c B d 3 HH.out);obtain⟨bl,hbl⟩:∃bl,Zbf ⟨txs,ords,A,c,B,d⟩ 3=bl:=⟨_,rfl⟩;have HV:=Qh (show Zcs ⟨txs,ords,A,c,B,d⟩ 3=decide (0<bl.length) by unfold Zcs;rw[if_pos (by decide),hbl]);rw[hbl]at CB;rw[HV.out];clear hbl
  go_enter Try.func43,Try.ntmps43
  go_wp2_with fail
  refine(CB.out).mono ?_;rintro e w1 ⟨A1,c1,rfl,_,hu1⟩;go_wp2
  go_ret
  exact⟨rfl,U0.out.trans hu1⟩
 have q2:(p==2)=false:=by simpa using p2
 have q3:(p==3)=false:=by simpa using p3
 have hv:Zcs ⟨txs,ords,A,c,B,d⟩ p=ZdV (ZY (ZK ⟨txs,ords,A,c,B,d⟩)) (ZaT p) (ZbS p):=by unfold Zcs;rw[if_neg (by omega)]
 rw[hv];clear hv;obtain⟨l,hll⟩:∃l,ZK ⟨txs,ords,A,c,B,d⟩=l:=⟨_,rfl⟩;have hfew:=ZgG hl;obtain⟨n1,n2⟩:=ZbD hl;have CE:=Qh (Zie HH.out n1 n2 hll);rw[hll]at hfew ⊢;obtain⟨pl,hpl⟩:∃pl,ZY l=pl:=⟨_,rfl⟩;have hpn:pl.length=l.length:=by rw[←hpl];unfold ZY;rw[List.length_map]
 have HPL:=Qh hpl;rw[hpl];have HPN:=Qh hpn;have HF:=Qh hfew;obtain⟨M,hM⟩:∃M,ZaT p=M:=⟨_,rfl⟩;obtain⟨T,hT⟩:∃T,ZbS p=T:=⟨_,rfl⟩;have PM:=Qh (fun W=>Zk3 W p);have PT:=Qh (fun W=>Zk2 W p);rw[hM]at PM;rw[hT]at PT;rw[hM,hT];clear hM hT hll hpl hpn p2 p3 n1 n2 hfew
 go_enter Try.func43,Try.ntmps43
 go_wp2_with fail
 refine(CE.out).mono ?_;rintro e w1 ⟨A1,c1,rfl,hx1,hu1⟩;have C2:=Qh (Zid (c:=c1) hx1 (by have:=HF.out;omega));rw[HPL.out]at C2
 go_wp2_with fail
 refine(C2.out).mono ?_;rintro e w2 ⟨A2,c2,rfl,⟨G,hx2⟩,hu2⟩
 go_wp2_with fail
 refine(PM.out _).mono ?_;rintro e w3 ⟨rfl,hu3⟩
 go_wp2_with fail
 refine(PT.out _).mono ?_;rintro e w4 ⟨rfl,hu4⟩;have hu34:=hu3.trans hu4;have hu14:=(hu1.trans hu2).trans hu34;have C3:=Qh (Zkc G w4 A2 c2 pl M T (Recs.upd hx2 hu34 (fun _ _=>id)) (by have:=HF.out;have:=HPN.out;omega));clear hx1 hx2 hu1 hu2 hu3 hu4 hu34
 go_wp2_with fail
 refine(C3.out).mono ?_;rintro e w5 ⟨rfl,hu5⟩;go_wp2
 go_ret
 exact⟨rfl,U0.out.trans (hu14.trans hu5)⟩
end
/- Levels:the verdict of a history. -/
section
open Go.RowKit
def ZgQ (f:Int→Bool):Value:= .agg #[.bool (f 0),.bool (f 1),.bool (f 2),.bool (f 3),.bool (f 4),.bool (f 5),.int .i64 (Zhx (f 1) (f 2) (f 3) (f 4) (f 5))]
def Zdp (f:Int→Bool) (k:Nat):List Value:=((List.range 6).map fun i=> .bool (decide (1≤i)&&decide (i≤k)&&f (i:Int)))++[.int .i64 0]
theorem Zjh (f:Int→Bool):Zdp f 0=[.bool false,.bool false,.bool false,.bool false,.bool false,.bool false,.int .i64 0]:=by unfold Zdp;rfl
theorem Zji (f:Int→Bool):Zdp f 5=[.bool false,.bool (f 1),.bool (f 2),.bool (f 3),.bool (f 4),.bool (f 5),.int .i64 0]:=by unfold Zdp;rfl
theorem Zkd (f:Int→Bool) (k:Nat) (hk:k<5):(Zdp f k).set (k+1) (.bool (f ((k+1:Nat):Int)))=Zdp f (k+1):=by
 rcases(show k=0∨k=1∨k=2∨k=3∨k=4 by omega)with rfl|rfl|rfl|rfl|rfl<;>rfl
theorem Zke (f:Int→Bool) (k:Nat) (hk:k<5):∃v,(Zdp f k)[k+1]? =some v:=by
 rcases(show k=0∨k=1∨k=2∨k=3∨k=4 by omega)with rfl|rfl|rfl|rfl|rfl<;>exact⟨_,rfl⟩
set_option maxRecDepth 100000 in
set_option maxHeartbeats 4000000 in
theorem Zkh (F:Nat→Prop) (w:World) (txs:List HTx) (ords:List HOrd) (A:Option Addr) (c:Nat) (B:Option Addr) (d:Nat) (H:Hist.lies F w ⟨txs,ords,A,c,B,d⟩) (hl:ZF ⟨txs,ords,A,c,B,d⟩=true) (hz0:Zcs ⟨txs,ords,A,c,B,d⟩ 0=false):
  Calls Try.prog 22 #[.agg #[.slice A txs.length c,.slice B ords.length d]] w fun e w'=>e= .returned (ZgQ (Zcs ⟨txs,ords,A,c,B,d⟩))∧Upd No w w':=by
 obtain⟨z,hz⟩:∃z,w.heap.size=z:=⟨_,rfl⟩;obtain⟨wh,hwh⟩:∃wh,w.alloc (.cells #[.slice A txs.length c,.slice B ords.length d] 39)=wh:=⟨_,rfl⟩;have sh:wh.heap.size=z+1:=by rw[←hwh,←hz];simp
 obtain⟨wb,hwb⟩:∃wb,wh.alloc (.cells #[.bool false,.bool false,.bool false,.bool false,.bool false,.bool false,.int .i64 0] 25)=wb:=⟨_,rfl⟩;have u1:Upd No w wh:=by rw[←hwh];exact(Upd.refl No w).alloc _
 have u2:Upd No wh wb:=by rw[←hwb];exact(Upd.refl No wh).alloc _
 have bH:Blk wb z 39 [.slice A txs.length c,.slice B ords.length d]:=by
  have:Blk wh z 39 [.slice A txs.length c,.slice B ords.length d]:=by rw[←hwh,←hz];exact Blk.new w _ _
  exact this.upd u2 id
 have bR:Blk wb (z+1) 25 [.bool false,.bool false,.bool false,.bool false,.bool false,.bool false,.int .i64 0]:=by rw[←hwb,←sh];exact Blk.new wh _ _
 have h0:∀W,Upd No wb W→W.cell? ⟨z,0,none⟩=some (.slice A txs.length c):=fun W u=>(bH.upd u id).cell 0
 have h1:∀W,Upd No wb W→W.cell? ⟨z,1,none⟩=some (.slice B ords.length d):=fun W u=>(bH.upd u id).cell 1
 have BR:=Qh bR;have U0:=Qh (u1.trans u2);have HZ:=Qh hz;have GH:=Qh (fun W (u:Upd No w W)=>H.upd u (fun _ _=>id));obtain⟨f,hf⟩:∃f,Zcs ⟨txs,ords,A,c,B,d⟩=f:=⟨_,rfl⟩;have CH:=Qh (fun W (u:Upd No w W) p=>Zms F W txs ords A c B d p (GH.out W u) hl);rw[hf]at CH hz0 ⊢;obtain⟨wc,hwc⟩:∃wc,wb.alloc (.cells #[.bool false,.bool false,.bool false,.bool false,.bool false,.bool false,.int .i64 0] 25)=wc:=⟨_,rfl⟩;have sb:wb.heap.size=z+2:=by rw[←hwb];simp[sh]
 have u3:Upd No wb wc:=by rw[←hwc];exact(Upd.refl No wb).alloc _
 have bV:Blk wc (z+2) 25 (Zdp f 0):=by rw[Zjh,←hwc,←sb];exact Blk.new wb _ _
 have k0:∀W,Upd (One (z+2)) wc W→W.cell? ⟨z,0,none⟩=some (.slice A txs.length c):=fun W u=>((bH.upd u3 id).upd u (by unfold One;omega)).cell 0
 have k1:∀W,Upd (One (z+2)) wc W→W.cell? ⟨z,1,none⟩=some (.slice B ords.length d):=fun W u=>((bH.upd u3 id).upd u (by unfold One;omega)).cell 1
 have BV:=Qh bV;have BRC:=Qh (bR.upd u3 id);have UC:=Qh (U0.out.trans u3);have HF0:=Qh hz0;clear bH bR u1 u2 u3 bV H hl hf h0 h1 hz0
 go_enter Try.func22,Try.ntmps22
 go_wp2;clear hwh hwb hwc sh sb hz
 go_loopg [4] 5 (fun gk i wr=>∃k:Nat,k+gk=5∧i= .int .i64 (((k+1:Nat):Int))∧Hid (Blk wr (z+2) 25 (Zdp f k))∧Hid (Upd (One (z+2)) wc wr))
 case atStart=>exact⟨0,by omega,rfl,BV,Qh (Upd.refl _ _)⟩
 case round=>
  clear BV;obtain⟨k,hgk,rfl,hb,hu⟩:=hrel
  by_cases hk:k<5
  ·have CP:=CH.out wr (UC.out.then_ hu.out (fun i e=>Or.inr (by unfold One at e;have:=HZ.out;omega))) ((k+1:Nat):Int);have HST:=Qh (Zkd f k hk);obtain⟨v0,hv0⟩:=Zke f k hk;obtain⟨PK,hPK⟩:∃PK:Int,((k+1:Nat):Int)=PK:=⟨_,rfl⟩;have HP:=Qh hPK;have hpn:PK.toNat=k+1:=by omega
   rw[hPK]at CP HST ⊢;have l1:PK≤5:=by omega
   have l2:(0:Int)≤PK:=by omega
   have l3:PK<6:=by omega
   have pw:IntKind.i64.wrap (PK+1)=PK+1:=IntWalk.i64_in _ (by omega);have hur:=hu.out;have CP2:=Qh CP;clear hPK CP
   go_wp2_with fail
   refine(CP2.out).mono ?_;rintro e w3 ⟨rfl,hu3⟩;have b3:=hb.out.upd hu3 id;have f3:∀i,w3.frozen? ⟨z+2,i,none⟩=false:=fun i=>b3.free i
   have c3:w3.cell? ⟨z+2,k+1,none⟩=some v0:=by rw[b3.cell];exact hv0
   have HB3:=Qh (HST.out▸b3.set_ (k+1) (.bool (f PK)));have HU3:=Qh ((hu.out.trans (hu3.mono (fun _ _ e=>e.elim))).setOne (k+1) (.bool (f PK)));clear b3 hu3 hb hu CP2 hv0;go_wp2
   go_roundg (gk-1)
   case measure=>omega
   case rel=>exact⟨k+1,by omega,by have:=HP.out;simp;omega,HB3,HU3⟩
  ·obtain rfl:k=5:=by omega
   have b5:=hb.out;rw[Zji]at b5;have CO:=fun W=>Znk W f
   rw[HF0.out]at CO;obtain⟨v1,hv1⟩:∃v,f 1=v:=⟨_,rfl⟩;obtain⟨v2,hv2⟩:∃v,f 2=v:=⟨_,rfl⟩;obtain⟨v3,hv3⟩:∃v,f 3=v:=⟨_,rfl⟩;obtain⟨v4,hv4⟩:∃v,f 4=v:=⟨_,rfl⟩;obtain⟨v5,hv5⟩:∃v,f 5=v:=⟨_,rfl⟩;rw[hv1,hv2,hv3,hv4,hv5]at CO b5;obtain⟨LV,hLV⟩:∃LV,Zhx v1 v2 v3 v4 v5=LV:=⟨_,rfl⟩;rw[hLV]at CO;have HCO:=Qh CO;have HVV:=Qh (show ZgQ f= .agg #[.bool false,.bool v1,.bool v2,.bool v3,.bool v4,.bool v5,.int .i64 LV] by unfold ZgQ;rw[HF0.out,hv1,hv2,hv3,hv4,hv5,hLV]);have a0:=b5.cell 0;have a1:=b5.cell 1;have a2:=b5.cell 2;have a3:=b5.cell 3;have a4:=b5.cell 4;have a5:=b5.cell 5;simp only[Qz,Qs]at a0 a1 a2 a3 a4 a5;have HU:=Qh hu.out;have HB5:=Qh b5;clear hb hu b5 hv1 hv2 hv3 hv4 hv5 hLV CO
   go_wp2_with fail
   refine(HCO.out _).mono ?_;rintro e w5 ⟨rfl,hu5⟩;have b6:=HB5.out.upd hu5 id;have f6:=b6.free 6;have e6:=b6.cell 6;simp only[Qz,Qs]at e6;obtain⟨w6,hw6⟩:∃w6,w5.setCell ⟨z+2,6,none⟩ (.int .i64 LV)=w6:=⟨_,rfl⟩;have b7:Blk w6 (z+2) 25 [.bool false,.bool v1,.bool v2,.bool v3,.bool v4,.bool v5,.int .i64 LV]:=by rw[←hw6];exact b6.set_ 6 (.int .i64 LV)
   have u7:Upd (One (z+2)) wr w6:=by rw[←hw6];exact(hu5.mono (fun _ _ e=>e.elim)).setOne 6 _
   have c0:=b7.cell 0;have c1:=b7.cell 1;have c2:=b7.cell 2;have c3:=b7.cell 3;have c4:=b7.cell 4;have c5:=b7.cell 5;have c6:=b7.cell 6;simp only[Qz,Qs]at c0 c1 c2 c3 c4 c5 c6;have bR:=(BRC.out.upd HU.out (by unfold One;omega)).upd u7 (by unfold One;omega);have k0:=bR.free 0;have k1:=bR.free 1;have k2:=bR.free 2;have k3:=bR.free 3;have k4:=bR.free 4;have k5:=bR.free 5;have k6:=bR.free 6;have d0:=bR.cell 0;have d1:=bR.cell 1;have d2:=bR.cell 2;have d3:=bR.cell 3;have d4:=bR.cell 4;have d5:=bR.cell 5;have d6:=bR.cell 6;simp only[Qz,Qs]at d0 d1 d2 d3 d4 d5 d6;have HBR:=Qh bR;have HU7:=Qh u7;clear b6 b7 u7 bR hu5;go_wp2;obtain⟨b9,u9⟩:=Zdo HBR.out (.bool false) (.bool v1) (.bool v2) (.bool v3) (.bool v4) (.bool v5) (.int .i64 LV);have r0:=b9.cell 0;have r1:=b9.cell 1;have r2:=b9.cell 2;have r3:=b9.cell 3;have r4:=b9.cell 4;have r5:=b9.cell 5;have r6:=b9.cell 6;simp only[Qz,Qs]at r0 r1 r2 r3 r4 r5 r6;refine bodyPost_ret (v:= .agg #[.bool false,.bool v1,.bool v2,.bool v3,.bool v4,.bool v5,.int .i64 LV]) (by simp[results,Try.results22,go_sem,r0,r1,r2,r3,r4,r5,r6]) rfl ⟨by rw[HVV.out],?_⟩;exact(UC.out.then_ (HU.out.trans HU7.out) (fun i e=>Or.inr (by unfold One at e;have:=HZ.out;omega))).then_ u9 (fun i e=>Or.inr (by unfold One at e;have:=HZ.out;omega))
end
/- Phenomena:the answers that the document gives. -/
section
open Go.RowKit
theorem ZmZ (w:World):Calls Try.prog 20 #[] w fun e w'=>∃N,e= .returned (.agg #[.slice (some ⟨N+1+1+1,0,none⟩) 2 2,.slice (some ⟨N+1+1+1+1+1+1,0,none⟩) 2 2])∧(Zo N).lies (fun _=>True) w'∧Upd No w w':=
 (ZmY w).mono fun e w' h=>⟨_,h⟩
def f1:Edge:=⟨1,2,1,0⟩
def f2:Edge:=⟨2,1,3,-1⟩
section
variable {F:Nat→Prop} {w:World} {N:Nat} {p:Int} {b:Bool}
end
end
end Go.Proofs.Ytdbjokfejmgepaa
