/- Right histories: the document's own steps come to what the program tells. -/
import Derived.Test.YtdbjokfejmgepaaRaay
import Derived.Test.YtdbjokfejmgepaaRabg
namespace Go.Proofs.Ytdbjokfejmgepaa
set_option linter.unusedVariables false
set_option linter.unusedSimpArgs false
section
open Go.RowKit
theorem ZgA:∀(l:List HTx) (s:List Int),ZZ s l=ZL s l
 |[],_=>rfl
 |t::l,s=>by
  rw[ZeE,ZlD,ZgA l];rfl
theorem ZjZ (txs:List HTx) (k:Nat) (id:Int):ZfP txs k id=ZhY txs k id:=by
 cases k<;>rfl
theorem ZlY {txs:List HTx} {k:Nat} (hk:k<txs.length):txR txs k txs[k]=Zc1 txs k:=by
 rw[Zlg hk rfl];unfold txR Zeo;rw[ZjZ,ZjB];rfl
theorem Zg2 (txs:List HTx):∀(m k:Nat),k+m=txs.length→(Zbp txs (txs.drop k) k=true↔∀i,k≤i→i<txs.length→Zc1 txs i=true)
 |0,k,hk=>by
  obtain rfl:k=txs.length:=by omega
  rw[List.drop_length];exact⟨fun _ i h1 h2=>by omega,fun _=>rfl⟩
 |m+1,k,hk=>by
  have hlt:k<txs.length:=by omega
  rw[List.drop_eq_getElem_cons hlt,ZdT,Bool.and_eq_true,Zg2 txs m (k+1) (by omega),ZlY hlt]
  constructor
  ·rintro⟨h1,h2⟩ i hi hi2
   by_cases e:i=k
   ·subst e;exact h1
   ·exact h2 i (by omega) hi2
  ·intro h;exact⟨h k (Nat.le_refl _) hlt,fun i hi hi2=>h i (by omega) hi2⟩
theorem Zgp (txs:List HTx) (keys:List Int) (ords:List HOrd) (hl:ords.length=keys.length):∀(m k:Nat),k+m=ords.length→(ZbO txs keys (ords.drop k) k=true↔∀i,k≤i→i<ords.length→ZeP txs keys ords i=true)
 |0,k,hk=>by
  obtain rfl:k=ords.length:=by omega
  rw[List.drop_length];exact⟨fun _ i h1 h2=>by omega,fun _=>rfl⟩
 |m+1,k,hk=>by
  have hlt:k<ords.length:=by omega
  have hlt2:k<keys.length:=by omega
  have hone:(ords[k].key==keys.getD k 0&&(ords[k].txs.length==(wrS ords[k].key [] txs).length&&ords[k].txs.all fun x=>ords[k].txs.count x==(wrS ords[k].key [] txs).count x))=ZeP txs keys ords k:=by
   unfold ZeP Zen;rw[Qg hlt,Qg hlt2,ZmW,List.getD_eq_getElem?_getD,Qg hlt2];rfl
  rw[List.drop_eq_getElem_cons hlt,Zft,hone,Bool.and_eq_true,Zgp txs keys ords hl m (k+1) (by omega)]
  constructor
  ·rintro⟨h1,h2⟩ i hi hi2
   by_cases e:i=k
   ·subst e;exact h1
   ·exact h2 i (by omega) hi2
  ·intro h;exact⟨h k (Nat.le_refl _) hlt,fun i hi hi2=>h i (by omega) hi2⟩
theorem Zjk (h:Hist):ZX h.txs h.ords=Zg h:=by
 rw[←Zjl];unfold ZX Zhc;rw[ZgA]
 have h1:Zbp h.txs h.txs 0=(List.range h.txs.length).all (Zc1 h.txs):=by
  rw[Bool.eq_iff_iff,List.all_eq_true];have:=Zg2 h.txs h.txs.length 0 (by omega);rw[List.drop_zero]at this;rw[this];exact⟨fun k i hi=>k i (Nat.zero_le _) (List.mem_range.1 hi),fun k i _ hi=>k i (List.mem_range.2 hi)⟩
 rw[h1]
 by_cases hl:h.ords.length=(ZL [] h.txs).length
 ·have h2:ZbO h.txs (ZL [] h.txs) h.ords 0=(List.range h.ords.length).all (ZeP h.txs (ZL [] h.txs) h.ords):=by
   rw[Bool.eq_iff_iff,List.all_eq_true];have:=Zgp h.txs (ZL [] h.txs) h.ords hl h.ords.length 0 (by omega);rw[List.drop_zero]at this;rw[this];exact⟨fun k i hi=>k i (Nat.zero_le _) (List.mem_range.1 hi),fun k i _ hi=>k i (List.mem_range.2 hi)⟩
  rw[h2,Bool.and_assoc,Bool.and_assoc]
 ·rw[show(h.ords.length==(ZL [] h.txs).length)=false by simpa using hl];simp
theorem Zik (F:Nat→Prop) (w:World) (txs:List HTx) (ords:List HOrd) (A:Option Addr) (c:Nat) (B:Option Addr) (d:Nat) (H:Hist.lies F w ⟨txs,ords,A,c,B,d⟩):
  Calls Try.prog 55 #[.agg #[.slice A txs.length c,.slice B ords.length d]] w fun e w'=>e= .returned (.bool (Zg ⟨txs,ords,A,c,B,d⟩))∧Upd No w w':=by
 have:=Zmn F w txs ords A c B d H
 rwa [show ZX txs ords=Zg ⟨txs,ords,A,c,B,d⟩ from Zjk ⟨txs,ords,A,c,B,d⟩]at this
theorem Zls {F:Nat→Prop} {w:World} {txs:List HTx} {ords:List HOrd} {A:Option Addr} {c:Nat} {B:Option Addr} {d:Nat} {b:Bool} (H:Hist.lies F w ⟨txs,ords,A,c,B,d⟩) (hb:Zg ⟨txs,ords,A,c,B,d⟩=b):
  Calls Try.prog 55 #[.agg #[.slice A txs.length c,.slice B ords.length d]] w fun e w'=>e= .returned (.bool b)∧Upd No w w':=by subst hb;exact Zik F w txs ords A c B d H
end
/- The document:the reads that may not be. -/
section
open Go.RowKit
theorem Upd.noR {S:Nat→Prop} {a w w':World} (h:Upd S a w) (k:Upd No w w'):Upd S a w':=h.trans_ k fun _ _ t=>t.elim
def Bads (F:Nat→Prop) (w:World) (A:Option Addr) (l:List HBad):Prop:=Recs F w A 5 (l.map HBad.cells)
theorem Bads.at_ {F:Nat→Prop} {w:World} {A:Option Addr} {l:List HBad} (h:Bads F w A l) {k:Nat} (hk:k<l.length):∃ad,A=some ad∧
  w.cell? (ad.add (k*5))=some (.int .i64 l[k].tx)∧w.cell? ⟨(ad.add (k*5)).block,(ad.add (k*5)).off+1,none⟩=some (.int .i64 l[k].place)∧
  w.cell? ⟨(ad.add (k*5)).block,(ad.add (k*5)).off+2,none⟩=some (.int .i64 l[k].of.tx)∧w.cell? ⟨(ad.add (k*5)).block,(ad.add (k*5)).off+3,none⟩=some (.int .i64 l[k].of.key)∧
  w.cell? ⟨(ad.add (k*5)).block,(ad.add (k*5)).off+4,none⟩=some (.int .i64 l[k].of.nth):=by
 have hk':k<(l.map HBad.cells).length:=by simpa using hk
 obtain⟨ad,e,_,_,hc⟩:=Recs.at_ h hk';rw[List.getElem_map]at hc;exact⟨ad,e,by simpa using hc 0 _ rfl,by simpa using hc 1 _ rfl,by simpa using hc 2 _ rfl,by simpa using hc 3 _ rfl,by simpa using hc 4 _ rfl⟩
theorem Bads.upd {F S:Nat→Prop} {w w':World} {A:Option Addr} {l:List HBad} (h:Bads F w A l) (k:Upd S w w') (hn:∀i,F i→¬S i):Bads F w' A l:=Recs.upd h k hn
theorem ZkP {l:List HBad}:∀r∈l.map HBad.cells,r.length=5:=fun r hr=>by
 obtain⟨e,_,rfl⟩:=List.mem_map.1 hr;rfl
theorem Zj5:SlT Try.prog 76 30 5 40:=SlT.mk_ Try.underlying76 (z:= .agg #[.int .i64 0,.int .i64 0,.int .i64 0,.int .i64 0,.int .i64 0]) (by kernel_rfl) rfl (by omega)
theorem ZhW {w':World} {base:Nat} {l:List HBad} {A:Option Addr} {c:Nat} (h:w'.ownsRow base 30 5 (.slice A l.length c) l.length (l.map HBad.cells).flatten):Bads (fun i=>base≤i) w' A l:=by
 have h2:=Recs.of_own (n:=l.length) (c:=c) ZkP (by omega) h;exact Recs.weak h2 fun i _ hi=>(h.lt i hi).1
def ZlS (w:World) (l:List HBad) (e:Ending) (w':World):Prop:=∃A c,e= .returned (.slice A l.length c)∧w'.ownsRow w.heap.size 30 5 (.slice A l.length c) l.length (l.map HBad.cells).flatten∧Upd No w w'
theorem Zi2 (txs:List HTx) (p:Int) (t:HTx) (i:Nat) (acc:List HBad) (o:HOp) (l:List HOp):ZbV txs p t i acc (o::l)=ZbV txs p t (i+1) (if Zbx txs t p o then acc++[⟨t.id,i,ZT o⟩] else acc) l:=rfl
theorem Zi3 (txs:List HTx) (p:Int) (acc:List HBad) (t:HTx) (l:List HTx):ZcA txs p acc (t::l)=ZcA txs p (ZbV txs p t 0 acc t.ops) l:=rfl
theorem ZnM (w:World) (ky tx nt:Int):Calls Try.prog 57 #[.agg #[.bool true,.int .i64 ky,.int .i64 tx,.int .i64 nt]] w fun e w'=>e= .returned (.agg #[.int .i64 tx,.int .i64 ky,.int .i64 nt])∧Upd No w w':=rof w ⟨true,ky,tx,nt⟩
theorem ZgO {txs:List HTx} {t:HTx} {p:Int} {rd:Bool} {ky tx nt:Int} (h:Zbx txs t p ⟨rd,ky,tx,nt⟩=true):rd=true:=by
 unfold Zbx at h
 cases rd
 ·simp at h
 ·rfl
set_option maxRecDepth 100000 in
set_option maxHeartbeats 4000000 in
theorem ZgR (F:Nat→Prop) (w:World) (txs:List HTx) (ords:List HOrd) (A:Option Addr) (c:Nat) (B:Option Addr) (d:Nat) (p:Int) (H:Hist.lies F w ⟨txs,ords,A,c,B,d⟩):
  Calls Try.prog 39 #[.agg #[.slice A txs.length c,.slice B ords.length d],.int .i64 p] w (ZlS w (Zbf ⟨txs,ords,A,c,B,d⟩ p)):=by
 have u0:=(Upd.refl No w).alloc (.cells #[.slice A txs.length c,.slice B ords.length d] 39);have bH:=Qh (Blk.new w 39 [.slice A txs.length c,.slice B ords.length d]);obtain⟨b,hb⟩:∃b,Zg ⟨txs,ords,A,c,B,d⟩=b:=⟨_,rfl⟩;have HR:=Qh (Zls (H.upd u0 (fun _ _=>id)) hb);have U0:=Qh u0;clear u0
 cases b
 ·have HV:=Qh (show([]:List HBad)=Zbf ⟨txs,ords,A,c,B,d⟩ p by unfold Zbf;rw[if_neg (by rw[hb];decide)]);clear hb
  go_enter Try.func39,Try.ntmps39
  go_wp2_with fail
  refine(HR.out).mono ?_;rintro e w1 ⟨rfl,hu1⟩;have HU:=Qh (U0.out.trans hu1);go_wp2
  go_ret
  exact⟨none,0,by rw[←HV.out];rfl,by rw[←HV.out];exact World.ownsRow_nil _ _ _ _,HU.out⟩
 ·have HV:=Qh (show ZcA txs p [] txs=Zbf ⟨txs,ords,A,c,B,d⟩ p by unfold Zbf;rw[if_pos hb])
  have hmany:txs.length≤4096:=by
   unfold Zg at hb;simp only[Bool.and_eq_true,decide_eq_true_eq]at hb;exact hb.1.1.1
  have hlen:=Qh (show∀t∈txs,t.ops.length≤4095 from fun t ht=>ZdU (Zew hb ht).1);clear hb
  go_enter Try.func39,Try.ntmps39
  go_wp2_with fail
  refine(HR.out).mono ?_;rintro e w1 ⟨rfl,hu1⟩;have HU:=Qh (U0.out.trans hu1);have BH:=Qh (bH.out.upd hu1 id);have g0:=BH.out.cell 0;simp only[Qz]at g0;have hzw:=HU.out.size;clear hu1;go_wp2;clear g0
  go_loopg [5,16] txs.length (fun gk s i wr=>∃(k:Nat) (A3:Option Addr) (c3:Nat) (xs:List HBad),k+gk=txs.length∧i= .int .i64 k∧s= .slice A3 xs.length c3∧Hid (ZcA txs p xs (txs.drop k)=ZcA txs p [] txs)∧xs.length≤4095*k∧
   Hid (wr.ownsRow w1.heap.size 30 5 (.slice A3 xs.length c3) xs.length (xs.map HBad.cells).flatten)∧Upd No w1 wr)
  case atStart=>exact⟨0,none,0,[],by omega,rfl,rfl,Qh rfl,by simp,Qh (World.ownsRow_nil _ _ _ _),Upd.refl _ _⟩
  case round=>
   obtain⟨k,A3,c3,xs,hgk,rfl,rfl,hs,hxl,hown,hu1⟩:=hrel
   by_cases hlt:k<txs.length
   ·have hu:=HU.out.trans hu1;obtain⟨ad,hAd,q0,q1,q2⟩:=(H.upd hu (fun _ _=>id)).tx_at hlt;have hlo:=H.tx txs[k] (List.getElem_mem hlt);simp only at hAd q0 q1 q2;obtain⟨x,hx⟩:∃x,txs[k]=x:=⟨_,rfl⟩;rw[hx]at q0 q1 q2 hlo;obtain⟨xi,xd,xo,xA,xc⟩:=x;simp only at q0 q1 q2;subst hAd;have X:=Qh (show txs.drop k=⟨xi,xd,xo,xA,xc⟩::txs.drop (k+1) by rw[←hx];exact List.drop_eq_getElem_cons hlt);have HL:=Qh hlo;have XM:=Qh (show(⟨xi,xd,xo,xA,xc⟩:HTx)∈txs by rw[←hx];exact List.getElem_mem hlt);have b1:(0:Int)≤(k:Int):=Qn _;have b2:(k:Int)<(txs.length:Int):=by omega
    have uA:=hu.alloc (.cells #[.int .i64 xi,.bool xd,.slice xA xo.length xc] 35);clear hx hlo;have hst:=hs.out;rw[X.out,Zi3]at hst;have HST:=Qh hst;have hol:=hlen.out _ XM.out;simp only at hol;have UA:=Qh (hu1.alloc (.cells #[.int .i64 xi,.bool xd,.slice xA xo.length xc] 35));have BT:=Qh (Blk.new wr 35 [.int .i64 xi,.bool xd,.slice xA xo.length xc]);have HO:=Qh (Zc hown.out ((Upd.refl No wr).alloc (.cells #[.int .i64 xi,.bool xd,.slice xA xo.length xc] 35)) (fun _ _=>id));have hzr:=hu1.size;clear hst uA hu;have HOL:=Qh (fun i e=>hown.out.lt i e);have HW1:=Qh fun W (hW:Upd (Own (.slice A3 xs.length c3)) (wr.alloc (.cells #[.int .i64 xi,.bool xd,.slice xA xo.length xc] 35)) W)=>(show Upd No w W from(HU.out.trans UA.out).then_ hW fun i e=> .inr (Nat.le_trans hzw (HOL.out i e).1))
    have HW2:=Qh fun W (hW:Upd (Own (.slice A3 xs.length c3)) (wr.alloc (.cells #[.int .i64 xi,.bool xd,.slice xA xo.length xc] 35)) W)=>(show Upd No w1 W from UA.out.then_ hW fun i e=> .inr (HOL.out i e).1)
    have hnT:¬Own (.slice A3 xs.length c3) wr.heap.size:=fun e=>by have:=(HOL.out _ e).2;omega
    have hnH:¬Own (.slice A3 xs.length c3) w.heap.size:=fun e=>by have:=(HOL.out _ e).1;have:=BH.out.lt;omega
    have HBd:=Qh fun(o:HOp) (j:Nat) (hj:j<xo.length) (ho:xo[j]=o) W (hW:Upd (Own (.slice A3 xs.length c3)) (wr.alloc (.cells #[.int .i64 xi,.bool xd,.slice xA xo.length xc] 35)) W)=>ZnQ F W txs ords (some ad) c B d xi xd xA xc xo j p o (H.upd (HW1.out _ hW) (fun _ _=>id)) (HOps.upd HL.out.1 (HW1.out _ hW) (fun _ _=>id)) HL.out.2.2.1 hj ho
    have HOps1:=Qh fun W (hW:Upd (Own (.slice A3 xs.length c3)) (wr.alloc (.cells #[.int .i64 xi,.bool xd,.slice xA xo.length xc] 35)) W)=>HOps.upd HL.out.1 (HW1.out _ hW) (fun _ _=>id)
    have t0:∀W,Upd (Own (.slice A3 xs.length c3)) (wr.alloc (.cells #[.int .i64 xi,.bool xd,.slice xA xo.length xc] 35)) W→W.cell? ⟨wr.heap.size,0,none⟩=some (.int .i64 xi):=fun W hW=>(BT.out.upd hW hnT).cell 0
    have t1:∀W,Upd (Own (.slice A3 xs.length c3)) (wr.alloc (.cells #[.int .i64 xi,.bool xd,.slice xA xo.length xc] 35)) W→W.cell? ⟨wr.heap.size,1,none⟩=some (.bool xd):=fun W hW=>(BT.out.upd hW hnT).cell 1
    have t2:∀W,Upd (Own (.slice A3 xs.length c3)) (wr.alloc (.cells #[.int .i64 xi,.bool xd,.slice xA xo.length xc] 35)) W→W.cell? ⟨wr.heap.size,2,none⟩=some (.slice xA xo.length xc):=fun W hW=>(BT.out.upd hW hnT).cell 2
    have g0:∀W,Upd (Own (.slice A3 xs.length c3)) (wr.alloc (.cells #[.int .i64 xi,.bool xd,.slice xA xo.length xc] 35)) W→W.cell? ⟨w.heap.size,0,none⟩=some (.slice (some ad) txs.length c):=fun W hW=>((BH.out.upd UA.out id).upd hW hnH).cell 0
    have g1:∀W,Upd (Own (.slice A3 xs.length c3)) (wr.alloc (.cells #[.int .i64 xi,.bool xd,.slice xA xo.length xc] 35)) W→W.cell? ⟨w.heap.size,1,none⟩=some (.slice B ords.length d):=fun W hW=>((BH.out.upd UA.out id).upd hW hnH).cell 1
    have hrefl:Upd (Own (.slice A3 xs.length c3)) (wr.alloc (.cells #[.int .i64 xi,.bool xd,.slice xA xo.length xc] 35)) (wr.alloc (.cells #[.int .i64 xi,.bool xd,.slice xA xo.length xc] 35)):=Upd.refl _ _;have hmul:4095*k≤4095*4096:=Nat.mul_le_mul_left _ (by omega);obtain⟨wo,hwo⟩:∃wo,wo=wr:=⟨_,rfl⟩;subst hwo
    generalize gk=m0 at*
    go_wp2
    go_loopg [5,23] xo.length (fun gm s i wr=>∃(j:Nat) (A4:Option Addr) (c4:Nat) (ys:List HBad),j+gm=xo.length∧i= .int .i64 j∧s= .slice A4 ys.length c4∧Hid (ZbV txs p ⟨xi,xd,xo,xA,xc⟩ j ys (xo.drop j)=ZbV txs p ⟨xi,xd,xo,xA,xc⟩ 0 xs xo)∧ys.length≤xs.length+j∧
     Hid (wr.ownsRow w1.heap.size 30 5 (.slice A4 ys.length c4) ys.length (ys.map HBad.cells).flatten)∧Hid (∀i,Own (.slice A4 ys.length c4) i→Own (.slice A3 xs.length c3) i∨wo.heap.size+1≤i)∧Upd (Own (.slice A3 xs.length c3)) (wo.alloc (.cells #[.int .i64 xi,.bool xd,.slice xA xo.length xc] 35)) wr)
    case atStart=>exact⟨0,A3,c3,xs,by omega,rfl,rfl,Qh rfl,by omega,HO,Qh (fun _=> .inl),hrefl⟩
    case round=>
     obtain⟨j,A4,c4,ys,hgm,rfl,rfl,hs2,hyl,hown2,hgr2,hu2⟩:=hrel;clear hrefl
     by_cases hlt2:j<xo.length
     ·obtain⟨ad2,hAd2,q0,q1,q2,q3⟩:=(HOps1.out _ hu2).at_ hlt2;obtain⟨x,hx⟩:∃x,xo[j]=x:=⟨_,rfl⟩;rw[hx]at q0 q1 q2 q3;obtain⟨rd,ky,tx,nt⟩:=x;simp only at q0 q1 q2 q3;subst hAd2;have Y:=Qh (show xo.drop j=⟨rd,ky,tx,nt⟩::xo.drop (j+1) by rw[←hx];exact List.drop_eq_getElem_cons hlt2);have c1:(0:Int)≤(j:Int):=Qn _;have c2:(j:Int)<(xo.length:Int):=by omega
      have hub:=hu2.alloc (.cells #[.bool rd,.int .i64 ky,.int .i64 tx,.int .i64 nt] 58);have HC:=Qh (HBd.out _ j hlt2 hx _ hub);have BO:=Qh (Blk.new wr 58 [.bool rd,.int .i64 ky,.int .i64 tx,.int .i64 nt]);have HO2:=Qh (Zc hown2.out ((Upd.refl No wr).alloc (.cells #[.bool rd,.int .i64 ky,.int .i64 tx,.int .i64 nt] 58)) (fun _ _=>id));have HLT:=Qh (fun i e=>hown2.out.lt i e);have hz2:=hu2.size;have hzq:=(HW2.out _ hu2).size;simp only[World.size_alloc]at hz2;have hst:=hs2.out;rw[Y.out,Zi2]at hst;obtain⟨b,hb⟩:∃b,Zbx txs ⟨xi,xd,xo,some ad2,xc⟩ p ⟨rd,ky,tx,nt⟩=b:=⟨_,rfl⟩;rw[hb]at HC hst;clear hx
      cases b
      ·have HS:=Qh (show ZbV txs p ⟨xi,xd,xo,some ad2,xc⟩ (j+1) ys (xo.drop (j+1))=ZbV txs p ⟨xi,xd,xo,some ad2,xc⟩ 0 xs xo from hst);clear hst hb
       go_wp2_with fail
       refine(HC.out).mono ?_;rintro e w3 ⟨rfl,hu3⟩;have HO3:=Qh (Zc HO2.out hu3 (fun _ _=>id));have HU3:=Qh (hub.noR hu3);clear hub hu3;go_wp2
       go_roundg (gk-1)
       case measure=>omega
       case rel=>exact⟨j+1,A4,c4,ys,by omega,by go_num,rfl,HS,by omega,HO3,hgr2,HU3.out⟩
      ·have HS:=Qh (show ZbV txs p ⟨xi,xd,xo,some ad2,xc⟩ (j+1) (ys++[⟨xi,(j:Int),⟨tx,ky,nt⟩⟩]) (xo.drop (j+1))=ZbV txs p ⟨xi,xd,xo,some ad2,xc⟩ 0 xs xo by
        rw[←hst,if_pos rfl];have:=ZgO hb;subst this;rfl)
       have hrd:=ZgO hb;subst hrd;clear hst hb
       go_wp2_with fail
       refine(HC.out).mono ?_;rintro e w3 ⟨rfl,hu3⟩;have HO3:=Qh (Zc HO2.out hu3 (fun _ _=>id));have HU3:=Qh (hub.noR hu3);have BO3:=Qh (BO.out.upd hu3 id);have hz3:=hu3.size;simp only[World.size_alloc]at hz3;have hnO:¬Own (.slice A4 ys.length c4) wr.heap.size:=fun e=>by have:=(HLT.out _ e).2;omega
       have hnT4:¬Own (.slice A4 ys.length c4) wo.heap.size:=fun e=>by
        rcases hgr2.out _ e with e|e
        ·exact hnT e
        ·omega
       have o0:∀W,Upd (Own (.slice A4 ys.length c4)) w3 W→W.cell? ⟨wr.heap.size,0,none⟩=some (.bool true):=fun W hW=>(BO3.out.upd hW hnO).cell 0
       have o1:∀W,Upd (Own (.slice A4 ys.length c4)) w3 W→W.cell? ⟨wr.heap.size,1,none⟩=some (.int .i64 ky):=fun W hW=>(BO3.out.upd hW hnO).cell 1
       have o2:∀W,Upd (Own (.slice A4 ys.length c4)) w3 W→W.cell? ⟨wr.heap.size,2,none⟩=some (.int .i64 tx):=fun W hW=>(BO3.out.upd hW hnO).cell 2
       have o3:∀W,Upd (Own (.slice A4 ys.length c4)) w3 W→W.cell? ⟨wr.heap.size,3,none⟩=some (.int .i64 nt):=fun W hW=>(BO3.out.upd hW hnO).cell 3
       have s0:∀W,Upd (Own (.slice A4 ys.length c4)) w3 W→W.cell? ⟨wo.heap.size,0,none⟩=some (.int .i64 xi):=fun W hW=>by
        have h0:=t0 _ HU3.out;exact hW.keep h0 hnT4
       have HGR:=Qh (fun i e=>(HLT.out i e).1);clear hub hu3 t0 t1 t2 g0 g1;go_wp2;refine wp_region_noPanic ?_;refine wp_region_held_drew (S:=(fun w'=>Upd (Own (.slice A4 ys.length c4)) w3 w')) (by kernel_rfl) ?_ (fun hHeld=> ?_)
       ·(first|exact(Upd.refl _ _).drew|exact hHeld.noR hu4|exact hHeld.alloc _|exact hU6)
       refine wpK 0 rfl ?_;refine wpK 1 rfl ?_;refine wpK 2 rfl ?_;refine wpK 3 rfl ?_;refine wpK 4 rfl ?_;refine wpR [5] ?_;refine wpC rfl (fun K hK=> ?_) AllReadyH.nil;go_simp
       (first
  |(go_at_call 57;refine(ZnM _ ky tx nt).mono ?_;rintro e w4 ⟨rfl,hu4⟩;have ho4:=Zc HO3.out hu4.of_drew (fun _ _=>id);have hz4:=hu4.of_drew.size))
       try (go_wp2_with fail)
       refine hK.out _ _ ?_ (fun hHeld=> ?_)
       ·(first|exact(Upd.refl _ _).drew|exact hHeld.noR hu4|exact hHeld.alloc _|exact hU6)
       clear hK K
       try simp only[Act.put,sT,sS,sZ]
       refine wpK 6 rfl ?_;refine wpR [7] ?_;refine wpC rfl (fun K hK=> ?_) AllReadyH.nil;go_simp;refine hK.out _ _ ?_ (fun hHeld=> ?_)
       ·(first|exact(Upd.refl _ _).drew|exact hHeld.noR hu4|exact hHeld.alloc _|exact hU6)
       clear hK K
       try simp only[Act.put,sT,sS,sZ]
       refine wpR [8] ?_;refine wpC rfl (fun K hK=> ?_) AllReadyH.nil
       (first
  |(refine Zja (by rfl) (by rfl) Zj5 (v:= .slice A4 ys.length c4) (cells:=[.int .i64 xi,.int .i64 (j:Int),.int .i64 tx,.int .i64 ky,.int .i64 nt]) (by rfl) (by rfl) (by exact ho4.alloc _) rfl (by exact Zbu) (by rfl) (by omega) (by omega) (by simp;omega) ?_;intro g6 c6 w6 hown6 hu6 hg6 hlt6;have hU6:Upd (Own (.slice A4 ys.length c4)) w3 w6:=hHeld.trans hu6))
       refine hK.out _ _ ?_ (fun hHeld=> ?_)
       ·(first|exact(Upd.refl _ _).drew|exact hHeld.noR hu4|exact hHeld.alloc _|exact hU6)
       clear hK K
       try simp only[Act.put,sT,sS,sZ]
       refine wpK 9 rfl ?_;refine wpD (NoPanic.normal ?_)
       have HU6:=Qh (HU3.out.then_ hHeld fun i e=>by
        rcases hgr2.out i e with e|e
        ·exact .inl e
        ·exact .inr (by simp only[World.size_alloc];exact e))
       have HG6:=Qh (show∀i,Own (.slice (some ⟨g6,0,none⟩) (ys.length+1) c6) i→Own (.slice A3 xs.length c3) i∨wo.heap.size+1≤i from fun i e=>by
        rcases hg6 with h|⟨k6,hk6,hlk⟩
        ·exact hgr2.out i (h.symm.trans e)
        ·have e2:(some k6:Option Nat)=some i:=hk6.symm.trans e
         cases e2
         simp only[World.size_alloc]at hlk;exact .inr (by omega))
       clear hHeld o0 o1 o2 o3 s0 hg6;go_wp2
       go_roundg (gk-1)
       case measure=>omega
       case rel=>exact⟨j+1,some ⟨g6,0,none⟩,c6,ys++[⟨xi,(j:Int),⟨tx,ky,nt⟩⟩],by omega,by go_num,by simp,HS,by simp;omega,Qh (by simpa[HBad.cells]using hown6),Qh (by simpa using HG6.out),HU6.out⟩
     ·obtain rfl:j=xo.length:=by omega
      have HS:=Qh (show ZcA txs p ys (txs.drop (k+1))=ZcA txs p [] txs by
       have:=hs2.out;rw[List.drop_length]at this;rw[←HST.out,←this];rfl)
      go_wp2
      go_roundg (m0-1)
      case measure=>omega
      case rel=>exact⟨k+1,A4,c4,ys,by omega,by go_num,rfl,HS,by omega,hown2,HW2.out _ hu2⟩
   ·obtain rfl:k=txs.length:=by omega
    have HS:=Qh (show xs=Zbf ⟨txs,ords,A,c,B,d⟩ p by rw[←HV.out,←hs.out,List.drop_length];rfl);go_wp2
    go_ret
    exact⟨A3,c3,by rw[←HS.out];rfl,by rw[←HS.out];exact Z1 hown.out hzw,HU.out.trans hu1⟩
end
end Go.Proofs.Ytdbjokfejmgepaa
