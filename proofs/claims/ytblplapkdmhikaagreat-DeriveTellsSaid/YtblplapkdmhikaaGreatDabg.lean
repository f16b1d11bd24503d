/- The document: the reads that may not be. -/
import Derived.Test.YtblplapkdmhikaaGreatDabf
namespace Go.Proofs.YtblplapkdmhikaaGreat
set_option linter.unusedVariables false
set_option linter.unusedSimpArgs false
section
open Go.RowKit
theorem Upd.noR {S:Nat→Prop} {a w w':World} (h:Upd S a w) (k:Upd No w w'):Upd S a w':=h.trans_ k fun _ _ t=>t.elim
def Bads (F:Nat→Prop) (w:World) (A:Option Addr) (l:List HBad):Prop:=Recs F w A 5 (l.map HBad.cells)
theorem Bads.at_ {F:Nat→Prop} {w:World} {A:Option Addr} {l:List HBad} (h:Bads F w A l) {k:Nat} (hk:k<l.length):∃ad,A=some ad∧
  w.cell? (ad.add (k*5))=some (.int .i64 l[k].tx)∧w.cell? ⟨(ad.add (k*5)).block,(ad.add (k*5)).off+1,none⟩=some (.int .i64 l[k].place)∧
  w.cell? ⟨(ad.add (k*5)).block,(ad.add (k*5)).off+2,none⟩=some (.int .i64 l[k].of.tx)∧w.cell? ⟨(ad.add (k*5)).block,(ad.add (k*5)).off+3,none⟩=some (.int .i64 l[k].of.key)∧
  w.cell? ⟨(ad.add (k*5)).block,(ad.add (k*5)).off+4,none⟩=some (.int .i64 l[k].of.nth):=by
 have hk':k<(l.map HBad.cells).length:=by simpa using hk
 obtain⟨ad,e,_,_,hc⟩:=Recs.at_ h hk';rw[List.getElem_map]at hc;exact⟨ad,e,by simpa using hc 0 _ rfl,by simpa using hc 1 _ rfl,by simpa using hc 2 _ rfl,by simpa using hc 3 _ rfl,by simpa using hc 4 _ rfl⟩
theorem Bads.upd {F S:Nat→Prop} {w w':World} {A:Option Addr} {l:List HBad} (h:Bads F w A l) (k:Upd S w w') (hn:∀i,F i→¬S i):Bads F w' A l:=Recs.upd h k hn
theorem Zbn {l:List HBad}:∀r∈l.map HBad.cells,r.length=5:=fun r hr=>by
 obtain⟨e,_,rfl⟩:=List.mem_map.1 hr;rfl
theorem Zcy:SlT Tryz.prog 67 38 5 40:=SlT.mk_ Tryz.underlying67 (z:= .agg #[.int .i64 0,.int .i64 0,.int .i64 0,.int .i64 0,.int .i64 0]) (by kernel_rfl) rfl (by omega)
theorem Zjj (w:World) (x y:HBad):(binOp .eql 38 (.agg #[.int .i64 x.tx,.int .i64 x.place,.int .i64 x.of.tx,.int .i64 x.of.key,.int .i64 x.of.nth]) (.agg #[.int .i64 y.tx,.int .i64 y.place,.int .i64 y.of.tx,.int .i64 y.of.key,.int .i64 y.of.nth])).run Tryz.prog w= .ok (.bool (x==y)) w:=by
 have:=Zhp w x y;unfold Zip at this;rw[run_eql_struct,this];simp only[Result.andThen]
 by_cases h:x=y<;>simp[h]
theorem ZbU {w':World} {base:Nat} {l:List HBad} {A:Option Addr} {c:Nat} (h:w'.ownsRow base 38 5 (.slice A l.length c) l.length (l.map HBad.cells).flatten):Bads (fun i=>base≤i) w' A l:=by
 have h2:=Recs.of_own (n:=l.length) (c:=c) Zbn (by omega) h;exact Recs.weak h2 fun i _ hi=>(h.lt i hi).1
set_option maxRecDepth 100000 in
set_option maxHeartbeats 1000000 in
theorem ZoF (F:Nat→Prop) (w:World) (A:Option Addr) (c:Nat) (l:List HBad) (v:HBad) (h:Bads F w A l) (hl:l.length≤100000000):
  Calls Tryz.prog 101 #[.slice A l.length c,.agg v.cells.toArray] w fun e w'=>e= .returned (.bool (l.contains v))∧Upd No w w':=by
 obtain⟨vx,vp,⟨vt,vk,vn⟩⟩:=v;unfold HBad.cells;simp only;have bv:=Qh (Blk.new w 38 [.int .i64 vx,.int .i64 vp,.int .i64 vt,.int .i64 vk,.int .i64 vn]);have uT:=(Upd.refl No w).alloc (.cells #[.int .i64 vx,.int .i64 vp,.int .i64 vt,.int .i64 vk,.int .i64 vn] 38)
 go_enter Tryz.func101,Tryz.ntmps101
 go_wp2
 go_loopg [9] l.length (fun gk i wr=>∃(k:Nat),k+gk=l.length∧i= .int .i64 k∧Hid ((l.drop k).contains ⟨vx,vp,⟨vt,vk,vn⟩⟩=l.contains ⟨vx,vp,⟨vt,vk,vn⟩⟩)∧Upd No (w.alloc (.cells #[.int .i64 vx,.int .i64 vp,.int .i64 vt,.int .i64 vk,.int .i64 vn] 38)) wr)
 case atStart=>exact⟨0,by omega,rfl,Qh rfl,Upd.refl _ _⟩
 case round=>
  obtain⟨k,hgk,rfl,hs,hu⟩:=hrel
  by_cases hlt:k<l.length
  ·obtain⟨ad,hAd,q0,q1,q2,q3,q4⟩:=(h.upd (uT.trans hu) (fun _ _=>id)).at_ hlt;obtain⟨x,hx⟩:∃x,l[k]=x:=⟨_,rfl⟩;rw[hx]at q0 q1 q2 q3 q4;obtain⟨xx,xp,⟨xt,xk,xn⟩⟩:=x;simp only at q0 q1 q2 q3 q4;subst hAd;have X:=Qh (show l.drop k=⟨xx,xp,⟨xt,xk,xn⟩⟩::l.drop (k+1) by rw[←hx];exact List.drop_eq_getElem_cons hlt);have b1:(0:Int)≤(k:Int):=Qn _;have b2:(k:Int)<(l.length:Int):=by omega
   clear hx;have uA:=(Upd.refl No wr).alloc (.cells #[.int .i64 xx,.int .i64 xp,.int .i64 xt,.int .i64 xk,.int .i64 xn] 38);have bb:=(bv.out.upd hu id).upd uA id;have v0:=bb.cell 0;have v1:=bb.cell 1;have v2:=bb.cell 2;have v3:=bb.cell 3;have v4:=bb.cell 4;simp only[Qz,Qs]at v0 v1 v2 v3 v4;have HE:=fun W=>Zjj W ⟨xx,xp,⟨xt,xk,xn⟩⟩ ⟨vx,vp,⟨vt,vk,vn⟩⟩
   simp only at HE;have hst:=hs.out;rw[X.out,List.contains_cons]at hst;clear bb
   by_cases hxv:(⟨xx,xp,⟨xt,xk,xn⟩⟩:HBad)=⟨vx,vp,⟨vt,vk,vn⟩⟩
   ·have HV:=Qh (show l.contains (⟨vx,vp,⟨vt,vk,vn⟩⟩:HBad)=true by rw[←hst,hxv];simp);have he:((⟨xx,xp,⟨xt,xk,xn⟩⟩:HBad)==⟨vx,vp,⟨vt,vk,vn⟩⟩)=true:=by rw[beq_iff_eq];exact hxv
    rw[he]at HE;clear hst hxv he;go_wp2
    go_ret
    exact⟨by rw[HV.out];rfl,(uT.trans hu).trans uA⟩
   ·have he:((⟨xx,xp,⟨xt,xk,xn⟩⟩:HBad)==⟨vx,vp,⟨vt,vk,vn⟩⟩)=false:=by rw[beq_eq_false_iff_ne];exact hxv
    have he2:((⟨vx,vp,⟨vt,vk,vn⟩⟩:HBad)==⟨xx,xp,⟨xt,xk,xn⟩⟩)=false:=by rw[beq_eq_false_iff_ne];exact fun e=>hxv e.symm
    rw[he2,Bool.false_or]at hst;have HV:=Qh hst;rw[he]at HE;clear hst hxv he he2;go_wp2
    go_roundg (gk-1)
    case measure=>omega
    case rel=>exact⟨k+1,by omega,by go_num,HV,hu.trans uA⟩
  ·obtain rfl:k=l.length:=by omega
   have HV:=Qh (show l.contains (⟨vx,vp,⟨vt,vk,vn⟩⟩:HBad)=false by rw[←hs.out,List.drop_length];rfl);go_wp2
   go_ret
   exact⟨by rw[HV.out];rfl,uT.trans hu⟩
def Zbb (w:World) (l:List HBad) (e:Ending) (w':World):Prop:=∃A c,e= .returned (.slice A l.length c)∧w'.ownsRow w.heap.size 38 5 (.slice A l.length c) l.length (l.map HBad.cells).flatten∧Upd No w w'
theorem Zf8 (txs:List HTx) (p:Int) (t:HTx) (i:Nat) (acc:List HBad) (o:HOp) (l:List HOp):Zad txs p t i acc (o::l)=Zad txs p t (i+1) (if Zab txs t p o then acc++[⟨t.id,i,Zn o⟩] else acc) l:=rfl
theorem Zf9 (txs:List HTx) (p:Int) (acc:List HBad) (t:HTx) (l:List HTx):ZaG txs p acc (t::l)=ZaG txs p (Zad txs p t 0 acc t.ops) l:=rfl
theorem Zpb (w:World) (ky tx nt:Int):Calls Tryz.prog 97 #[.agg #[.bool true,.int .i64 ky,.int .i64 tx,.int .i64 nt]] w fun e w'=>e= .returned (.agg #[.int .i64 tx,.int .i64 ky,.int .i64 nt])∧Upd No w w':=rof w ⟨true,ky,tx,nt⟩
theorem Zhq {txs:List HTx} {t:HTx} {p:Int} {rd:Bool} {ky tx nt:Int} (h:Zab txs t p ⟨rd,ky,tx,nt⟩=true):rd=true:=by
 unfold Zab at h
 cases rd
 ·simp at h
 ·rfl
set_option maxRecDepth 100000 in
set_option maxHeartbeats 4000000 in
theorem Zmy (F:Nat→Prop) (w:World) (txs:List HTx) (ords:List HOrd) (A:Option Addr) (c:Nat) (B:Option Addr) (d:Nat) (p:Int) (H:Hist.lies F w ⟨txs,ords,A,c,B,d⟩):
  Calls Tryz.prog 28 #[.agg #[.slice A txs.length c,.slice B ords.length d],.int .i64 p] w (Zbb w (ZE ⟨txs,ords,A,c,B,d⟩ p)):=by
 have u0:=(Upd.refl No w).alloc (.cells #[.slice A txs.length c,.slice B ords.length d] 29);have bH:=Qh (Blk.new w 29 [.slice A txs.length c,.slice B ords.length d]);obtain⟨b,hb⟩:∃b,Za ⟨txs,ords,A,c,B,d⟩=b:=⟨_,rfl⟩;have HR:=Qh (Zc9 (H.upd u0 (fun _ _=>id)) hb);have U0:=Qh u0;clear u0
 cases b
 ·have HV:=Qh (show([]:List HBad)=ZE ⟨txs,ords,A,c,B,d⟩ p by unfold ZE;rw[if_neg (by rw[hb];decide)]);clear hb
  go_enter Tryz.func28,Tryz.ntmps28
  go_wp2_with fail
  refine(HR.out).mono ?_;rintro e w1 ⟨rfl,hu1⟩;have HU:=Qh (U0.out.trans hu1);go_wp2
  go_ret
  exact⟨none,0,by rw[←HV.out];rfl,by rw[←HV.out];exact World.ownsRow_nil _ _ _ _,HU.out⟩
 ·have HV:=Qh (show ZaG txs p [] txs=ZE ⟨txs,ords,A,c,B,d⟩ p by unfold ZE;rw[if_pos hb])
  have hmany:txs.length≤4096:=by
   unfold Za at hb;simp only[Bool.and_eq_true,decide_eq_true_eq]at hb;exact hb.1.1.1
  have hlen:=Qh (show∀t∈txs,t.ops.length≤4095 from fun t ht=>ZcO (Za9 hb ht).1);clear hb
  go_enter Tryz.func28,Tryz.ntmps28
  go_wp2_with fail
  refine(HR.out).mono ?_;rintro e w1 ⟨rfl,hu1⟩;have HU:=Qh (U0.out.trans hu1);have BH:=Qh (bH.out.upd hu1 id);have g0:=BH.out.cell 0;simp only[Qz]at g0;have hzw:=HU.out.size;clear hu1;go_wp2;clear g0
  go_loopg [5,16] txs.length (fun gk s i wr=>∃(k:Nat) (A3:Option Addr) (c3:Nat) (xs:List HBad),k+gk=txs.length∧i= .int .i64 k∧s= .slice A3 xs.length c3∧Hid (ZaG txs p xs (txs.drop k)=ZaG txs p [] txs)∧xs.length≤4095*k∧
   Hid (wr.ownsRow w1.heap.size 38 5 (.slice A3 xs.length c3) xs.length (xs.map HBad.cells).flatten)∧Upd No w1 wr)
  case atStart=>exact⟨0,none,0,[],by omega,rfl,rfl,Qh rfl,by simp,Qh (World.ownsRow_nil _ _ _ _),Upd.refl _ _⟩
  case round=>
   obtain⟨k,A3,c3,xs,hgk,rfl,rfl,hs,hxl,hown,hu1⟩:=hrel
   by_cases hlt:k<txs.length
   ·have hu:=HU.out.trans hu1;obtain⟨ad,hAd,q0,q1,q2⟩:=(H.upd hu (fun _ _=>id)).tx_at hlt;have hlo:=H.tx txs[k] (List.getElem_mem hlt);simp only at hAd q0 q1 q2;obtain⟨x,hx⟩:∃x,txs[k]=x:=⟨_,rfl⟩;rw[hx]at q0 q1 q2 hlo;obtain⟨xi,xd,xo,xA,xc⟩:=x;simp only at q0 q1 q2;subst hAd;have X:=Qh (show txs.drop k=⟨xi,xd,xo,xA,xc⟩::txs.drop (k+1) by rw[←hx];exact List.drop_eq_getElem_cons hlt);have HL:=Qh hlo;have XM:=Qh (show(⟨xi,xd,xo,xA,xc⟩:HTx)∈txs by rw[←hx];exact List.getElem_mem hlt);have b1:(0:Int)≤(k:Int):=Qn _;have b2:(k:Int)<(txs.length:Int):=by omega
    have uA:=hu.alloc (.cells #[.int .i64 xi,.bool xd,.slice xA xo.length xc] 81);clear hx hlo;have hst:=hs.out;rw[X.out,Zf9]at hst;have HST:=Qh hst;have hol:=hlen.out _ XM.out;simp only at hol;have UA:=Qh (hu1.alloc (.cells #[.int .i64 xi,.bool xd,.slice xA xo.length xc] 81));have BT:=Qh (Blk.new wr 81 [.int .i64 xi,.bool xd,.slice xA xo.length xc]);have HO:=Qh (Zb hown.out ((Upd.refl No wr).alloc (.cells #[.int .i64 xi,.bool xd,.slice xA xo.length xc] 81)) (fun _ _=>id));have hzr:=hu1.size;clear hst uA hu;have HOL:=Qh (fun i e=>hown.out.lt i e);have HW1:=Qh fun W (hW:Upd (Own (.slice A3 xs.length c3)) (wr.alloc (.cells #[.int .i64 xi,.bool xd,.slice xA xo.length xc] 81)) W)=>(show Upd No w W from(HU.out.trans UA.out).then_ hW fun i e=> .inr (Nat.le_trans hzw (HOL.out i e).1))
    have HW2:=Qh fun W (hW:Upd (Own (.slice A3 xs.length c3)) (wr.alloc (.cells #[.int .i64 xi,.bool xd,.slice xA xo.length xc] 81)) W)=>(show Upd No w1 W from UA.out.then_ hW fun i e=> .inr (HOL.out i e).1)
    have hnT:¬Own (.slice A3 xs.length c3) wr.heap.size:=fun e=>by have:=(HOL.out _ e).2;omega
    have hnH:¬Own (.slice A3 xs.length c3) w.heap.size:=fun e=>by have:=(HOL.out _ e).1;have:=BH.out.lt;omega
    have HBd:=Qh fun(o:HOp) (j:Nat) (hj:j<xo.length) (ho:xo[j]=o) W (hW:Upd (Own (.slice A3 xs.length c3)) (wr.alloc (.cells #[.int .i64 xi,.bool xd,.slice xA xo.length xc] 81)) W)=>Zpe F W txs ords (some ad) c B d xi xd xA xc xo j p o (H.upd (HW1.out _ hW) (fun _ _=>id)) (HOps.upd HL.out.1 (HW1.out _ hW) (fun _ _=>id)) HL.out.2.2.1 hj ho
    have HOps1:=Qh fun W (hW:Upd (Own (.slice A3 xs.length c3)) (wr.alloc (.cells #[.int .i64 xi,.bool xd,.slice xA xo.length xc] 81)) W)=>HOps.upd HL.out.1 (HW1.out _ hW) (fun _ _=>id)
    have t0:∀W,Upd (Own (.slice A3 xs.length c3)) (wr.alloc (.cells #[.int .i64 xi,.bool xd,.slice xA xo.length xc] 81)) W→W.cell? ⟨wr.heap.size,0,none⟩=some (.int .i64 xi):=fun W hW=>(BT.out.upd hW hnT).cell 0
    have t1:∀W,Upd (Own (.slice A3 xs.length c3)) (wr.alloc (.cells #[.int .i64 xi,.bool xd,.slice xA xo.length xc] 81)) W→W.cell? ⟨wr.heap.size,1,none⟩=some (.bool xd):=fun W hW=>(BT.out.upd hW hnT).cell 1
    have t2:∀W,Upd (Own (.slice A3 xs.length c3)) (wr.alloc (.cells #[.int .i64 xi,.bool xd,.slice xA xo.length xc] 81)) W→W.cell? ⟨wr.heap.size,2,none⟩=some (.slice xA xo.length xc):=fun W hW=>(BT.out.upd hW hnT).cell 2
    have g0:∀W,Upd (Own (.slice A3 xs.length c3)) (wr.alloc (.cells #[.int .i64 xi,.bool xd,.slice xA xo.length xc] 81)) W→W.cell? ⟨w.heap.size,0,none⟩=some (.slice (some ad) txs.length c):=fun W hW=>((BH.out.upd UA.out id).upd hW hnH).cell 0
    have g1:∀W,Upd (Own (.slice A3 xs.length c3)) (wr.alloc (.cells #[.int .i64 xi,.bool xd,.slice xA xo.length xc] 81)) W→W.cell? ⟨w.heap.size,1,none⟩=some (.slice B ords.length d):=fun W hW=>((BH.out.upd UA.out id).upd hW hnH).cell 1
    have hrefl:Upd (Own (.slice A3 xs.length c3)) (wr.alloc (.cells #[.int .i64 xi,.bool xd,.slice xA xo.length xc] 81)) (wr.alloc (.cells #[.int .i64 xi,.bool xd,.slice xA xo.length xc] 81)):=Upd.refl _ _;have hmul:4095*k≤4095*4096:=Nat.mul_le_mul_left _ (by omega);obtain⟨wo,hwo⟩:∃wo,wo=wr:=⟨_,rfl⟩;subst hwo
    generalize gk=m0 at*
    go_wp2
    go_loopg [5,23] xo.length (fun gm s i wr=>∃(j:Nat) (A4:Option Addr) (c4:Nat) (ys:List HBad),j+gm=xo.length∧i= .int .i64 j∧s= .slice A4 ys.length c4∧Hid (Zad txs p ⟨xi,xd,xo,xA,xc⟩ j ys (xo.drop j)=Zad txs p ⟨xi,xd,xo,xA,xc⟩ 0 xs xo)∧ys.length≤xs.length+j∧
     Hid (wr.ownsRow w1.heap.size 38 5 (.slice A4 ys.length c4) ys.length (ys.map HBad.cells).flatten)∧Hid (∀i,Own (.slice A4 ys.length c4) i→Own (.slice A3 xs.length c3) i∨wo.heap.size+1≤i)∧Upd (Own (.slice A3 xs.length c3)) (wo.alloc (.cells #[.int .i64 xi,.bool xd,.slice xA xo.length xc] 81)) wr)
    case atStart=>exact⟨0,A3,c3,xs,by omega,rfl,rfl,Qh rfl,by omega,HO,Qh (fun _=> .inl),hrefl⟩
    case round=>
     obtain⟨j,A4,c4,ys,hgm,rfl,rfl,hs2,hyl,hown2,hgr2,hu2⟩:=hrel;clear hrefl
     by_cases hlt2:j<xo.length
     ·obtain⟨ad2,hAd2,q0,q1,q2,q3⟩:=(HOps1.out _ hu2).at_ hlt2;obtain⟨x,hx⟩:∃x,xo[j]=x:=⟨_,rfl⟩;rw[hx]at q0 q1 q2 q3;obtain⟨rd,ky,tx,nt⟩:=x;simp only at q0 q1 q2 q3;subst hAd2;have Y:=Qh (show xo.drop j=⟨rd,ky,tx,nt⟩::xo.drop (j+1) by rw[←hx];exact List.drop_eq_getElem_cons hlt2);have c1:(0:Int)≤(j:Int):=Qn _;have c2:(j:Int)<(xo.length:Int):=by omega
      have hub:=hu2.alloc (.cells #[.bool rd,.int .i64 ky,.int .i64 tx,.int .i64 nt] 95);have HC:=Qh (HBd.out _ j hlt2 hx _ hub);have BO:=Qh (Blk.new wr 95 [.bool rd,.int .i64 ky,.int .i64 tx,.int .i64 nt]);have HO2:=Qh (Zb hown2.out ((Upd.refl No wr).alloc (.cells #[.bool rd,.int .i64 ky,.int .i64 tx,.int .i64 nt] 95)) (fun _ _=>id));have HLT:=Qh (fun i e=>hown2.out.lt i e);have hz2:=hu2.size;have hzq:=(HW2.out _ hu2).size;simp only[World.size_alloc]at hz2;have hst:=hs2.out;rw[Y.out,Zf8]at hst;obtain⟨b,hb⟩:∃b,Zab txs ⟨xi,xd,xo,some ad2,xc⟩ p ⟨rd,ky,tx,nt⟩=b:=⟨_,rfl⟩;rw[hb]at HC hst;clear hx
      cases b
      ·have HS:=Qh (show Zad txs p ⟨xi,xd,xo,some ad2,xc⟩ (j+1) ys (xo.drop (j+1))=Zad txs p ⟨xi,xd,xo,some ad2,xc⟩ 0 xs xo from hst);clear hst hb
       go_wp2_with fail
       refine(HC.out).mono ?_;rintro e w3 ⟨rfl,hu3⟩;have HO3:=Qh (Zb HO2.out hu3 (fun _ _=>id));have HU3:=Qh (hub.noR hu3);clear hub hu3;go_wp2
       go_roundg (gk-1)
       case measure=>omega
       case rel=>exact⟨j+1,A4,c4,ys,by omega,by go_num,rfl,HS,by omega,HO3,hgr2,HU3.out⟩
      ·have HS:=Qh (show Zad txs p ⟨xi,xd,xo,some ad2,xc⟩ (j+1) (ys++[⟨xi,(j:Int),⟨tx,ky,nt⟩⟩]) (xo.drop (j+1))=Zad txs p ⟨xi,xd,xo,some ad2,xc⟩ 0 xs xo by
        rw[←hst,if_pos rfl];have:=Zhq hb;subst this;rfl)
       have hrd:=Zhq hb;subst hrd;clear hst hb
       go_wp2_with fail
       refine(HC.out).mono ?_;rintro e w3 ⟨rfl,hu3⟩;have HO3:=Qh (Zb HO2.out hu3 (fun _ _=>id));have HU3:=Qh (hub.noR hu3);have BO3:=Qh (BO.out.upd hu3 id);have hz3:=hu3.size;simp only[World.size_alloc]at hz3;have hnO:¬Own (.slice A4 ys.length c4) wr.heap.size:=fun e=>by have:=(HLT.out _ e).2;omega
       have hnT4:¬Own (.slice A4 ys.length c4) wo.heap.size:=fun e=>by
        rcases hgr2.out _ e with e|e
        ·exact hnT e
        ·omega
       have o0:∀W,Upd (Own (.slice A4 ys.length c4)) w3 W→W.cell? ⟨wr.heap.size,0,none⟩=some (.bool true):=fun W hW=>(BO3.out.upd hW hnO).cell 0
       have o1:∀W,Upd (Own (.slice A4 ys.length c4)) w3 W→W.cell? ⟨wr.heap.size,1,none⟩=some (.int .i64 ky):=fun W hW=>(BO3.out.upd hW hnO).cell 1
       have o2:∀W,Upd (Own (.slice A4 ys.length c4)) w3 W→W.cell? ⟨wr.heap.size,2,none⟩=some (.int .i64 tx):=fun W hW=>(BO3.out.upd hW hnO).cell 2
       have o3:∀W,Upd (Own (.slice A4 ys.length c4)) w3 W→W.cell? ⟨wr.heap.size,3,none⟩=some (.int .i64 nt):=fun W hW=>(BO3.out.upd hW hnO).cell 3
       have s0:∀W,Upd (Own (.slice A4 ys.length c4)) w3 W→W.cell? ⟨wo.heap.size,0,none⟩=some (.int .i64 xi):=fun W hW=>by
        have h0:=t0 _ HU3.out;exact hW.keep h0 hnT4
       have HGR:=Qh (fun i e=>(HLT.out i e).1);clear hub hu3 t0 t1 t2 g0 g1;go_wp2;refine wp_region_noPanic ?_;refine wp_region_held_drew (S:=(fun w'=>Upd (Own (.slice A4 ys.length c4)) w3 w')) (by kernel_rfl) ?_ (fun hHeld=> ?_)
       ·(first|exact(Upd.refl _ _).drew|exact hHeld.noR hu4|exact hHeld.alloc _|exact hU6)
       refine wpK 0 rfl ?_;refine wpK 1 rfl ?_;refine wpK 2 rfl ?_;refine wpK 3 rfl ?_;refine wpK 4 rfl ?_;refine wpR [5] ?_;refine wpC rfl (fun K hK=> ?_) AllReadyH.nil;go_simp
       (first
  |(go_at_call 97;refine(Zpb _ ky tx nt).mono ?_;rintro e w4 ⟨rfl,hu4⟩;have ho4:=Zb HO3.out hu4.of_drew (fun _ _=>id);have hz4:=hu4.of_drew.size))
       try (go_wp2_with fail)
       refine hK.out _ _ ?_ (fun hHeld=> ?_)
       ·(first|exact(Upd.refl _ _).drew|exact hHeld.noR hu4|exact hHeld.alloc _|exact hU6)
       clear hK K
       try simp only[Act.put,sT,sS,sZ]
       refine wpK 6 rfl ?_;refine wpR [7] ?_;refine wpC rfl (fun K hK=> ?_) AllReadyH.nil;go_simp;refine hK.out _ _ ?_ (fun hHeld=> ?_)
       ·(first|exact(Upd.refl _ _).drew|exact hHeld.noR hu4|exact hHeld.alloc _|exact hU6)
       clear hK K
       try simp only[Act.put,sT,sS,sZ]
       refine wpR [8] ?_;refine wpC rfl (fun K hK=> ?_) AllReadyH.nil
       (first
  |(refine Zaz (by rfl) (by rfl) Zcy (v:= .slice A4 ys.length c4) (cells:=[.int .i64 xi,.int .i64 (j:Int),.int .i64 tx,.int .i64 ky,.int .i64 nt]) (by rfl) (by rfl) (by exact ho4.alloc _) rfl (by exact ZaH) (by rfl) (by omega) (by omega) (by simp;omega) ?_;intro g6 c6 w6 hown6 hu6 hg6 hlt6;have hU6:Upd (Own (.slice A4 ys.length c4)) w3 w6:=hHeld.trans hu6))
       refine hK.out _ _ ?_ (fun hHeld=> ?_)
       ·(first|exact(Upd.refl _ _).drew|exact hHeld.noR hu4|exact hHeld.alloc _|exact hU6)
       clear hK K
       try simp only[Act.put,sT,sS,sZ]
       refine wpK 9 rfl ?_;refine wpD (NoPanic.normal ?_)
       have HU6:=Qh (HU3.out.then_ hHeld fun i e=>by
        rcases hgr2.out i e with e|e
        ·exact .inl e
        ·exact .inr (by simp only[World.size_alloc];exact e))
       have HG6:=Qh (show∀i,Own (.slice (some ⟨g6,0,none⟩) (ys.length+1) c6) i→Own (.slice A3 xs.length c3) i∨wo.heap.size+1≤i from fun i e=>by
        rcases hg6 with h|⟨k6,hk6,hlk⟩
        ·exact hgr2.out i (h.symm.trans e)
        ·have e2:(some k6:Option Nat)=some i:=hk6.symm.trans e
         cases e2
         simp only[World.size_alloc]at hlk;exact .inr (by omega))
       clear hHeld o0 o1 o2 o3 s0 hg6;go_wp2
       go_roundg (gk-1)
       case measure=>omega
       case rel=>exact⟨j+1,some ⟨g6,0,none⟩,c6,ys++[⟨xi,(j:Int),⟨tx,ky,nt⟩⟩],by omega,by go_num,by simp,HS,by simp;omega,Qh (by simpa[HBad.cells]using hown6),Qh (by simpa using HG6.out),HU6.out⟩
     ·obtain rfl:j=xo.length:=by omega
      have HS:=Qh (show ZaG txs p ys (txs.drop (k+1))=ZaG txs p [] txs by
       have:=hs2.out;rw[List.drop_length]at this;rw[←HST.out,←this];rfl)
      go_wp2
      go_roundg (m0-1)
      case measure=>omega
      case rel=>exact⟨k+1,A4,c4,ys,by omega,by go_num,rfl,HS,by omega,hown2,HW2.out _ hu2⟩
   ·obtain rfl:k=txs.length:=by omega
    have HS:=Qh (show xs=ZE ⟨txs,ords,A,c,B,d⟩ p by rw[←HV.out,←hs.out,List.drop_length];rfl);go_wp2
    go_ret
    exact⟨A3,c3,by rw[←HS.out];rfl,by rw[←HS.out];exact ZJ hown.out hzw,HU.out.trans hu1⟩
end
/- The document:how often there is a reason for an edge. -/
section
open Go.RowKit
def uid (txs:List HTx) (i:Int):Int:=match Ze txs i with|some u=>u.id|none=>0
theorem Zks (F:Nat→Prop) (w:World) (txs:List HTx) (ords:List HOrd) (A:Option Addr) (c:Nat) (B:Option Addr) (d:Nat) (i:Int) (H:Hist.lies F w ⟨txs,ords,A,c,B,d⟩):
  Calls Tryz.prog 121 #[.agg #[.slice A txs.length c,.slice B ords.length d],.int .i64 i] w fun e w'=>
  ∃(A':Option Addr) (c':Nat),e= .returned (.tuple #[.agg #[.int .i64 (uid txs i),.bool (Zaw txs i),.slice A' (ZaR txs i).length c'],.bool (Ze txs i).isSome])∧Zg (ZaR txs i).length∧HOps F w' A' (ZaR txs i)∧Upd No w w':=by
 unfold Zaw ZaR uid
 cases hf:Ze txs i with
 |none=>
  refine(ZbR H hf).mono ?_;rintro e w' ⟨rfl,hu⟩;exact⟨none,0,rfl,by unfold Zg;simp,fun h=>absurd rfl h,hu⟩
 |some t=>
  refine(ZaA H hf).mono ?_;rintro e w' ⟨A',c',rfl,h1,h2,h3⟩;exact⟨A',c',rfl,(H.tx t (ZdK hf)).2.2.1,h2,h3⟩
theorem Zkx {F:Nat→Prop} {w:World} {A:Option Addr} {c:Nat} {l:List Int} {tx:Int} {o:Option Int} (h:Ints F w A l) (hl:l.length≤17592186044415) (ho:Z7 l tx=o):
  Calls Tryz.prog 191 #[.slice A l.length c,.int .i64 tx] w fun e w'=>e= .returned (.tuple #[.int .i64 (o.getD 0),.bool o.isSome])∧Upd No w w':=by
 subst ho;refine(ZoC F w A c l tx h hl).mono ?_;intro e w' hq;unfold Zln at hq
 cases hn:Z7 l tx with
 |none=>rw[hn]at hq;exact hq
 |some x=>rw[hn]at hq;exact hq
theorem ZhZ {l:List Int} {x y:Int} {o:Option Int} (ho:Z7 l x=o):(Z7 l x==some y)=(o.isSome&&o.getD 0==y):=by
 rw[ho]
 cases o with
 |none=>rfl
 |some z=>
  rw[Bool.eq_iff_iff];simp
theorem Zdi {h:Hist} {e:Edge} (hn:((Ze h.txs e.f).isSome&&(Ze h.txs e.t).isSome&&Zaw h.txs e.f&&Zaw h.txs e.t&& !(e.f==e.t))=false):Zf h e=0:=by
 unfold Zf Zo;unfold Zaw at hn
 cases h1:Ze h.txs e.f with
 |none=>rfl
 |some a=>
  cases h2:Ze h.txs e.t with
  |none=>cases ha:a.done<;>simp[ha]
  |some b=>
   rw[h1,h2]at hn;simp only[Option.isSome_some,Bool.true_and]at hn ⊢
   cases ha:a.done
   ·simp
   ·cases hb:b.done
    ·simp
    ·rw[ha,hb]at hn;simp only[Bool.true_and,Bool.not_eq_false',beq_iff_eq]at hn;simp[hn]
theorem Zmk {h:Hist} {e:Edge} (h1:(Ze h.txs e.f).isSome=true) (h2:(Ze h.txs e.t).isSome=true) (h3:Zaw h.txs e.f=true) (h4:Zaw h.txs e.t=true) (h5:¬e.f=e.t):
  Zf h e=if e.k=1 then (if Zbq h.ords e.key e.f e.t then 1 else 0) else if e.k=2 then (ZaR h.txs e.t).countP (p2 e.f e.key (Zd (ZaR h.txs e.f) e.key))
   else if e.k=3 then (ZaR h.txs e.f).countP (p3 h (uid h.txs e.f) e.key e.t) else 0:=by
 obtain⟨a,ha⟩:=Option.isSome_iff_exists.1 h1;obtain⟨b,hb⟩:=Option.isSome_iff_exists.1 h2;unfold Zaw at h3 h4;rw[ha]at h3;rw[hb]at h4;simp only at h3 h4;unfold Zf Zo ZaR uid;rw[ha,hb];simp only[h3,h4,if_true,if_neg h5]
theorem Zej {α:Type} (p:α→Bool) (x:α) (l:List α):(x::l).countP p=(if p x then 1 else 0)+l.countP p:=by
 rw[List.countP_cons];omega
set_option maxRecDepth 100000 in
set_option maxHeartbeats 4000000 in
theorem ZlG (F:Nat→Prop) (w:World) (txs:List HTx) (ords:List HOrd) (A:Option Addr) (c:Nat) (B:Option Addr) (d:Nat) (e:Edge) (H:Hist.lies F w ⟨txs,ords,A,c,B,d⟩):
  Calls Tryz.prog 100 #[.agg #[.slice A txs.length c,.slice B ords.length d],.agg e.cells.toArray] w fun r w'=>r= .returned (.int .i64 ((Zf ⟨txs,ords,A,c,B,d⟩ e:Nat):Int))∧Upd No w w':=by
 obtain⟨ef,et,ek,ey⟩:=e;unfold Edge.cells;have u0:=((Upd.refl No w).alloc (.cells #[.slice A txs.length c,.slice B ords.length d] 29)).alloc (.cells #[.int .i64 ef,.int .i64 et,.int .i64 ek,.int .i64 ey] 53);have bH:=Qh ((Blk.new w 29 [.slice A txs.length c,.slice B ords.length d]).alloc (.cells #[.int .i64 ef,.int .i64 et,.int .i64 ek,.int .i64 ey] 53));have b1:=Blk.new (w.alloc (.cells #[.slice A txs.length c,.slice B ords.length d] 29)) 53 [.int .i64 ef,.int .i64 et,.int .i64 ek,.int .i64 ey];simp only[World.size_alloc]at b1;have bX:=Qh b1;have U0:=Qh u0;clear b1 u0;obtain⟨i1,hi1⟩:∃b,(Ze txs ef).isSome=b:=⟨_,rfl⟩;obtain⟨i2,hi2⟩:∃b,(Ze txs et).isSome=b:=⟨_,rfl⟩;obtain⟨d1,hd1⟩:∃b,Zaw txs ef=b:=⟨_,rfl⟩;obtain⟨d2,hd2⟩:∃b,Zaw txs et=b:=⟨_,rfl⟩;obtain⟨x1,hx1⟩:∃b,uid txs ef=b:=⟨_,rfl⟩;obtain⟨x2,hx2⟩:∃b,uid txs et=b:=⟨_,rfl⟩;obtain⟨l1,hl1⟩:∃b,ZaR txs ef=b:=⟨_,rfl⟩;obtain⟨l2,hl2⟩:∃b,ZaR txs et=b:=⟨_,rfl⟩;have hF1:=fun W (hW:Upd No w W)=>Zks F W txs ords A c B d ef (H.upd hW (fun _ _=>id))
 have hF2:=fun W (hW:Upd No w W)=>Zks F W txs ords A c B d et (H.upd hW (fun _ _=>id))
 rw[hi1,hd1,hx1,hl1]at hF1;rw[hi2,hd2,hx2,hl2]at hF2;have HF1:=Qh (hF1 _ U0.out);have HF2:=Qh hF2;have I1:=Qh hi1;have I2:=Qh hi2;have D1:=Qh hd1;have D2:=Qh hd2;have X1:=Qh hx1;have L1:=Qh hl1;have L2:=Qh hl2;obtain⟨ft,hft⟩:∃b,(ef==et)=b:=⟨_,rfl⟩;have HFT:=Qh hft;clear hF1 hF2 hi1 hi2 hd1 hd2 hx1 hx2 hl1 hl2
 go_enter Tryz.func100,Tryz.ntmps100
 go_wp2_with fail
 refine(HF1.out).mono ?_;rintro e w1 ⟨A1,c1,rfl,hfew1,hh1,hu1⟩;have U1:=Qh ((U0.out.trans hu1).alloc (.cells #[.int .i64 x1,.bool d1,.slice A1 l1.length c1] 81));have bT1:=Qh (Blk.new w1 81 [.int .i64 x1,.bool d1,.slice A1 l1.length c1]);have uq1:=hu1.alloc (.cells #[.int .i64 x1,.bool d1,.slice A1 l1.length c1] 81);have bH1:=Qh (bH.out.upd uq1 id);have bX1:=Qh (bX.out.upd uq1 id);have hh1a:=Qh (HOps.upd hh1 ((Upd.refl No w1).alloc (.cells #[.int .i64 x1,.bool d1,.slice A1 l1.length c1] 81)) (fun _ _=>id));have y0:=bX1.out.cell 0;have y1:=bX1.out.cell 1;have r0:=bH1.out.cell 0;have r1:=bH1.out.cell 1;simp only[Qz,Qs]at y0 y1 r0 r1;clear hh1 hu1 uq1
 go_wp2_with fail
 refine(HF2.out _ U1.out).mono ?_;rintro e w2 ⟨A2,c2,rfl,hfew2,hh2,hu2⟩;clear y0 y1 r0 r1;have uq2:=hu2.alloc (.cells #[.int .i64 x2,.bool d2,.slice A2 l2.length c2] 81);have U4:=Qh (U1.out.trans uq2);have bT2:=Qh (Blk.new w2 81 [.int .i64 x2,.bool d2,.slice A2 l2.length c2]);have bT14:=Qh (bT1.out.upd uq2 id);have bH4:=Qh (bH1.out.upd uq2 id);have bX4:=Qh (bX1.out.upd uq2 id);have hh14:=Qh (HOps.upd hh1a.out uq2 (fun _ _=>id));have hh24:=Qh (HOps.upd hh2 ((Upd.refl No w2).alloc (.cells #[.int .i64 x2,.bool d2,.slice A2 l2.length c2] 81)) (fun _ _=>id));have e0:∀W,Upd No (w2.alloc (.cells #[.int .i64 x2,.bool d2,.slice A2 l2.length c2] 81)) W→W.cell? ⟨w.heap.size+1,0,none⟩=some (.int .i64 ef):=fun W hW=>(bX4.out.upd hW id).cell 0
 have e1:∀W,Upd No (w2.alloc (.cells #[.int .i64 x2,.bool d2,.slice A2 l2.length c2] 81)) W→W.cell? ⟨w.heap.size+1,1,none⟩=some (.int .i64 et):=fun W hW=>(bX4.out.upd hW id).cell 1
 have e2:∀W,Upd No (w2.alloc (.cells #[.int .i64 x2,.bool d2,.slice A2 l2.length c2] 81)) W→W.cell? ⟨w.heap.size+1,2,none⟩=some (.int .i64 ek):=fun W hW=>(bX4.out.upd hW id).cell 2
 have e3:∀W,Upd No (w2.alloc (.cells #[.int .i64 x2,.bool d2,.slice A2 l2.length c2] 81)) W→W.cell? ⟨w.heap.size+1,3,none⟩=some (.int .i64 ey):=fun W hW=>(bX4.out.upd hW id).cell 3
 have g0:∀W,Upd No (w2.alloc (.cells #[.int .i64 x2,.bool d2,.slice A2 l2.length c2] 81)) W→W.cell? ⟨w.heap.size,0,none⟩=some (.slice A txs.length c):=fun W hW=>(bH4.out.upd hW id).cell 0
 have g1:∀W,Upd No (w2.alloc (.cells #[.int .i64 x2,.bool d2,.slice A2 l2.length c2] 81)) W→W.cell? ⟨w.heap.size,1,none⟩=some (.slice B ords.length d):=fun W hW=>(bH4.out.upd hW id).cell 1
 have a0:∀W,Upd No (w2.alloc (.cells #[.int .i64 x2,.bool d2,.slice A2 l2.length c2] 81)) W→W.cell? ⟨w1.heap.size,0,none⟩=some (.int .i64 x1):=fun W hW=>(bT14.out.upd hW id).cell 0
 have a1:∀W,Upd No (w2.alloc (.cells #[.int .i64 x2,.bool d2,.slice A2 l2.length c2] 81)) W→W.cell? ⟨w1.heap.size,1,none⟩=some (.bool d1):=fun W hW=>(bT14.out.upd hW id).cell 1
 have a2:∀W,Upd No (w2.alloc (.cells #[.int .i64 x2,.bool d2,.slice A2 l2.length c2] 81)) W→W.cell? ⟨w1.heap.size,2,none⟩=some (.slice A1 l1.length c1):=fun W hW=>(bT14.out.upd hW id).cell 2
 have b0:∀W,Upd No (w2.alloc (.cells #[.int .i64 x2,.bool d2,.slice A2 l2.length c2] 81)) W→W.cell? ⟨w2.heap.size,1,none⟩=some (.bool d2):=fun W hW=>(bT2.out.upd hW id).cell 1
 have b2:∀W,Upd No (w2.alloc (.cells #[.int .i64 x2,.bool d2,.slice A2 l2.length c2] 81)) W→W.cell? ⟨w2.heap.size,2,none⟩=some (.slice A2 l2.length c2):=fun W hW=>(bT2.out.upd hW id).cell 2
 have hr4:Upd No (w2.alloc (.cells #[.int .i64 x2,.bool d2,.slice A2 l2.length c2] 81)) (w2.alloc (.cells #[.int .i64 x2,.bool d2,.slice A2 l2.length c2] 81)):=Upd.refl _ _;clear hh2 hu2 uq2
 cases i1
 ·have HV:=Qh (show Zf ⟨txs,ords,A,c,B,d⟩ ⟨ef,et,ek,ey⟩=0 from Zdi (by simp only[I1.out,I2.out,D1.out,D2.out,HFT.out];rfl));go_wp2
  go_ret
  exact⟨by rw[HV.out];rfl,U4.out⟩
 ·cases i2
  ·have HV:=Qh (show Zf ⟨txs,ords,A,c,B,d⟩ ⟨ef,et,ek,ey⟩=0 from Zdi (by simp only[I1.out,I2.out,D1.out,D2.out,HFT.out];rfl));go_wp2
   go_ret
   exact⟨by rw[HV.out];rfl,U4.out⟩
  ·cases d1
   ·have HV:=Qh (show Zf ⟨txs,ords,A,c,B,d⟩ ⟨ef,et,ek,ey⟩=0 from Zdi (by simp only[I1.out,I2.out,D1.out,D2.out,HFT.out];rfl));go_wp2
    go_ret
    exact⟨by rw[HV.out];rfl,U4.out⟩
   ·cases d2
    ·have HV:=Qh (show Zf ⟨txs,ords,A,c,B,d⟩ ⟨ef,et,ek,ey⟩=0 from Zdi (by simp only[I1.out,I2.out,D1.out,D2.out,HFT.out];rfl));go_wp2
     go_ret
     exact⟨by rw[HV.out];rfl,U4.out⟩
    ·cases ft
     ·have hv:=Zmk (h:=⟨txs,ords,A,c,B,d⟩) (e:=⟨ef,et,ek,ey⟩) I1.out I2.out D1.out D2.out (by simpa using HFT.out);simp only[L1.out,L2.out,X1.out]at hv;have HO:=Qh fun W (hW:Upd No (w2.alloc (.cells #[.int .i64 x2,.bool true,.slice A2 l2.length c2] 81)) W)=>ZnV F W txs ords A c B d ey (H.upd (U4.out.trans hW) (fun _ _=>id))
      obtain⟨ol,hol⟩:∃ol,Zdv ey ords=ol:=⟨_,rfl⟩;rw[hol]at HO;have hnb:∀x y,Zbq ords ey x y=(Z7 ol x==some y):=fun x y=>by unfold Zbq;rw[←Zi0,hol]
      have HNB:=Qh hnb;have HV:=Qh hv;clear hv hol hnb
      go_wp2_with fail
      refine(HO.out _ hr4).mono ?_;rintro e w5 ⟨A9,c9,rfl,hI9,hl9,hu5⟩;obtain⟨ov,hov⟩:∃ov,(Z7 ol ef).getD 0=ov:=⟨_,rfl⟩;obtain⟨os,hos⟩:∃os,(Z7 ol ef).isSome=os:=⟨_,rfl⟩;have hnx:=Zkx (tx:=ef) (c:=c9) hI9 hl9 rfl;rw[hov,hos]at hnx;have HNX:=Qh hnx;have HI9:=Qh hI9;have HN1:=Qh (show Zbq ords ey ef et=(os&&ov==et) by rw[HNB.out,ZhZ rfl,hov,hos]);clear hnx hov hos hI9
      go_wp2_with fail
      refine(HNX.out).mono ?_;rintro e w6 ⟨rfl,hu6⟩;have hr6:Upd No (w2.alloc (.cells #[.int .i64 x2,.bool true,.slice A2 l2.length c2] 81)) w6:=hu5.trans hu6;have HI6:=Qh (HI9.out.upd hu6 (fun _ _=>id));have U6:=Qh (U4.out.trans hr6);clear hu5 hu6 hr4
      by_cases hk1:ek=1
      ·have hkb:(ek==1)=true:=by simpa using hk1
       have hk2:(ek==2)=false:=by rw[hk1];rfl
       have hk3:(ek==3)=false:=by rw[hk1];rfl
       have HV1:=Qh (show Zf ⟨txs,ords,A,c,B,d⟩ ⟨ef,et,ek,ey⟩=if (os&&ov==et)=true then 1 else 0 by rw[HV.out,if_pos hk1,HN1.out]);clear hk1
       cases os
       ·go_wp2
        go_ret
        exact⟨by rw[HV1.out];rfl,U6.out⟩
       ·cases hq:ov==et
        ·have HV2:=Qh (show Zf ⟨txs,ords,A,c,B,d⟩ ⟨ef,et,ek,ey⟩=0 by rw[HV1.out,hq];rfl);go_wp2
         go_ret
         exact⟨by rw[HV2.out];rfl,U6.out⟩
        ·have HV2:=Qh (show Zf ⟨txs,ords,A,c,B,d⟩ ⟨ef,et,ek,ey⟩=1 by rw[HV1.out,hq];rfl);go_wp2
         go_ret
         exact⟨by rw[HV2.out];rfl,U6.out⟩
      ·have hkb:(ek==1)=false:=by simpa using hk1
       have hv2:=HV.out;rw[if_neg hk1]at hv2;clear hk1
       by_cases hk2:ek=2
       ·have hkb2:(ek==2)=true:=by simpa using hk2
        have hk3:(ek==3)=false:=by rw[hk2];rfl
        rw[if_pos hk2]at hv2;have HV2:=Qh hv2;clear hk2 hv2;unfold Zg at hfew1 hfew2;go_wp2
        go_loopg [12,85] l2.length (fun gk s i wr=>∃k n:Nat,k+gk=l2.length∧i= .int .i64 k∧s= .int .i64 n∧n≤k∧Hid (n+(l2.drop k).countP (p2 ef ey (Zd l1 ey))=l2.countP (p2 ef ey (Zd l1 ey)))∧Upd No (w2.alloc (.cells #[.int .i64 x2,.bool true,.slice A2 l2.length c2] 81)) wr)
        case atStart=>exact⟨0,0,by omega,rfl,rfl,by omega,Qh (by simp),hr6⟩
        case round=>
         obtain⟨k,n,hgk,rfl,rfl,hn,hs,hu⟩:=hrel;clear hr6
         by_cases hlt:k<l2.length
         ·obtain⟨ad,hAd,q0,q1,q2,q3⟩:=(hh24.out.upd hu (fun _ _=>id)).at_ hlt;obtain⟨x,hx⟩:∃x,l2[k]=x:=⟨_,rfl⟩;rw[hx]at q0 q1 q2 q3;obtain⟨rd,ky,tx,nt⟩:=x;simp only at q0 q1 q2 q3;subst hAd;have X:=Qh (show l2.drop k=⟨rd,ky,tx,nt⟩::l2.drop (k+1) by rw[←hx];exact List.drop_eq_getElem_cons hlt);have b1:(0:Int)≤(k:Int):=Qn _;have b2:(k:Int)<(l2.length:Int):=by omega
          have hub:=hu.alloc (.cells #[.bool rd,.int .i64 ky,.int .i64 tx,.int .i64 nt] 95);have bO:=Qh (Blk.new wr 95 [.bool rd,.int .i64 ky,.int .i64 tx,.int .i64 nt]);have o0:∀W,Upd No (wr.alloc (.cells #[.bool rd,.int .i64 ky,.int .i64 tx,.int .i64 nt] 95)) W→W.cell? ⟨wr.heap.size,0,none⟩=some (.bool rd):=fun W hW=>(bO.out.upd hW id).cell 0
          have o1:∀W,Upd No (wr.alloc (.cells #[.bool rd,.int .i64 ky,.int .i64 tx,.int .i64 nt] 95)) W→W.cell? ⟨wr.heap.size,1,none⟩=some (.int .i64 ky):=fun W hW=>(bO.out.upd hW id).cell 1
          have o2:∀W,Upd No (wr.alloc (.cells #[.bool rd,.int .i64 ky,.int .i64 tx,.int .i64 nt] 95)) W→W.cell? ⟨wr.heap.size,2,none⟩=some (.int .i64 tx):=fun W hW=>(bO.out.upd hW id).cell 2
          have o3:∀W,Upd No (wr.alloc (.cells #[.bool rd,.int .i64 ky,.int .i64 tx,.int .i64 nt] 95)) W→W.cell? ⟨wr.heap.size,3,none⟩=some (.int .i64 nt):=fun W hW=>(bO.out.upd hW id).cell 3
          have f0:=fun W (hW:Upd No (wr.alloc (.cells #[.bool rd,.int .i64 ky,.int .i64 tx,.int .i64 nt] 95)) W)=>e0 W (hub.trans hW)
          have f1:=fun W (hW:Upd No (wr.alloc (.cells #[.bool rd,.int .i64 ky,.int .i64 tx,.int .i64 nt] 95)) W)=>e1 W (hub.trans hW)
          have f3:=fun W (hW:Upd No (wr.alloc (.cells #[.bool rd,.int .i64 ky,.int .i64 tx,.int .i64 nt] 95)) W)=>e3 W (hub.trans hW)
          have j0:=fun W (hW:Upd No (wr.alloc (.cells #[.bool rd,.int .i64 ky,.int .i64 tx,.int .i64 nt] 95)) W)=>g0 W (hub.trans hW)
          have j1:=fun W (hW:Upd No (wr.alloc (.cells #[.bool rd,.int .i64 ky,.int .i64 tx,.int .i64 nt] 95)) W)=>g1 W (hub.trans hW)
          have m0:=fun W (hW:Upd No (wr.alloc (.cells #[.bool rd,.int .i64 ky,.int .i64 tx,.int .i64 nt] 95)) W)=>a0 W (hub.trans hW)
          have m2:=fun W (hW:Upd No (wr.alloc (.cells #[.bool rd,.int .i64 ky,.int .i64 tx,.int .i64 nt] 95)) W)=>a2 W (hub.trans hW)
          have HW:=Qh fun W (hW:Upd No (wr.alloc (.cells #[.bool rd,.int .i64 ky,.int .i64 tx,.int .i64 nt] 95)) W)=>Zbo F W A1 c1 l1 ey (HOps.upd hh14.out (hub.trans hW) (fun _ _=>id)) (by unfold Zg;exact hfew1)
          obtain⟨wn,hwn⟩:∃wn,Zd l1 ey=wn:=⟨_,rfl⟩;rw[hwn]at HW;have hp:p2 ef ey (Zd l1 ey) ⟨rd,ky,tx,nt⟩=(rd&&(ky==ey&&(tx==ef&&nt==(wn:Int)))):=by unfold p2;rw[hwn];simp only[Bool.and_assoc]
          have hst:=hs.out;rw[X.out,Zej,hp]at hst;have HST:=Qh hst;clear hst hp hwn hx
          cases rd
          ·have HS:=Qh (show n+(l2.drop (k+1)).countP (p2 ef ey (Zd l1 ey))=l2.countP (p2 ef ey (Zd l1 ey)) by rw[←HST.out];simp[*]);go_wp2;refine wp_region_noPanic ?_;refine wp_region_held_drew (S:=(fun w'=>Upd No (wr.alloc (.cells #[.bool false,.int .i64 ky,.int .i64 tx,.int .i64 nt] 95)) w')) (by kernel_rfl) ?_ (fun hHeld=> ?_)
           ·(first|exact(Upd.refl No _).drew|exact hHeld.trans hu3)
           refine wpK 0 rfl ?_;refine wpK 1 rfl ?_;refine wpK 2 rfl ?_;refine wpN 3 rfl ?_;refine wpN 4 rfl ?_;refine wpN 5 rfl ?_;refine wpN 6 rfl ?_;refine wpN 7 rfl ?_;refine wpK 8 rfl ?_;refine wpK 9 rfl ?_;refine wpN 10 rfl ?_;refine wpN 11 rfl ?_;refine wpN 12 rfl ?_;refine wpN 13 rfl ?_;refine wpN 14 rfl ?_;refine wpK 15 rfl ?_;refine wpK 16 rfl ?_;refine wpN 17 rfl ?_;refine wpN 18 rfl ?_;refine wpN 19 rfl ?_;refine wpN 20 rfl ?_;refine wpN 21 rfl ?_;refine wpN 22 rfl ?_;refine wpR [23] ?_;refine wpC rfl (fun K hK=> ?_) AllReadyH.nil;go_simp;refine hK.out _ _ ?_ (fun hHeld=> ?_)
           ·exact hHeld
           clear hK K
           try simp only[Act.put,sT,sS,sZ]
           refine wpN 24 rfl ?_;refine wpK 25 rfl ?_;refine wpD (NoPanic.normal ?_);have HUB:=Qh (hub.trans hHeld);clear hHeld o0 o1 o2 o3 f0 f1 f3 j0 j1 m0 m2;go_wp2
           go_roundg (gk-1)
           case measure=>omega
           case rel=>exact⟨k+1,n,by omega,by go_num,rfl,by omega,HS,HUB.out⟩
          ·cases hky:ky==ey
           ·have HS:=Qh (show n+(l2.drop (k+1)).countP (p2 ef ey (Zd l1 ey))=l2.countP (p2 ef ey (Zd l1 ey)) by rw[←HST.out];simp[*]);go_wp2;refine wp_region_noPanic ?_;refine wp_region_held_drew (S:=(fun w'=>Upd No (wr.alloc (.cells #[.bool true,.int .i64 ky,.int .i64 tx,.int .i64 nt] 95)) w')) (by kernel_rfl) ?_ (fun hHeld=> ?_)
            ·(first|exact(Upd.refl No _).drew|exact hHeld.trans hu3)
            refine wpK 0 rfl ?_;refine wpK 1 rfl ?_;refine wpK 2 rfl ?_;refine wpK 3 rfl ?_;refine wpK 4 rfl ?_;refine wpK 5 rfl ?_;refine wpK 6 rfl ?_;refine wpK 7 rfl ?_;refine wpK 8 rfl ?_;refine wpK 9 rfl ?_;refine wpN 10 rfl ?_;refine wpN 11 rfl ?_;refine wpN 12 rfl ?_;refine wpN 13 rfl ?_;refine wpN 14 rfl ?_;refine wpK 15 rfl ?_;refine wpK 16 rfl ?_;refine wpN 17 rfl ?_;refine wpN 18 rfl ?_;refine wpN 19 rfl ?_;refine wpN 20 rfl ?_;refine wpN 21 rfl ?_;refine wpN 22 rfl ?_;refine wpR [23] ?_;refine wpC rfl (fun K hK=> ?_) AllReadyH.nil;go_simp;refine hK.out _ _ ?_ (fun hHeld=> ?_)
            ·exact hHeld
            clear hK K
            try simp only[Act.put,sT,sS,sZ]
            refine wpN 24 rfl ?_;refine wpK 25 rfl ?_;refine wpD (NoPanic.normal ?_);have HUB:=Qh (hub.trans hHeld);clear hHeld o0 o1 o2 o3 f0 f1 f3 j0 j1 m0 m2;go_wp2
            go_roundg (gk-1)
            case measure=>omega
            case rel=>exact⟨k+1,n,by omega,by go_num,rfl,by omega,HS,HUB.out⟩
           ·cases htx:tx==ef
            ·have HS:=Qh (show n+(l2.drop (k+1)).countP (p2 ef ey (Zd l1 ey))=l2.countP (p2 ef ey (Zd l1 ey)) by rw[←HST.out];simp[*]);go_wp2;refine wp_region_noPanic ?_;refine wp_region_held_drew (S:=(fun w'=>Upd No (wr.alloc (.cells #[.bool true,.int .i64 ky,.int .i64 tx,.int .i64 nt] 95)) w')) (by kernel_rfl) ?_ (fun hHeld=> ?_)
             ·(first|exact(Upd.refl No _).drew|exact hHeld.trans hu3)
             refine wpK 0 rfl ?_;refine wpK 1 rfl ?_;refine wpK 2 rfl ?_;refine wpK 3 rfl ?_;refine wpK 4 rfl ?_;refine wpK 5 rfl ?_;refine wpK 6 rfl ?_;refine wpK 7 rfl ?_;refine wpK 8 rfl ?_;refine wpK 9 rfl ?_;refine wpK 10 rfl ?_;refine wpK 11 rfl ?_;refine wpK 12 rfl ?_;refine wpK 13 rfl ?_;refine wpK 14 rfl ?_;refine wpK 15 rfl ?_;refine wpK 16 rfl ?_;refine wpN 17 rfl ?_;refine wpN 18 rfl ?_;refine wpN 19 rfl ?_;refine wpN 20 rfl ?_;refine wpN 21 rfl ?_;refine wpN 22 rfl ?_;refine wpR [23] ?_;refine wpC rfl (fun K hK=> ?_) AllReadyH.nil;go_simp;refine hK.out _ _ ?_ (fun hHeld=> ?_)
             ·exact hHeld
             clear hK K
             try simp only[Act.put,sT,sS,sZ]
             refine wpN 24 rfl ?_;refine wpK 25 rfl ?_;refine wpD (NoPanic.normal ?_);have HUB:=Qh (hub.trans hHeld);clear hHeld o0 o1 o2 o3 f0 f1 f3 j0 j1 m0 m2;go_wp2
             go_roundg (gk-1)
             case measure=>omega
             case rel=>exact⟨k+1,n,by omega,by go_num,rfl,by omega,HS,HUB.out⟩
            ·cases hnt:nt==(wn:Int)
             ·have HS:=Qh (show n+(l2.drop (k+1)).countP (p2 ef ey (Zd l1 ey))=l2.countP (p2 ef ey (Zd l1 ey)) by rw[←HST.out];simp[*]);go_wp2;refine wp_region_noPanic ?_;refine wp_region_held_drew (S:=(fun w'=>Upd No (wr.alloc (.cells #[.bool true,.int .i64 ky,.int .i64 tx,.int .i64 nt] 95)) w')) (by kernel_rfl) ?_ (fun hHeld=> ?_)
              ·(first|exact(Upd.refl No _).drew|exact hHeld.trans hu3)
              refine wpK 0 rfl ?_;refine wpK 1 rfl ?_;refine wpK 2 rfl ?_;refine wpK 3 rfl ?_;refine wpK 4 rfl ?_;refine wpK 5 rfl ?_;refine wpK 6 rfl ?_;refine wpK 7 rfl ?_;refine wpK 8 rfl ?_;refine wpK 9 rfl ?_;refine wpK 10 rfl ?_;refine wpK 11 rfl ?_;refine wpK 12 rfl ?_;refine wpK 13 rfl ?_;refine wpK 14 rfl ?_;refine wpK 15 rfl ?_;refine wpK 16 rfl ?_;refine wpK 17 rfl ?_;refine wpK 18 rfl ?_;refine wpK 19 rfl ?_;refine wpK 20 rfl ?_;refine wpK 21 rfl ?_;refine wpK 22 rfl ?_;refine wpR [23] ?_;refine wpC rfl (fun K hK=> ?_) AllReadyH.nil;go_simp
              (first
  |(go_at_call 113;refine(HW.out _ hHeld).mono ?_;rintro e w3 ⟨rfl,hu3⟩))
              try (go_wp2_with fail)
              refine hK.out _ _ ?_ (fun hHeld=> ?_)
              ·(first|exact(Upd.refl No _).drew|exact hHeld.trans hu3)
              clear hK K
              try simp only[Act.put,sT,sS,sZ]
              refine wpK 24 rfl ?_;refine wpK 25 rfl ?_;refine wpD (NoPanic.normal ?_);have HUB:=Qh (hub.trans hHeld);clear hHeld o0 o1 o2 o3 f0 f1 f3 j0 j1 m0 m2;go_wp2
              go_roundg (gk-1)
              case measure=>omega
              case rel=>exact⟨k+1,n,by omega,by go_num,rfl,by omega,HS,HUB.out⟩
             ·have HS:=Qh (show(n+1)+(l2.drop (k+1)).countP (p2 ef ey (Zd l1 ey))=l2.countP (p2 ef ey (Zd l1 ey)) by rw[←HST.out,hky,htx,hnt];simp only[Bool.and_self,if_true];omega);go_wp2;refine wp_region_noPanic ?_;refine wp_region_held_drew (S:=(fun w'=>Upd No (wr.alloc (.cells #[.bool true,.int .i64 ky,.int .i64 tx,.int .i64 nt] 95)) w')) (by kernel_rfl) ?_ (fun hHeld=> ?_)
              ·(first|exact(Upd.refl No _).drew|exact hHeld.trans hu3)
              refine wpK 0 rfl ?_;refine wpK 1 rfl ?_;refine wpK 2 rfl ?_;refine wpK 3 rfl ?_;refine wpK 4 rfl ?_;refine wpK 5 rfl ?_;refine wpK 6 rfl ?_;refine wpK 7 rfl ?_;refine wpK 8 rfl ?_;refine wpK 9 rfl ?_;refine wpK 10 rfl ?_;refine wpK 11 rfl ?_;refine wpK 12 rfl ?_;refine wpK 13 rfl ?_;refine wpK 14 rfl ?_;refine wpK 15 rfl ?_;refine wpK 16 rfl ?_;refine wpK 17 rfl ?_;refine wpK 18 rfl ?_;refine wpK 19 rfl ?_;refine wpK 20 rfl ?_;refine wpK 21 rfl ?_;refine wpK 22 rfl ?_;refine wpR [23] ?_;refine wpC rfl (fun K hK=> ?_) AllReadyH.nil;go_simp
              (first
  |(go_at_call 113;refine(HW.out _ hHeld).mono ?_;rintro e w3 ⟨rfl,hu3⟩))
              try (go_wp2_with fail)
              refine hK.out _ _ ?_ (fun hHeld=> ?_)
              ·(first|exact(Upd.refl No _).drew|exact hHeld.trans hu3)
              clear hK K
              try simp only[Act.put,sT,sS,sZ]
              refine wpK 24 rfl ?_;refine wpK 25 rfl ?_;refine wpD (NoPanic.normal ?_);have HUB:=Qh (hub.trans hHeld);clear hHeld o0 o1 o2 o3 f0 f1 f3 j0 j1 m0 m2;go_wp2
              go_roundg (gk-1)
              case measure=>omega
              case rel=>exact⟨k+1,n+1,by omega,by go_num,by go_num,by omega,HS,HUB.out⟩
         ·obtain rfl:k=l2.length:=by omega
          have HS:=Qh (show n=Zf ⟨txs,ords,A,c,B,d⟩ ⟨ef,et,ek,ey⟩ by have:=hs.out;rw[List.drop_length]at this;rw[HV2.out,←this];simp);go_wp2
          go_ret
          exact⟨by rw[←HS.out];rfl,U4.out.trans hu⟩
       ·have hkb2:(ek==2)=false:=by simpa using hk2
        rw[if_neg hk2]at hv2;clear hk2
        by_cases hk3:ek=3
        ·have hkb3:(ek==3)=true:=by simpa using hk3
         rw[if_pos hk3]at hv2;have HV2:=Qh hv2;clear hk3 hv2;unfold Zg at hfew1 hfew2;have HR6:=Qh hr6;go_wp2
         go_loopg [12,124] l1.length (fun gk s i wr=>∃k n:Nat,k+gk=l1.length∧i= .int .i64 k∧s= .int .i64 n∧n≤k∧Hid (n+(l1.drop k).countP (p3 ⟨txs,ords,A,c,B,d⟩ x1 ey et)=l1.countP (p3 ⟨txs,ords,A,c,B,d⟩ x1 ey et))∧Upd No w6 wr)
         case atStart=>exact⟨0,0,by omega,rfl,rfl,by omega,Qh (by simp),Upd.refl _ _⟩
         case round=>
          obtain⟨k,n,hgk,rfl,rfl,hn,hs,hv6⟩:=hrel;clear hr6;have hu:=HR6.out.trans hv6
          by_cases hlt:k<l1.length
          ·obtain⟨ad,hAd,q0,q1,q2,q3⟩:=(hh14.out.upd hu (fun _ _=>id)).at_ hlt;obtain⟨x,hx⟩:∃x,l1[k]=x:=⟨_,rfl⟩;rw[hx]at q0 q1 q2 q3;obtain⟨rd,ky,tx,nt⟩:=x;simp only at q0 q1 q2 q3;subst hAd;have X:=Qh (show l1.drop k=⟨rd,ky,tx,nt⟩::l1.drop (k+1) by rw[←hx];exact List.drop_eq_getElem_cons hlt);have b1:(0:Int)≤(k:Int):=Qn _;have b2:(k:Int)<(l1.length:Int):=by omega
           have hub:=hu.alloc (.cells #[.bool rd,.int .i64 ky,.int .i64 tx,.int .i64 nt] 95);have bO:=Qh (Blk.new wr 95 [.bool rd,.int .i64 ky,.int .i64 tx,.int .i64 nt]);have o0:∀W,Upd No (wr.alloc (.cells #[.bool rd,.int .i64 ky,.int .i64 tx,.int .i64 nt] 95)) W→W.cell? ⟨wr.heap.size,0,none⟩=some (.bool rd):=fun W hW=>(bO.out.upd hW id).cell 0
           have o1:∀W,Upd No (wr.alloc (.cells #[.bool rd,.int .i64 ky,.int .i64 tx,.int .i64 nt] 95)) W→W.cell? ⟨wr.heap.size,1,none⟩=some (.int .i64 ky):=fun W hW=>(bO.out.upd hW id).cell 1
           have o2:∀W,Upd No (wr.alloc (.cells #[.bool rd,.int .i64 ky,.int .i64 tx,.int .i64 nt] 95)) W→W.cell? ⟨wr.heap.size,2,none⟩=some (.int .i64 tx):=fun W hW=>(bO.out.upd hW id).cell 2
           have o3:∀W,Upd No (wr.alloc (.cells #[.bool rd,.int .i64 ky,.int .i64 tx,.int .i64 nt] 95)) W→W.cell? ⟨wr.heap.size,3,none⟩=some (.int .i64 nt):=fun W hW=>(bO.out.upd hW id).cell 3
           have f0:=fun W (hW:Upd No (wr.alloc (.cells #[.bool rd,.int .i64 ky,.int .i64 tx,.int .i64 nt] 95)) W)=>e0 W (hub.trans hW)
           have f1:=fun W (hW:Upd No (wr.alloc (.cells #[.bool rd,.int .i64 ky,.int .i64 tx,.int .i64 nt] 95)) W)=>e1 W (hub.trans hW)
           have f3:=fun W (hW:Upd No (wr.alloc (.cells #[.bool rd,.int .i64 ky,.int .i64 tx,.int .i64 nt] 95)) W)=>e3 W (hub.trans hW)
           have j0:=fun W (hW:Upd No (wr.alloc (.cells #[.bool rd,.int .i64 ky,.int .i64 tx,.int .i64 nt] 95)) W)=>g0 W (hub.trans hW)
           have j1:=fun W (hW:Upd No (wr.alloc (.cells #[.bool rd,.int .i64 ky,.int .i64 tx,.int .i64 nt] 95)) W)=>g1 W (hub.trans hW)
           have m0:=fun W (hW:Upd No (wr.alloc (.cells #[.bool rd,.int .i64 ky,.int .i64 tx,.int .i64 nt] 95)) W)=>a0 W (hub.trans hW)
           have m2:=fun W (hW:Upd No (wr.alloc (.cells #[.bool rd,.int .i64 ky,.int .i64 tx,.int .i64 nt] 95)) W)=>a2 W (hub.trans hW)
           have HLs:=Qh fun W (hW:Upd No (wr.alloc (.cells #[.bool rd,.int .i64 ky,.int .i64 tx,.int .i64 nt] 95)) W)=>ZoD F W txs ords A c B d ⟨rd,ky,tx,nt⟩ (H.upd (U4.out.trans (hub.trans hW)) (fun _ _=>id))
           obtain⟨lb,hlb⟩:∃lb,ZaE txs ⟨tx,ky,nt⟩=lb:=⟨_,rfl⟩;simp only[hlb]at HLs;have HIx:=Qh fun W (hW:Upd No (wr.alloc (.cells #[.bool rd,.int .i64 ky,.int .i64 tx,.int .i64 nt] 95)) W)=>HI6.out.upd ((hv6.alloc _).trans hW) (fun _ _=>id)
           obtain⟨ov2,hov⟩:∃ov,(Z7 ol tx).getD 0=ov:=⟨_,rfl⟩;obtain⟨os2,hos⟩:∃os,(Z7 ol tx).isSome=os:=⟨_,rfl⟩;have HNx:=Qh fun W (hW:Upd No (wr.alloc (.cells #[.bool rd,.int .i64 ky,.int .i64 tx,.int .i64 nt] 95)) W)=>Zkx (tx:=tx) (c:=c9) (HIx.out W hW) hl9 rfl
           rw[hov,hos]at HNx
           have hp:p3 ⟨txs,ords,A,c,B,d⟩ x1 ey et ⟨rd,ky,tx,nt⟩=(rd&&(ky==ey&&(!(tx==x1)&&(lb&&(os2&&ov2==et))))):=by
            unfold p3;simp only[Bool.and_assoc]
            by_cases hke:ky=ey
            ·rw[HNB.out,ZhZ rfl,hov,hos,show ZaE txs ⟨tx,ky,nt⟩=lb from hlb]
            ·rw[show(ky==ey)=false by simpa using hke];simp
           have hst:=hs.out;rw[X.out,Zej,hp]at hst;have HST:=Qh hst;have hrb:Upd No (wr.alloc (.cells #[.bool rd,.int .i64 ky,.int .i64 tx,.int .i64 nt] 95)) (wr.alloc (.cells #[.bool rd,.int .i64 ky,.int .i64 tx,.int .i64 nt] 95)):=Upd.refl _ _;clear hst hp hx hlb hov hos
           cases rd
           ·have HS:=Qh (show n+(l1.drop (k+1)).countP (p3 ⟨txs,ords,A,c,B,d⟩ x1 ey et)=l1.countP (p3 ⟨txs,ords,A,c,B,d⟩ x1 ey et) by rw[←HST.out];simp[*]);go_wp2
            go_roundg (gk-1)
            case measure=>omega
            case rel=>exact⟨k+1,n,by omega,by go_num,rfl,by omega,HS,(by first|exact HUB.out|exact hv6.alloc _)⟩
           ·cases hky:ky==ey
            ·have HS:=Qh (show n+(l1.drop (k+1)).countP (p3 ⟨txs,ords,A,c,B,d⟩ x1 ey et)=l1.countP (p3 ⟨txs,ords,A,c,B,d⟩ x1 ey et) by rw[←HST.out];simp[*]);go_wp2
             go_roundg (gk-1)
             case measure=>omega
             case rel=>exact⟨k+1,n,by omega,by go_num,rfl,by omega,HS,(by first|exact HUB.out|exact hv6.alloc _)⟩
            ·cases htx:tx==x1
             ·have htn:(tx != x1)=true:=by unfold bne;rw[htx];rfl
              cases lb
              ·have HS:=Qh (show n+(l1.drop (k+1)).countP (p3 ⟨txs,ords,A,c,B,d⟩ x1 ey et)=l1.countP (p3 ⟨txs,ords,A,c,B,d⟩ x1 ey et) by rw[←HST.out];simp[*])
               go_wp2_with fail
               refine(HLs.out _ hrb).mono ?_;rintro e w7 ⟨rfl,hu7⟩;have HUB:=Qh ((hv6.alloc _).trans hu7);go_wp2
               go_roundg (gk-1)
               case measure=>omega
               case rel=>exact⟨k+1,n,by omega,by go_num,rfl,by omega,HS,HUB.out⟩
              ·go_wp2_with fail
               refine(HLs.out _ hrb).mono ?_;rintro e w7 ⟨rfl,hu7⟩
               go_wp2_with fail
               refine(HNx.out _ hu7).mono ?_;rintro e w8 ⟨rfl,hu8⟩;have hu78:=hu7.trans hu8;have HUB:=Qh ((hv6.alloc _).trans hu78)
               cases os2
               ·have HS:=Qh (show n+(l1.drop (k+1)).countP (p3 ⟨txs,ords,A,c,B,d⟩ x1 ey et)=l1.countP (p3 ⟨txs,ords,A,c,B,d⟩ x1 ey et) by rw[←HST.out];simp[*]);go_wp2
                go_roundg (gk-1)
                case measure=>omega
                case rel=>exact⟨k+1,n,by omega,by go_num,rfl,by omega,HS,(by first|exact HUB.out|exact hv6.alloc _)⟩
               ·cases hq:ov2==et
                ·have HS:=Qh (show n+(l1.drop (k+1)).countP (p3 ⟨txs,ords,A,c,B,d⟩ x1 ey et)=l1.countP (p3 ⟨txs,ords,A,c,B,d⟩ x1 ey et) by rw[←HST.out];simp[*]);go_wp2
                 go_roundg (gk-1)
                 case measure=>omega
                 case rel=>exact⟨k+1,n,by omega,by go_num,rfl,by omega,HS,(by first|exact HUB.out|exact hv6.alloc _)⟩
                ·have HS:=Qh (show(n+1)+(l1.drop (k+1)).countP (p3 ⟨txs,ords,A,c,B,d⟩ x1 ey et)=l1.countP (p3 ⟨txs,ords,A,c,B,d⟩ x1 ey et) by rw[←HST.out,hky,htx,hq];simp only[Bool.and_self,Bool.not_false,if_true];omega);go_wp2
                 go_roundg (gk-1)
                 case measure=>omega
                 case rel=>exact⟨k+1,n+1,by omega,by go_num,by go_num,by omega,HS,HUB.out⟩
             ·have htn:(tx != x1)=false:=by unfold bne;rw[htx];rfl
              have HS:=Qh (show n+(l1.drop (k+1)).countP (p3 ⟨txs,ords,A,c,B,d⟩ x1 ey et)=l1.countP (p3 ⟨txs,ords,A,c,B,d⟩ x1 ey et) by rw[←HST.out];simp[*]);go_wp2
              go_roundg (gk-1)
              case measure=>omega
              case rel=>exact⟨k+1,n,by omega,by go_num,rfl,by omega,HS,(by first|exact HUB.out|exact hv6.alloc _)⟩
          ·obtain rfl:k=l1.length:=by omega
           have HS:=Qh (show n=Zf ⟨txs,ords,A,c,B,d⟩ ⟨ef,et,ek,ey⟩ by have:=hs.out;rw[List.drop_length]at this;rw[HV2.out,←this];simp);go_wp2
           go_ret
           exact⟨by rw[←HS.out];rfl,U4.out.trans hu⟩
        ·have hkb3:(ek==3)=false:=by simpa using hk3
         rw[if_neg hk3]at hv2;have HV2:=Qh hv2;clear hk3 hv2;go_wp2
         go_ret
         exact⟨by rw[HV2.out];rfl,U6.out⟩
     ·have HV:=Qh (show Zf ⟨txs,ords,A,c,B,d⟩ ⟨ef,et,ek,ey⟩=0 from Zdi (by simp only[I1.out,I2.out,D1.out,D2.out,HFT.out];rfl));go_wp2
      go_ret
      exact⟨by rw[HV.out];rfl,U4.out⟩
end
end Go.Proofs.YtblplapkdmhikaaGreat
