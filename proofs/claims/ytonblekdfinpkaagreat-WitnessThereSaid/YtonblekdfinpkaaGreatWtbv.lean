/- Edges of a history: dsg.list. -/
import Derived.Test.YtonblekdfinpkaaGreatWtbd
import Derived.Test.YtonblekdfinpkaaGreatWtbe
import Derived.Test.YtonblekdfinpkaaGreatWtbh
import Derived.Test.YtonblekdfinpkaaGreatWtbj
import Derived.Test.YtonblekdfinpkaaGreatWtbk
namespace Go.Proofs.YtonblekdfinpkaaGreat
set_option linter.unusedVariables false
set_option linter.unusedSimpArgs false
section
open Go.RowKit
structure Hvy where
 e:Edge
 n:Int
deriving DecidableEq
def Hvy.cells (h:Hvy):List Value:=[.int .i64 h.e.f,.int .i64 h.e.t,.int .i64 h.e.k,.int .i64 h.e.key,.int .i64 h.n]
def Zht (l:List Hvy):List Value:=(l.map Hvy.cells).flatten
theorem ZsF {l:List Hvy}:∀r∈l.map Hvy.cells,r.length=5:=fun r hr=>by
 obtain⟨e,_,rfl⟩:=List.mem_map.1 hr;rfl
theorem Zpu (l:List Hvy) (x:Hvy):Zht (l++[x])=Zht l++x.cells:=by unfold Zht;simp
def Hvys (F:Nat→Prop) (w:World) (A:Option Addr) (l:List Hvy):Prop:=Recs F w A 5 (l.map Hvy.cells)
theorem Hvys.upd {F S:Nat→Prop} {w w':World} {A:Option Addr} {l:List Hvy} (h:Hvys F w A l) (k:Upd S w w') (hn:∀i,F i→¬S i):Hvys F w' A l:=Recs.upd h k hn
theorem Zsf:SlT Tryz.prog 78 148 5 40:=SlT.mk_ Tryz.underlying78 (z:= .agg #[.int .i64 0,.int .i64 0,.int .i64 0,.int .i64 0,.int .i64 0]) (by kernel_rfl) rfl (by omega)
def ZrY (w:World) (l:List Hvy) (e:Ending) (w':World):Prop:=∃A c,e= .returned (.slice A l.length c)∧w'.ownsRow w.heap.size 148 5 (.slice A l.length c) l.length (Zht l)∧Upd No w w'
def hvL (g:Edge→Nat) (l:List Edge):List Hvy:=l.map fun e=>⟨e,(g e:Int)⟩
theorem ZqW {g:Edge→Nat} {l:List Edge} {k:Nat} {x:Edge} (hk:k<l.length) (hx:l[k]=x):hvL g (l.take (k+1))=hvL g (l.take k)++[⟨x,(g x:Int)⟩]:=by
 subst hx;unfold hvL;rw[List.take_succ_eq_append_getElem hk,List.map_append];rfl
set_option maxRecDepth 100000 in
set_option maxHeartbeats 8000000 in
theorem ZuT (w:World) (bc:Nat) (mc:List (Edge×Value)) (g:Edge→Nat) (hm:MapE w bc ZK mc) (hg:CntM mc g) (hl:mc.length≤1000000):
  Calls Tryz.prog 95 #[.map (some bc)] w (ZrY w (hvL g (ddE (mc.map (·.1))))):=by
 obtain⟨es,hes⟩:∃es,ddE (mc.map (·.1))=es:=⟨_,rfl⟩;rw[hes];have HES:=Qh hes;clear hes;obtain⟨w1,hw1⟩:∃w1,w.alloc (.cells #[.map (some bc)] 111)=w1:=⟨_,rfl⟩;have u1:Upd No w w1:=by rw[←hw1];exact(Upd.refl No w).alloc _
 have b1:Blk w1 w.heap.size 111 [.map (some bc)]:=by rw[←hw1];exact Blk.new w _ _
 have HK:=Qh (ZuK w (some bc));rw[hw1]at HK;have HC:=Qh (Zq7 w1 w.heap.size bc mc (by simpa using b1.cell 0) (hm.upd u1 id) hl);have HM:=Qh hm;have HG:=Qh hg;have HU1:=Qh u1;have HKL:=Qh (show(mc.map (·.1)).length≤1000000 by rw[List.length_map];exact hl);clear hm hg hw1 u1 b1
 go_enter Tryz.func95,Tryz.ntmps95
 go_wp2_with fail
 refine(HK.out).mono ?_;rintro e w2 ⟨rfl,rfl⟩
 go_wp2_with fail
 refine(HC.out).mono ?_;rintro e w3 ⟨A3,c3,ks,rfl,hpm,ho3,hu3⟩;have HP:=Qh (Zuw (Own (.slice A3 ks.length c3)) w3 A3 c3 ks (Recs.of_own ZaX (by omega) ho3) (by have:=hpm.length_eq;have:=HKL.out;omega));rw[ZlS hpm]at HP;have hv3:=HU1.out.trans hu3;clear hpm ho3 hu3
 have hel:es.length≤1000000:=by
  rw[←HES.out];have h1:=Zm8 (Zbn (mc.map (·.1))) (mc.map (·.1)).length;have h2:=HKL.out;unfold ddE;omega
 rw[HES.out]at HP
 go_wp2_with fail
 refine(HP.out).mono ?_;rintro e w4 ⟨A4,c4,rfl,hx4,hu4⟩;have HV4:=Qh (hv3.trans hu4);obtain⟨G4,hx4⟩:=hx4;have HX4:=Qh hx4;clear hx4 hu4 hv3;go_wp2
 go_loopg [3,11] es.length (fun gk s i wr=>∃(k:Nat) (A5:Option Addr) (c5:Nat) (xs:List Hvy),k+gk=es.length∧i= .int .i64 k∧s= .slice A5 xs.length c5∧Hid (xs=hvL g (es.take k))∧Hid (wr.ownsRow w4.heap.size 148 5 (.slice A5 xs.length c5) xs.length (Zht xs))∧Upd No w4 wr)
 case atStart=>exact⟨0,none,0,[],by omega,rfl,rfl,Qh rfl,Qh (World.ownsRow_nil _ _ _ _),Upd.refl _ _⟩
 case round=>
  obtain⟨k,A5,c5,xs,hgk,rfl,rfl,hs,hown,hu⟩:=hrel;have hxl:xs.length≤1000000:=by rw[hs.out];unfold hvL;rw[List.length_map,List.length_take];omega
  by_cases hlt:k<es.length
  ·obtain⟨ax,rfl,q0,q1,q2,q3⟩:=Walk.at_ (Walk.upd HX4.out hu (fun _ _=>id)) hlt;obtain⟨x,hxx⟩:∃x,es[k]=x:=⟨_,rfl⟩;rw[hxx]at q0 q1 q2 q3;have HS:=Qh (show xs++[⟨x,(g x:Int)⟩]=hvL g (es.take (k+1)) by rw[hs.out];exact(ZqW hlt hxx).symm);have i1:(0:Int)≤(k:Int):=Qn _;have i2:(k:Int)<(es.length:Int):=by omega
   obtain⟨wx,hwx⟩:∃wx,wr.alloc (.cells #[.int .i64 x.f,.int .i64 x.t,.int .i64 x.k,.int .i64 x.key] 26)=wx:=⟨_,rfl⟩;have ux:Upd No wr wx:=by rw[←hwx];exact(Upd.refl No wr).alloc _
   have bo:Blk wx wr.heap.size 26 [.int .i64 x.f,.int .i64 x.t,.int .i64 x.k,.int .i64 x.key]:=by rw[←hwx];exact Blk.new wr _ _
   have d0:∀W,Upd (Own (.slice A5 xs.length c5)) wx W→W.cell? ⟨wr.heap.size,0,none⟩=some (.int .i64 x.f):=fun W u=>by have:=(bo.upd u (fun e=>by have:=(hown.out.lt _ e).2;omega)).cell 0;simpa using this
   have d1:∀W,Upd (Own (.slice A5 xs.length c5)) wx W→W.cell? ⟨wr.heap.size,1,none⟩=some (.int .i64 x.t):=fun W u=>by have:=(bo.upd u (fun e=>by have:=(hown.out.lt _ e).2;omega)).cell 1;simpa using this
   have d2:∀W,Upd (Own (.slice A5 xs.length c5)) wx W→W.cell? ⟨wr.heap.size,2,none⟩=some (.int .i64 x.k):=fun W u=>by have:=(bo.upd u (fun e=>by have:=(hown.out.lt _ e).2;omega)).cell 2;simpa using this
   have d3:∀W,Upd (Own (.slice A5 xs.length c5)) wx W→W.cell? ⟨wr.heap.size,3,none⟩=some (.int .i64 x.key):=fun W u=>by have:=(bo.upd u (fun e=>by have:=(hown.out.lt _ e).2;omega)).cell 3;simpa using this
   obtain⟨N,hN⟩:∃N,g x=N:=⟨_,rfl⟩;rw[hN]at HS;have HWX:=Qh ((HV4.out.trans hu).trans ux)
   have L1:∀W,Upd (Own (.slice A5 xs.length c5)) wx W→(Instr.lookup 111 (.map (some bc)) (.agg #[.int .i64 x.f,.int .i64 x.t,.int .i64 x.k,.int .i64 x.key]) false).run Tryz.prog W= .ok (.int .i64 (N:Int)) W:=fun W u=>by
    have:=ZB Za0 Tryz.underlying111 Zan ((HM.out.upd (S:=No) HWX.out id).upd u (fun e=>by have h1:=(hown.out.lt _ e).1;have h2:=HM.out.lt;have h3:=HV4.out.size;omega)).is x
    rwa [HG.out.val,hN]at this
   have HO:=Qh (Za hown.out ux (fun _ _=>id));have HUX:=Qh (hu.trans ux);have HSZ:=Qh (show w4.heap.size≤wx.heap.size from(hu.trans ux).size);have hxz:Upd (Own (.slice A5 xs.length c5)) wx wx:=Upd.refl _ _;have hzd:Upd No wx (wx.alloc (.cells #[.int .i64 x.f,.int .i64 x.t,.int .i64 x.k,.int .i64 x.key,.int .i64 (N:Int)] 148)).drew:=((Upd.refl No wx).alloc _).drew;clear hxx bo ux hN hown;go_wp2;refine wp_region_noPanic ?_;refine wp_region_held_drew (S:=(fun W'=>Upd (Own (.slice A5 xs.length c5)) wx W')) (by kernel_rfl) ?_ (fun hHeld=> ?_)
   ·(first|exact(Upd.refl _ wx).drew|exact hHeld|exact hHeld.alloc _|exact hU6)
   refine wpK 0 rfl ?_;refine wpK 1 rfl ?_;refine wpK 2 rfl ?_;refine wpK 3 rfl ?_;refine wpR [4] ?_;refine wpC rfl (fun K hK=> ?_) AllReadyH.nil;go_simp;refine hK.out _ _ ?_ (fun hHeld=> ?_)
   ·(first|exact(Upd.refl _ wx).drew|exact hHeld|exact hHeld.alloc _|exact hU6)
   clear hK K
   try simp only[Act.put,sT,sS,sZ]
   refine wpK 5 rfl ?_;refine wpR [6] ?_;refine wpC rfl (fun K hK=> ?_) AllReadyH.nil;go_simp;refine hK.out _ _ ?_ (fun hHeld=> ?_)
   ·(first|exact(Upd.refl _ wx).drew|exact hHeld|exact hHeld.alloc _|exact hU6)
   clear hK K
   try simp only[Act.put,sT,sS,sZ]
   refine wpR [7] ?_;refine wpC rfl (fun K hK=> ?_) AllReadyH.nil
   (first
  |(refine Zdw (by rfl) (by rfl) Zsf (v:= .slice A5 xs.length c5) (n:=xs.length) (xs:=Zht xs) (cells:=[.int .i64 x.f,.int .i64 x.t,.int .i64 x.k,.int .i64 x.key,.int .i64 (N:Int)]) (by rfl) (by rfl) (by exact Za HO.out hzd (fun _ _=>id)) rfl (by exact ZcN) (by rfl) (by omega) (by omega) (by have:=HSZ.out;simp;omega) ?_;intro g6 c6 w6 hown6 hu6 hg6 hlt6;have hU6:Upd (Own (.slice A5 xs.length c5)) wx w6:=hHeld.trans hu6))
   refine hK.out _ _ ?_ (fun hHeld=> ?_)
   ·(first|exact(Upd.refl _ wx).drew|exact hHeld|exact hHeld.alloc _|exact hU6)
   clear hK K
   try simp only[Act.put,sT,sS,sZ]
   refine wpK 8 rfl ?_;refine wpD (NoPanic.normal ?_);have HU6:=Qh hHeld;clear hHeld;go_wp2
   go_roundg (gk-1)
   case measure=>omega
   case rel=>
    have hl1:(xs++[(⟨x,(N:Int)⟩:Hvy)]).length=xs.length+1:=by simp
    exact⟨k+1,some ⟨g6,0,none⟩,c6,xs++[⟨x,(N:Int)⟩],by omega,by go_num,by rw[hl1],HS,Qh (by rw[hl1,Zpu];exact hown6),HUX.out.then_ HU6.out (fun i e=>Or.inr (HO.out.lt i e).1)⟩
  ·obtain rfl:k=es.length:=by omega
   go_wp2
   go_ret
   have h1:=hs.out;rw[List.take_length]at h1;subst h1;exact⟨A5,c5,rfl,Zaa hown.out HV4.out.size,HV4.out.trans hu⟩
end
/- Edges of a history:dsg.Edges,Of,Count,Plain. -/
section
open Go.RowKit
def Zq4 (g:Edge→Nat):Prop:=∀mc:List (Edge×Value),CntM mc g→mc.length≤1000000
def Zoh (g:Edge→Nat) (l:List Hvy):Prop:=∀mc:List (Edge×Value),CntM mc g→hvL g (ddE (mc.map (·.1)))=l
section
variable {F:Nat→Prop} {w:World} {txs:List HTx} {ords:List HOrd} {A:Option Addr} {c:Nat} {B:Option Addr} {d:Nat} {l:List Hvy}
set_option maxRecDepth 100000 in
set_option maxHeartbeats 4000000 in
theorem ZtN (H:Hist.lies F w ⟨txs,ords,A,c,B,d⟩) (hf:Zq4 (Zbx (fun _=>true) ⟨txs,ords,A,c,B,d⟩)) (he:Zoh (Zbx (fun _=>true) ⟨txs,ords,A,c,B,d⟩) l):
  Calls Tryz.prog 45 #[.agg #[.slice A txs.length c,.slice B ords.length d]] w (ZrY w l):=by
 obtain⟨w1,hw1⟩:∃w1,w.alloc (.cells #[.slice A txs.length c,.slice B ords.length d] 50)=w1:=⟨_,rfl⟩;have u1:Upd No w w1:=by rw[←hw1];exact(Upd.refl No w).alloc _
 have b1:Blk w1 w.heap.size 50 [.slice A txs.length c,.slice B ords.length d]:=by rw[←hw1];exact Blk.new w _ _
 have HC:=Qh (ZpG F w1 txs ords A c B d (fun _=>true) (H.upd u1 (fun _ _=>id)) (Qh (fun W key _=>ZsT W key)));have d0:=b1.cell 0;have d1:=b1.cell 1;simp only[Qz,Qs]at d0 d1;have HU1:=Qh u1;have HF:=Qh hf;have HE:=Qh he;clear b1 u1 hf he H
 go_enter Tryz.func45,Tryz.ntmps45
 go_wp2_with fail
 refine(HC.out).mono ?_;rintro e w2 ⟨bc,mc,rfl,hbc,hm,hg,hu2⟩;have HL:=Qh (ZuT w2 bc mc _ hm hg (HF.out mc hg));rw[HE.out mc hg]at HL;have hv2:=HU1.out.trans hu2;clear hbc hm hg hu2
 go_wp2_with fail
 refine(HL.out).mono ?_;rintro e w3 ⟨A3,c3,rfl,ho3,hu3⟩;go_wp2
 go_ret
 exact⟨A3,c3,rfl,Zaa ho3 hv2.size,hv2.trans hu3⟩
set_option maxRecDepth 100000 in
set_option maxHeartbeats 4000000 in
theorem ZtO (e:Edge) (H:Hist.lies F w ⟨txs,ords,A,c,B,d⟩) {n:Nat} (hn:Zbx (fun k=>k==e.key) ⟨txs,ords,A,c,B,d⟩ e=n):
  Calls Tryz.prog 26 #[.agg #[.slice A txs.length c,.slice B ords.length d],.agg #[.int .i64 e.f,.int .i64 e.t,.int .i64 e.k,.int .i64 e.key]] w fun r w'=>r= .returned (.int .i64 (n:Int))∧Upd No w w':=by
 obtain⟨w1,hw1⟩:∃w1,(w.alloc (.cells #[.slice A txs.length c,.slice B ords.length d] 50)).alloc (.cells #[.int .i64 e.f,.int .i64 e.t,.int .i64 e.k,.int .i64 e.key] 26)=w1:=⟨_,rfl⟩;have u1:Upd No w w1:=by rw[←hw1];exact((Upd.refl No w).alloc _).alloc _
 have b1:Blk w1 w.heap.size 50 [.slice A txs.length c,.slice B ords.length d]:=by rw[←hw1];exact(Blk.new w _ _).alloc _
 have b2:Blk w1 (w.heap.size+1) 26 [.int .i64 e.f,.int .i64 e.t,.int .i64 e.k,.int .i64 e.key]:=by
  rw[←hw1];have:=Blk.new (w.alloc (.cells #[.slice A txs.length c,.slice B ords.length d] 50)) 26 [.int .i64 e.f,.int .i64 e.t,.int .i64 e.k,.int .i64 e.key]
  simpa using this
 have HC:=Qh (fun W0 (u0:Upd No w1 W0)=>ZpF F W0 txs ords A c B d ⟨w.heap.size+1,0,none⟩ (fun k=>k==e.key) (H.upd (u1.trans u0) (fun _ _=>id)) (Qh (fun W k u=>ZsU W k e.key (w.heap.size+1) (by simpa using(b2.upd (u0.trans u) id).cell 3))));have d0:∀W,Upd No w1 W→W.cell? ⟨w.heap.size,0,none⟩=some (.slice A txs.length c):=fun W u=>(b1.upd u id).cell 0
 have d1:∀W,Upd No w1 W→W.cell? ⟨w.heap.size,1,none⟩=some (.slice B ords.length d):=fun W u=>(b1.upd u id).cell 1
 have e0:∀W,Upd No w1 W→W.cell? ⟨w.heap.size+1,0,none⟩=some (.int .i64 e.f):=fun W u=>(b2.upd u id).cell 0
 have e1:∀W,Upd No w1 W→W.cell? ⟨w.heap.size+1,1,none⟩=some (.int .i64 e.t):=fun W u=>(b2.upd u id).cell 1
 have e2:∀W,Upd No w1 W→W.cell? ⟨w.heap.size+1,2,none⟩=some (.int .i64 e.k):=fun W u=>(b2.upd u id).cell 2
 have e3:∀W,Upd No w1 W→W.cell? ⟨w.heap.size+1,3,none⟩=some (.int .i64 e.key):=fun W u=>(b2.upd u id).cell 3
 have HU1:=Qh u1;have HN:=Qh hn;have hxz:Upd No w1 w1:=Upd.refl _ _;clear b1 b2 u1 hn H
 go_enter Tryz.func26,Tryz.ntmps26
 go_wp2;refine wp_region_noPanic ?_;refine wp_region_held_drew (S:=(fun W'=>Upd No w1 W')) (by kernel_rfl) ?_ (fun hHeld=> ?_)
 ·(first|exact hxz.drew|exact hHeld.trans hu2|exact hHeld)
 refine wpK 0 rfl ?_;refine wpK 3 rfl ?_;refine wpR [1] ?_;refine wpC rfl (fun K hK=> ?_) AllReadyH.nil;go_simp;refine hK.out _ _ ?_ (fun hHeld=> ?_)
 ·(first|exact hxz.drew|exact hHeld.trans hu2|exact hHeld)
 clear hK K
 try simp only[Act.put,sT,sS,sZ]
 refine wpR [2] ?_;refine wpC rfl (fun K hK=> ?_) AllReadyH.nil;go_simp
 (first
  |(go_at_call 61;refine Calls.mono (HC.out _ hHeld) ?_;rintro r w2 ⟨bc,mc,rfl,hbc,hm,hg,hu2⟩;have L1:∀W,Upd No w2 W→(Instr.lookup 111 (.map (some bc)) (.agg #[.int .i64 e.f,.int .i64 e.t,.int .i64 e.k,.int .i64 e.key]) false).run Tryz.prog W= .ok (.int .i64 (n:Int)) W:=(fun W u=>by have h9:=ZB Za0 Tryz.underlying111 Zan (hm.upd u id).is e;rw[hg.val,HN.out]at h9;exact h9);have hz2:Upd No w2 w2:=Upd.refl _ _;clear hbc hm hg))
 try (go_wp2_with fail)
 refine hK.out _ _ ?_ (fun hHeld=> ?_)
 ·(first|exact hxz.drew|exact hHeld.trans hu2|exact hHeld)
 clear hK K
 try simp only[Act.put,sT,sS,sZ]
 refine wpR [4] ?_;refine wpC rfl (fun K hK=> ?_) AllReadyH.nil;go_simp;refine hK.out _ _ ?_ (fun hHeld=> ?_)
 ·(first|exact hxz.drew|exact hHeld.trans hu2|exact hHeld)
 clear hK K
 try simp only[Act.put,sT,sS,sZ]
 refine wpK 5 rfl ?_;refine wpD (NoPanic.normal ?_);have HH:=Qh hHeld;clear hHeld;go_wp2
 go_ret
 exact⟨rfl,HU1.out.trans HH.out⟩
end
end
/- Edges of a history,the document's:those of a key,without counts;whether two lists are one. -/
section
open Go.RowKit
theorem Hvys.at_ {F:Nat→Prop} {w:World} {A:Option Addr} {l:List Hvy} (h:Hvys F w A l) {k:Nat} (hk:k<l.length):∃ad,A=some ad∧
  w.cell? (ad.add (k*5))=some (.int .i64 l[k].e.f)∧w.cell? ⟨(ad.add (k*5)).block,(ad.add (k*5)).off+1,none⟩=some (.int .i64 l[k].e.t)∧
  w.cell? ⟨(ad.add (k*5)).block,(ad.add (k*5)).off+2,none⟩=some (.int .i64 l[k].e.k)∧w.cell? ⟨(ad.add (k*5)).block,(ad.add (k*5)).off+3,none⟩=some (.int .i64 l[k].e.key)∧
  w.cell? ⟨(ad.add (k*5)).block,(ad.add (k*5)).off+4,none⟩=some (.int .i64 l[k].n):=by
 have hk':k<(l.map Hvy.cells).length:=by simpa using hk
 obtain⟨ad,e,_,_,hc⟩:=Recs.at_ h hk';rw[List.getElem_map]at hc;exact⟨ad,e,by simpa using hc 0 _ rfl,by simpa using hc 1 _ rfl,by simpa using hc 2 _ rfl,by simpa using hc 3 _ rfl,by simpa using hc 4 _ rfl⟩
def ZV (l:List Hvy):List Edge:=l.map (·.e)
theorem Zme {l:List Hvy} {k:Nat} {x:Hvy} (hk:k<l.length) (hx:l[k]=x):ZV (l.take (k+1))=ZV (l.take k)++[x.e]:=by
 subst hx;unfold ZV;rw[List.take_succ_eq_append_getElem hk,List.map_append];rfl
def Zgw (l:List Edge):List Value:=(l.map Edge.cells).flatten
theorem Znq (xs:List Edge) (e:Edge):Zgw (xs++[e])=Zgw xs++e.cells:=by unfold Zgw;simp
def Zu4 (w:World) (l:List Edge) (e:Ending) (w':World):Prop:=∃A c,e= .returned (.slice A l.length c)∧w'.ownsRow w.heap.size 26 4 (.slice A l.length c) l.length (Zgw l)∧Upd No w w'
set_option maxRecDepth 100000 in
set_option maxHeartbeats 4000000 in
theorem ZtM (F:Nat→Prop) (w:World) (A:Option Addr) (c:Nat) (l:List Hvy) (h:Hvys F w A l) (hl:l.length≤1000000):Calls Tryz.prog 44 #[.slice A l.length c] w (Zu4 w (ZV l)):=by
 go_enter Tryz.func44,Tryz.ntmps44
 go_wp2
 go_loopg [3,8] l.length (fun gk s i wr=>∃(k:Nat) (A5:Option Addr) (c5:Nat) (xs:List Edge),k+gk=l.length∧i= .int .i64 k∧s= .slice A5 xs.length c5∧Hid (xs=ZV (l.take k))∧Hid (wr.ownsRow w.heap.size 26 4 (.slice A5 xs.length c5) xs.length (Zgw xs))∧Upd No w wr)
 case atStart=>exact⟨0,none,0,[],by omega,rfl,rfl,Qh rfl,Qh (World.ownsRow_nil _ _ _ _),Upd.refl _ _⟩
 case round=>
  obtain⟨k,A5,c5,xs,hgk,rfl,rfl,hs,hown,hu⟩:=hrel;have hxl:xs.length≤1000000:=by rw[hs.out];unfold ZV;rw[List.length_map,List.length_take];omega
  by_cases hlt:k<l.length
  ·obtain⟨ax,rfl,q0,q1,q2,q3,q4⟩:=(h.upd hu (fun _ _=>id)).at_ hlt;obtain⟨⟨⟨xf,xt,xk,xy⟩,xn⟩,hxx⟩:∃x,l[k]=x:=⟨_,rfl⟩;rw[hxx]at q0 q1 q2 q3 q4;simp only at q0 q1 q2 q3 q4;have i1:(0:Int)≤(k:Int):=Qn _;have i2:(k:Int)<(l.length:Int):=by omega
   obtain⟨wx,hwx⟩:∃wx,wr.alloc (.cells #[.int .i64 xf,.int .i64 xt,.int .i64 xk,.int .i64 xy,.int .i64 xn] 148)=wx:=⟨_,rfl⟩;have ux:Upd No wr wx:=by rw[←hwx];exact(Upd.refl No wr).alloc _
   have bo:Blk wx wr.heap.size 148 [.int .i64 xf,.int .i64 xt,.int .i64 xk,.int .i64 xy,.int .i64 xn]:=by rw[←hwx];exact Blk.new wr _ _
   have d0:=bo.cell 0;have d1:=bo.cell 1;have d2:=bo.cell 2;have d3:=bo.cell 3;have d4:=bo.cell 4;simp only[Qz,Qs]at d0 d1 d2 d3 d4;have HUX:=Qh (hu.trans ux);have HO:=Qh (Za hown.out ux (fun _ _=>id));have hsz:=(hu.trans ux).size;have HS:=Qh (show xs++[⟨xf,xt,xk,xy⟩]=ZV (l.take (k+1)) by rw[hs.out];exact(Zme hlt hxx).symm);clear hxx bo ux hown
   go_wp2_with (at_builtin;refine ZbQ rfl rfl ZbA (base:=w.heap.size) (v:= .slice A5 xs.length c5) (n:=xs.length) (xs:=Zgw xs) (cells:=[.int .i64 xf,.int .i64 xt,.int .i64 xk,.int .i64 xy]) (by rfl) (by rfl) HO.out rfl rfl (by omega) (by omega) (by omega) ?_;intro g9 c9 w9 hown9 hu9 hg9 hlt9)
   go_roundg (gk-1)
   case measure=>omega
   case rel=>
    have hl1:(xs++[(⟨xf,xt,xk,xy⟩:Edge)]).length=xs.length+1:=by simp
    exact⟨k+1,some ⟨g9,0,none⟩,c9,xs++[⟨xf,xt,xk,xy⟩],by omega,by go_num,by rw[hl1],HS,Qh (by rw[hl1,Znq];exact hown9),HUX.out.then_ hu9 (fun i e=>Or.inr (HO.out.lt i e).1)⟩
  ·obtain rfl:k=l.length:=by omega
   go_wp2
   go_ret
   have h1:=hs.out;rw[List.take_length]at h1;subst h1;exact⟨A5,c5,rfl,hown.out,hu⟩
end
/- Edges of a history,the document's:all keys;all edges. -/
section
open Go.RowKit
def opK (l:List HOp):List Int:=l.map (·.key)
def txK (txs:List HTx):List Int:=txs.flatMap fun t=>opK t.ops
def ZcU (txs:List HTx):List Int:=Zc8 [] (txK txs)
/-! all edges -/
def hrB (h:Hist) (a kind key:Int) (bs:List HTx):List Hvy:=bs.flatMap fun b=>if 0<Zam h ⟨a,b.id,kind,key⟩ then [⟨⟨a,b.id,kind,key⟩,(Zam h ⟨a,b.id,kind,key⟩:Int)⟩] else []
def hrK (h:Hist) (a kind:Int) (ks:List Int):List Hvy:=ks.flatMap fun key=>hrB h a kind key h.txs
def hrN (h:Hist) (a:Int):Nat→List Hvy
 |0=>[]
 |n+1=>hrN h a n++hrK h a ((n:Int)+1) (ZcU h.txs)
def hrA (h:Hist) (ts:List HTx):List Hvy:=ts.flatMap fun t=>hrN h t.id 3
def ZF (h:Hist):List Hvy:=if Zb h=true then hrA h h.txs else []
end
/- Edges of a history,in plain words:what is counted is what the document counts. -/
section
open Go.RowKit
theorem Zi5 (key:Int) (e:Edge):∀l:List Int,e∈wwO key l↔e.k=1∧e.key=key∧∃i:Nat,l[i]? =some e.f∧l[i+1]? =some e.t
 |[]=>by simp[wwO]
 |[a]=>by
  simp[wwO]
 |a::b::l=>by
  have ih:=Zi5 key e (b::l)
  show e∈[⟨a,b,1,key⟩]++wwO key (b::l)↔_
  rw[List.mem_append,List.mem_singleton,ih]
  constructor
  ·rintro(rfl|⟨h1,h2,i,h3,h4⟩)
   ·exact⟨rfl,rfl,0,rfl,rfl⟩
   ·exact⟨h1,h2,i+1,h3,h4⟩
  ·rintro⟨h1,h2,i,h3,h4⟩
   cases i with
   |zero=>
    left
    simp at h3 h4;obtain⟨ef,et,ek,ey⟩:=e;simp only at h1 h2 h3 h4;subst h1 h2 h3 h4;rfl
   |succ i=>exact Or.inr ⟨h1,h2,i,h3,h4⟩
theorem Zsz (cnt:Int→Bool) (ords:List HOrd) (e:Edge):e∈wwL cnt ords↔e.k=1∧cnt e.key=true∧∃o∈ords,o.key=e.key∧∃i:Nat,o.txs[i]? =some e.f∧o.txs[i+1]? =some e.t:=by
 unfold wwL;rw[List.mem_flatMap]
 constructor
 ·rintro⟨o,ho,h⟩;unfold wwC at h
  split at h
  ·rename_i hc
   obtain⟨h1,h2,h3⟩:=(Zi5 _ _ _).1 h;exact⟨h1,by rw[h2];exact hc,o,ho,h2.symm,h3⟩
  ·cases h
 ·rintro⟨h1,h2,o,ho,h3,h4⟩;refine⟨o,ho,?_⟩;unfold wwC;rw[if_pos (by rw[h3];exact h2)];exact(Zi5 _ _ _).2 ⟨h1,h3.symm,h4⟩
/-! what was laid last -/
theorem Zip (p:Int×Int):∀(L:List ((Int×Int)×Int)) (a:Int),(∀e∈L,e.1≠p)→L.foldl (fun a e=>if e.1=p then e.2 else a) a=a
 |[],_,_=>rfl
 |e::L,a,h=>by
  rw[List.foldl_cons,if_neg (h e (List.mem_cons_self ..))];exact Zip p L a fun x hx=>h x (List.mem_cons_of_mem _ hx)
theorem ZjX (p:Int×Int) (v:Int):∀(L:List ((Int×Int)×Int)) (a:Int),(∀e∈L,e.1=p→e.2=v)→(a=v∨∃e∈L,e.1=p)→L.foldl (fun a e=>if e.1=p then e.2 else a) a=v
 |[],a,_,h=>by
  rcases h with h|⟨e,he,_⟩
  ·exact h
  ·cases he
 |e::L,a,h,h2=>by
  rw[List.foldl_cons];refine ZjX p v L _ (fun x hx=>h x (List.mem_cons_of_mem _ hx)) ?_
  by_cases hp:e.1=p
  ·rw[if_pos hp];exact Or.inl (h e (List.mem_cons_self ..) hp)
  ·rw[if_neg hp];rcases h2 with h2|⟨x,hx,hxp⟩
   ·exact Or.inl h2
   ·rcases List.mem_cons.1 hx with rfl|hx
    ·exact absurd hxp hp
    ·exact Or.inr ⟨x,hx,hxp⟩
theorem Zf0 (key:Int) (e:(Int×Int)×Int):∀(l:List Int) (a:Int),e∈ZaR key a l↔e.1.1=key∧∃i:Nat,(a::l)[i]? =some e.1.2∧l[i]? =some e.2
 |[],a=>by simp[ZaR]
 |x::l,a=>by
  show e∈((key,a),x)::ZaR key x l↔_
  rw[List.mem_cons,Zf0 key e l x]
  constructor
  ·rintro(rfl|⟨h1,i,h2,h3⟩)
   ·exact⟨rfl,0,rfl,rfl⟩
   ·exact⟨h1,i+1,h2,h3⟩
  ·rintro⟨h1,i,h2,h3⟩
   cases i with
   |zero=>
    left
    obtain⟨⟨e1,e2⟩,e3⟩:=e;simp at h1 h2 h3;subst h1 h2 h3;rfl
   |succ i=>exact Or.inr ⟨h1,i,h2,h3⟩
def Nx (ords:List HOrd) (key x y:Int):Prop:=∃o∈ords,o.key=key∧∃i:Nat,(0::o.txs)[i]? =some x∧o.txs[i]? =some y
theorem Zf1 (ords:List HOrd) (key x y:Int):((key,x),y)∈Zz ords↔Nx ords key x y:=by
 unfold Zz Nx;rw[List.mem_flatMap]
 constructor
 ·rintro⟨o,ho,h⟩;obtain⟨h1,h2⟩:=(Zf0 _ _ _ _).1 h;exact⟨o,ho,h1.symm,h2⟩
 ·rintro⟨o,ho,h1,h2⟩;exact⟨o,ho,(Zf0 _ _ _ _).2 ⟨h1.symm,h2⟩⟩
section
variable {h:Hist}
theorem ZgS (hr:Zb h=true) {i:Nat} (hi:i<h.ords.length):Zdt h.txs h.ords i=true:=by
 unfold Zb at hr;simp only[Bool.and_eq_true,List.all_eq_true,List.mem_range]at hr;exact hr.2 i hi
theorem ZfN (hr:Zb h=true):(h.ords.map (·.key)).Pairwise (·<·):=ZmB fun j hj=>by
 rw[List.length_map]at hj;have:=((Zlg hj).1 (ZgS hr hj)).1 j rfl;rw[show(h.ords.map (·.key)).getD (j+1) 0=h.ords[j+1].key by rw[List.getD_eq_getElem?_getD,List.getElem?_map,Qg hj];rfl];exact this
theorem Zde (hr:Zb h=true) {o:HOrd} (ho:o∈h.ords):o.txs.Perm (Zu h.txs o.key):=by
 obtain⟨j,hj,rfl⟩:=List.mem_iff_getElem.1 ho;have:=((Zlg hj).1 (ZgS hr hj)).2.2;rw[Zla,beq_iff_eq]at this;exact(ZaI _).symm.trans (this▸ZaI _)
theorem Zdp (hr:Zb h=true):(h.txs.map (·.id)).Nodup:=ZdR (Zc7 hr)
theorem ZhZ (hr:Zb h=true) {o:HOrd} (ho:o∈h.ords):o.txs.Nodup:=by
 refine(Zde hr ho).nodup_iff.2 ?_;unfold Zu;exact(Zdp hr).sublist (List.filter_sublist.map _)
theorem ZcH (hr:Zb h=true) {o:HOrd} (ho:o∈h.ords) {x:Int} (hx:x∈o.txs):∃t,ZT h.txs x=some t∧1≤x:=by
 have h1:=(Zde hr ho).mem_iff.1 hx;unfold Zu at h1;obtain⟨t,ht,rfl⟩:=List.mem_map.1 h1;rw[List.mem_filter,Bool.and_eq_true]at ht;refine⟨t,?_,Zha hr ht.1⟩;unfold ZT;rw[Zfo hr ht.1];simp[ht.2.1]
theorem ZfM (hr:Zb h=true) {o u:HOrd} (ho:o∈h.ords) (hu:u∈h.ords) (hk:o.key=u.key):o=u:=by
 obtain⟨i,hi,rfl⟩:=List.mem_iff_getElem.1 ho;obtain⟨j,hj,rfl⟩:=List.mem_iff_getElem.1 hu;have hp:=List.pairwise_iff_getElem.1 (ZfN hr);rcases Nat.lt_trichotomy i j with h1|h1|h1
 ·have:=hp i j (by simpa using hi) (by simpa using hj) h1;simp only[List.getElem_map]at this;omega
 ·subst h1;rfl
 ·have:=hp j i (by simpa using hj) (by simpa using hi) h1;simp only[List.getElem_map]at this;omega
theorem Zez {l:List Int} (hn:l.Nodup) {i j:Nat} {x:Int} (h1:l[i]? =some x) (h2:l[j]? =some x):i=j:=by
 obtain⟨hi,e1⟩:=List.getElem?_eq_some_iff.1 h1;obtain⟨hj,e2⟩:=List.getElem?_eq_some_iff.1 h2;exact(List.getElem_inj hn).1 (e1.trans e2.symm)
theorem ZcJ (hr:Zb h=true) {o:HOrd} (ho:o∈h.ords):(0::o.txs).Nodup:=by
 refine List.nodup_cons.2 ⟨fun hm=> ?_,ZhZ hr ho⟩;obtain⟨_,_,h1⟩:=ZcH hr ho hm;omega
theorem Nx.one (hr:Zb h=true) {key x y z:Int} (h1:Nx h.ords key x y) (h2:Nx h.ords key x z):y=z:=by
 obtain⟨o,ho,hk,i,hi,hy⟩:=h1;obtain⟨u,hu,hk2,j,hj,hz⟩:=h2;obtain rfl:=ZfM hr ho hu (hk.trans hk2.symm);obtain rfl:=Zez (ZcJ hr ho) hi hj;rw[hy]at hz;exact Option.some.inj hz
theorem Nx.ids (hr:Zb h=true) {key x y:Int} (h1:Nx h.ords key x y):(∃t,ZT h.txs y=some t)∧1≤y∧x≠y∧(x=0∨∃t,ZT h.txs x=some t):=by
 obtain⟨o,ho,hk,i,hi,hy⟩:=h1;obtain⟨t,ht,h2⟩:=ZcH hr ho (List.mem_of_getElem? hy);refine⟨⟨t,ht⟩,h2,fun e=> ?_,?_⟩
 ·subst e;have h3:(0::o.txs)[i+1]? =some x:=hy;have:=Zez (ZcJ hr ho) hi h3;omega
 ·cases i with
  |zero=>left;simpa using hi.symm
  |succ i=>
   right
   obtain⟨t2,ht2,_⟩:=ZcH hr ho (List.mem_of_getElem? (show o.txs[i]? =some x from hi));exact⟨t2,ht2⟩
theorem ZmO (hr:Zb h=true) (key x:Int):(Z8 (Zz h.ords) (key,x)=0∧∀y,¬Nx h.ords key x y)∨Nx h.ords key x (Z8 (Zz h.ords) (key,x)):=by
 by_cases hx:∃y,Nx h.ords key x y
 ·obtain⟨y,hy⟩:=hx
  right
  have:Z8 (Zz h.ords) (key,x)=y:=by
   unfold Z8;refine ZjX (key,x) y _ 0 (fun e he hp=> ?_) (Or.inr ⟨((key,x),y),(Zf1 _ _ _ _).2 hy,rfl⟩);obtain⟨p,v⟩:=e;simp only at hp;subst hp;exact Nx.one hr ((Zf1 _ _ _ _).1 he) hy
  rw[this];exact hy
 ·left
  refine⟨?_,fun y hy=>hx ⟨y,hy⟩⟩;unfold Z8;refine Zip (key,x) _ 0 fun e he hp=>hx ⟨e.2,?_⟩
  obtain⟨p,v⟩:=e;simp only at hp;subst hp;exact(Zf1 _ _ _ _).1 he
theorem Zly (hr:Zb h=true) (key x y:Int) (hy:y≠0):Z8 (Zz h.ords) (key,x)=y↔Nx h.ords key x y:=by
 rcases ZmO hr key x with ⟨h1,h2⟩|h1
 ·rw[h1];exact⟨fun e=>absurd e.symm hy,fun e=>absurd e (h2 y)⟩
 ·constructor
  ·intro e;rw[←e];exact h1
  ·intro e;exact Nx.one hr h1 e
theorem Zle (hr:Zb h=true) {o:HOrd} (ho:o∈h.ords):Ze3 h.ords o.key=o.txs:=by
 obtain⟨k,hk,rfl⟩:=List.mem_iff_getElem.1 ho;have hp:=List.pairwise_iff_getElem.1 (ZfN hr)
 have:Zi1 h.ords h.ords[k].key=k:=Zqs hk (fun j hj=>by
  have:=hp j k (by simp;omega) (by simpa using hk) hj;simp only[List.getElem_map]at this;rw[beq_eq_false_iff_ne];omega) (by simp)
 unfold Ze3;rw[this,Qg hk]
theorem Zlf {key:Int} (hn:∀o∈h.ords,o.key≠key):Ze3 h.ords key=[]:=by
 have:Zi1 h.ords key=h.ords.length:=by
  unfold Zi1;rw[List.findIdx_eq_length];intro o ho
  simpa using hn o ho
 unfold Ze3;rw[this,List.getElem?_eq_none (Nat.le_refl _)]
theorem Zo1 {l:List Int} (hn:(0::l).Nodup) (x y:Int):Zkx l x=some y↔∃i:Nat,(0::l)[i]? =some x∧l[i]? =some y:=by
 unfold Zkx
 by_cases h0:x=0
 ·subst h0;rw[if_pos rfl]
  constructor
  ·intro h;exact⟨0,rfl,h⟩
  ·rintro⟨i,h1,h2⟩;obtain rfl:=Zez hn h1 (show(0::l)[0]? =some 0 from rfl);exact h2
 ·rw[if_neg h0]
  by_cases hm:x∈l
  ·obtain⟨k,hk,hx⟩:=List.mem_iff_getElem.1 hm
   have hpos:Zq l x<l.length:=by
    unfold Zq;rw[List.findIdx_lt_length];exact⟨x,hm,by simp⟩
   have hget:l[Zq l x]? =some x:=by
    have:=List.findIdx_getElem (p:=(·==x)) (xs:=l) (w:=hpos);rw[beq_iff_eq]at this;rw[Qg hpos];exact congrArg some this
   rw[if_pos hpos]
   constructor
   ·intro h;exact⟨Zq l x+1,hget,h⟩
   ·rintro⟨i,h1,h2⟩;have:=Zez hn h1 (show(0::l)[Zq l x+1]? =some x from hget);rw[←this];exact h2
  ·have hpos:¬Zq l x<l.length:=by
    unfold Zq;rw[List.findIdx_lt_length];rintro⟨z,hz,e⟩;simp at e;subst e;exact hm hz
   rw[if_neg hpos]
   constructor
   ·intro h;cases h
   ·rintro⟨i,h1,h2⟩
    cases i with
    |zero=>exact absurd (by simpa using h1.symm) h0
    |succ i=>exact absurd (List.mem_of_getElem? (show l[i]? =some x from h1)) hm
theorem ZdE (hr:Zb h=true) (key x y:Int):ZeB h.ords key x y=true↔Nx h.ords key x y:=by
 unfold ZeB;rw[beq_iff_eq]
 by_cases hk:∃o∈h.ords,o.key=key
 ·obtain⟨o,ho,rfl⟩:=hk;rw[Zle hr ho,Zo1 (ZcJ hr ho)]
  constructor
  ·intro h1;exact⟨o,ho,rfl,h1⟩
  ·rintro⟨u,hu,hk,h1⟩;obtain rfl:=ZfM hr hu ho hk;exact h1
 ·rw[Zlf (fun o ho e=>hk ⟨o,ho,e⟩)]
  constructor
  ·intro h1;unfold Zkx Zq at h1;simp at h1
  ·rintro⟨u,hu,hk2,_⟩;exact absurd ⟨u,hu,hk2⟩ hk
end
end
/- Edges of a history,in plain words:each is counted as often as the document counts it. -/
section
open Go.RowKit
section
variable {β:Type} [DecidableEq β]
theorem Zgk (f:HTx→List β) (a:β):∀ts:List HTx,(∀u∈ts,Zn (f u) a=0)→Zn (ts.flatMap f) a=0
 |[],_=>rfl
 |u::ts,h=>by
  rw[List.flatMap_cons,Zar,h u (List.mem_cons_self ..),Zgk f a ts fun x hx=>h x (List.mem_cons_of_mem _ hx)]
theorem Zgl (f:HTx→List β) (a:β):∀ts:List HTx,(ts.map (·.id)).Nodup→∀t∈ts,(∀u∈ts,u.id≠t.id→Zn (f u) a=0)→Zn (ts.flatMap f) a=Zn (f t) a
 |[],_,_,ht,_=>by cases ht
 |u::ts,hn,t,ht,h=>by
  rw[List.map_cons,List.nodup_cons]at hn;rw[List.flatMap_cons,Zar];rcases List.mem_cons.1 ht with rfl|ht
  ·rw[Zgk f a ts fun x hx=>h x (List.mem_cons_of_mem _ hx) fun e=>hn.1 (e▸List.mem_map.2 ⟨x,hx,rfl⟩)];rfl
  ·rw[h u (List.mem_cons_self ..) fun e=>hn.1 (e▸List.mem_map.2 ⟨t,ht,rfl⟩),Zgl f a ts hn.2 t ht fun x hx=>h x (List.mem_cons_of_mem _ hx)];omega
end
theorem Zkk (id key:Int):∀l:List HOp,Zn (Zbq id l) (id,key)=(l.filter (isW key)).length
 |[]=>rfl
 |o::l=>by
  have ih:=Zkk id key l;unfold Zbq at ih ⊢
  by_cases h:isW key o=true
  ·have h2:(!o.read)=true∧o.key=key:=by unfold isW at h;simpa using h
   rw[List.filter_cons_of_pos (p:=fun o:HOp=> !o.read) h2.1,List.filter_cons_of_pos h,List.map_cons,List.length_cons,←ih];have:=Zar [(id,o.key)] ((l.filter fun o=> !o.read).map fun o=>(id,o.key)) (id,key);rw[List.singleton_append]at this;rw[this,Zes,if_pos (by rw[h2.2])];omega
  ·rw[List.filter_cons_of_neg h,←ih]
   by_cases hr:(!o.read)=true
   ·rw[List.filter_cons_of_pos (p:=fun o:HOp=> !o.read) hr,List.map_cons];have:=Zar [(id,o.key)] ((l.filter fun o=> !o.read).map fun o=>(id,o.key)) (id,key);rw[List.singleton_append]at this;rw[this,Zes,if_neg (fun e=>h (by unfold isW;rw[hr];simp[(Prod.mk.inj e).2]))];omega
   ·rw[List.filter_cons_of_neg (p:=fun o:HOp=> !o.read) hr]
theorem ZlU (id i key:Int) (hne:id≠i) (l:List HOp):Zn (Zbq id l) (i,key)=0:=by
 unfold Zn Zbq;rw[List.length_eq_zero_iff,List.filter_eq_nil_iff];intro x hx;obtain⟨o,_,rfl⟩:=List.mem_map.1 hx;simp[hne]
section
variable {h:Hist}
theorem Zer (hr:Zb h=true) (i:Int):i∈ZJ h.txs↔∃t,ZT h.txs i=some t:=by
 unfold ZJ;rw[List.mem_map]
 constructor
 ·rintro⟨t,ht,rfl⟩;rw[List.mem_filter]at ht;refine⟨t,?_⟩;unfold ZT;rw[Zfo hr ht.1];simp[ht.2]
 ·rintro⟨t,ht⟩;have h1:=Zbg ht;have h2:=Zc1 h1.1;exact⟨t,List.mem_filter.2 ⟨h2.1,h1.2⟩,h2.2⟩
theorem Zgg {i:Int} {t:HTx} (ht:ZT h.txs i=some t):t∈h.txs.filter (·.done)∧t.id=i:=by
 have h1:=Zbg ht;have h2:=Zc1 h1.1;exact⟨List.mem_filter.2 ⟨h2.1,h1.2⟩,h2.2⟩
theorem ZiF (hr:Zb h=true):((h.txs.filter (·.done)).map (·.id)).Nodup:=(Zdp hr).sublist (List.filter_sublist.map _)
theorem Zfc (hr:Zb h=true) {i:Int} {t:HTx} (ht:ZT h.txs i=some t) (key:Int):Zn (Zg h.txs) (i,key)=Z3 t.ops key:=by
 obtain⟨h1,rfl⟩:=Zgg ht;unfold Zg;rw[Zgl (fun t=>Zbq t.id t.ops) (t.id,key) _ (ZiF hr) t h1 (fun u _ hne=>ZlU _ _ _ hne _),Zkk];unfold Z3 wrN;rw[List.take_length]
def Ze6 (h:Hist) (o:HOp):Prop:=o.tx=0∨(o.tx∈ZJ h.txs∧(Zn (Zg h.txs) (o.tx,o.key):Int)=o.nth)
instance (o:HOp):Decidable (Ze6 h o):=inferInstanceAs (Decidable (_∨_))
theorem Ziq (hr:Zb h=true) (o:HOp):Ze6 h o↔Zfv h.txs ⟨o.tx,o.key,o.nth⟩=true:=by
 unfold Ze6 Zfv
 by_cases h0:o.tx=0
 ·simp[h0]
 ·rw[if_neg h0,Zer hr]
  cases hd:ZT h.txs o.tx with
  |none=>simp[h0]
  |some t=>
   have:=Zfc hr hd o.key;rw[this];simp[h0];exact eq_comm
theorem ZoL (ti:Int) (o:HOp) (e:Edge):Zn (ZQ (ZJ h.txs) (Zg h.txs) (Zz h.ords) ti o) e=
  (if (o.tx≠ti∧Ze6 h o)∧o.tx≠0∧e=⟨o.tx,ti,2,o.key⟩ then 1 else 0)+if (o.tx≠ti∧Ze6 h o)∧(Z8 (Zz h.ords) (o.key,o.tx)≠0∧Z8 (Zz h.ords) (o.key,o.tx)≠ti)∧e=⟨ti,Z8 (Zz h.ords) (o.key,o.tx),3,o.key⟩ then 1 else 0:=by
 unfold ZQ Ze6
 by_cases h1:o.tx=ti
 ·rw[if_pos h1,if_neg (fun h=>h.1.1 h1),if_neg (fun h=>h.1.1 h1),Zcf]
 ·rw[if_neg h1]
  by_cases h2:o.tx≠0∧o.tx∉ZJ h.txs
  ·rw[if_pos h2,Zcf,if_neg,if_neg]
   ·rintro⟨⟨_,h3|h3⟩,_⟩
    ·exact h2.1 h3
    ·exact h2.2 h3.1
   ·rintro⟨⟨_,h3|h3⟩,_⟩
    ·exact h2.1 h3
    ·exact h2.2 h3.1
  ·rw[if_neg h2]
   by_cases h3:o.tx≠0∧(Zn (Zg h.txs) (o.tx,o.key):Int)≠o.nth
   ·rw[if_pos h3,Zcf,if_neg,if_neg]
    ·rintro⟨⟨_,h4|h4⟩,_⟩
     ·exact h3.1 h4
     ·exact h3.2 h4.2
    ·rintro⟨⟨_,h4|h4⟩,_⟩
     ·exact h3.1 h4
     ·exact h3.2 h4.2
   ·rw[if_neg h3,Zar]
    have hL:o.tx=0∨(o.tx∈ZJ h.txs∧(Zn (Zg h.txs) (o.tx,o.key):Int)=o.nth):=by
     by_cases h0:o.tx=0
     ·exact Or.inl h0
     ·exact Or.inr ⟨Classical.byContradiction fun hh=>h2 ⟨h0,hh⟩,Classical.byContradiction fun hh=>h3 ⟨h0,hh⟩⟩
    congr 1
    ·by_cases h0:o.tx≠0
     ·rw[if_pos h0,Zes]
      by_cases he:e=⟨o.tx,ti,2,o.key⟩
      ·rw[if_pos he,if_pos ⟨⟨h1,hL⟩,h0,he⟩]
      ·rw[if_neg he,if_neg (fun hh=>he hh.2.2)]
     ·rw[if_neg h0,Zcf,if_neg (fun hh=>h0 hh.2.1)]
    ·by_cases h0:Z8 (Zz h.ords) (o.key,o.tx)≠0∧Z8 (Zz h.ords) (o.key,o.tx)≠ti
     ·rw[if_pos h0,Zes]
      by_cases he:e=⟨ti,Z8 (Zz h.ords) (o.key,o.tx),3,o.key⟩
      ·rw[if_pos he,if_pos ⟨⟨h1,hL⟩,h0,he⟩]
      ·rw[if_neg he,if_neg (fun hh=>he hh.2.2)]
     ·rw[if_neg h0,Zcf,if_neg (fun hh=>h0 hh.2.1)]
theorem ZhE (f:HOp→List Edge) (e:Edge) (p q:HOp→Bool):∀l:List HOp,(∀o∈l,(if q o=true then Zn (f o) e else 0)=if p o=true then 1 else 0)→Zn ((l.filter q).flatMap f) e=l.countP p
 |[],_=>rfl
 |o::l,hh=>by
  have ih:=ZhE f e p q l fun x hx=>hh x (List.mem_cons_of_mem _ hx)
  have h1:=hh o (List.mem_cons_self ..);rw[List.countP_cons]
  by_cases hq:q o=true
  ·rw[List.filter_cons_of_pos hq,List.flatMap_cons,Zar,ih];rw[if_pos hq]at h1;omega
  ·rw[List.filter_cons_of_neg hq,ih];rw[if_neg hq]at h1;omega
theorem Zgm (f:HOp→List Edge) (e:Edge) (q:HOp→Bool) (l:List HOp) (hh:∀o∈l,q o=true→Zn (f o) e=0):Zn ((l.filter q).flatMap f) e=0:=by
 rw[ZhE f e (fun _=>false) q l (fun o ho=>by
  by_cases hq:q o=true
  ·rw[if_pos hq,hh o ho hq];rfl
  ·rw[if_neg hq];rfl)]
 simp
theorem Zcd (cnt:Int→Bool) (LD:List Int) (LW:List (Int×Int)) (LN:List ((Int×Int)×Int)) (e:Edge) (hh:∀u∈h.txs.filter (·.done),∀o∈u.ops,Zn (ZQ LD LW LN u.id o) e=0):Zn (rdL cnt LD LW LN h.txs) e=0:=by
 unfold rdL;exact Zgk _ _ _ fun u hu=>Zgm _ _ _ _ fun o ho _=>hh u hu o ho
theorem Zgy (hr:Zb h=true) (cnt:Int→Bool) (LD:List Int) (LW:List (Int×Int)) (LN:List ((Int×Int)×Int)) (e:Edge) {t:HTx} (ht:t∈h.txs.filter (·.done)) (hh:∀u∈h.txs.filter (·.done),u.id≠t.id→∀o∈u.ops,Zn (ZQ LD LW LN u.id o) e=0)
  (p:HOp→Bool) (hp:∀o∈t.ops,(if (o.read&&cnt o.key)=true then Zn (ZQ LD LW LN t.id o) e else 0)=if p o=true then 1 else 0):Zn (rdL cnt LD LW LN h.txs) e=t.ops.countP p:=by
 unfold rdL;rw[Zgl (fun t=>rdO cnt LD LW LN t.id t.ops) e _ (ZiF hr) t ht (fun u hu hne=>Zgm _ _ _ _ fun o ho _=>hh u hu hne o ho)];exact ZhE _ _ _ _ _ hp
theorem ZdU (cnt:Int→Bool) (e:Edge) (hr:Zb h=true):e∈wwL cnt h.ords↔e.k=1∧cnt e.key=true∧e.f≠0∧Nx h.ords e.key e.f e.t:=by
 rw[Zsz]
 constructor
 ·rintro⟨h1,h2,o,ho,hk,i,h3,h4⟩;refine⟨h1,h2,fun e0=> ?_,o,ho,hk,i+1,h3,h4⟩;obtain⟨_,_,h5⟩:=ZcH hr ho (List.mem_of_getElem? h3);omega
 ·rintro⟨h1,h2,h0,o,ho,hk,i,h3,h4⟩;refine⟨h1,h2,o,ho,hk,?_⟩
  cases i with
  |zero=>exact absurd (by simpa using h3.symm) h0
  |succ i=>exact⟨i,h3,h4⟩
theorem Zgc (hr:Zb h=true) {t:HTx} (ht:ZT h.txs 0=some t):False:=by
 have h1:=Zc1 (Zbg ht).1;have:=Zha hr h1.1;omega
theorem Zm2 (hr:Zb h=true) (cnt:Int→Bool) (e:Edge):ZnJ cnt h.txs h.ords e=if cnt e.key=true then Zam h e else 0:=by
 obtain⟨ef,et,ek,ey⟩:=e;unfold ZnJ;have hro:=ZoL (h:=h)
 by_cases k1:ek=1
 ·subst k1;rw[Zcd (h:=h) cnt _ _ _ _ (fun u _ o _=>by rw[hro,if_neg (fun hh=>by have:=congrArg Edge.k hh.2.2;simp at this),if_neg (fun hh=>by have:=congrArg Edge.k hh.2.2;simp at this)])];unfold Zad;rw[Nat.add_zero]
  by_cases hc:cnt ey=true
  ·rw[if_pos hc]
   by_cases hm:(⟨ef,et,1,ey⟩:Edge)∈wwL cnt h.ords
   ·rw[if_pos hm];obtain⟨_,_,h0,hx⟩:=(ZdU cnt _ hr).1 hm;simp only at h0 hx;obtain⟨⟨t,ht⟩,h2,h3,h4⟩:=Nx.ids hr hx;obtain⟨a,ha⟩:=h4.resolve_left h0;unfold Zam;simp only[ha,ht,if_neg h3,if_true,(ZdE hr ey ef et).2 hx]
   ·rw[if_neg hm]
    symm
    unfold Zam
    cases ha:ZT h.txs ef with
    |none=>rfl
    |some a=>
     cases hb:ZT h.txs et with
     |none=>rfl
     |some b=>
      simp only
      split
      ·rfl
      ·simp only[if_true];rw[if_neg];intro hn;have hx:=(ZdE hr ey ef et).1 hn;refine hm ((ZdU cnt _ hr).2 ⟨rfl,hc,fun e0=> ?_,hx⟩);simp only at e0;subst e0;exact Zgc hr ha
  ·rw[if_neg hc,if_neg (fun hm=>hc ((ZdU cnt _ hr).1 hm).2.1)]
 ·have hw:Zad (wwL cnt h.ords) ⟨ef,et,ek,ey⟩=0:=by
   unfold Zad;rw[if_neg (fun hm=>k1 ((ZdU cnt _ hr).1 hm).1)]
  rw[hw,Nat.zero_add]
  by_cases k2:ek=2
  ·subst k2
   have hz:∀u∈h.txs.filter (·.done),u.id≠et→∀o∈u.ops,Zn (ZQ (ZJ h.txs) (Zg h.txs) (Zz h.ords) u.id o) (⟨ef,et,2,ey⟩:Edge)=0:=fun u _ hne o _=>by
    rw[hro,if_neg (fun hh=>hne (congrArg Edge.t hh.2.2).symm),if_neg (fun hh=>by have:=congrArg Edge.k hh.2.2;simp at this)]
   cases hb:ZT h.txs et with
   |none=>
    rw[Zcd (h:=h) cnt _ _ _ _ (fun u hu o ho=>hz u hu (fun e=>by
     have:=(Zer hr et).1 (by unfold ZJ;exact List.mem_map.2 ⟨u,hu,e⟩);rw[hb]at this;obtain⟨_,h9⟩:=this
     cases h9) o ho)]
    unfold Zam;simp only[hb]
    cases ZT h.txs ef<;>simp
   |some b=>
    obtain⟨hbm,hbi⟩:=Zgg hb;have hz2:∀u∈h.txs.filter (·.done),u.id≠b.id→∀o∈u.ops,Zn (ZQ (ZJ h.txs) (Zg h.txs) (Zz h.ords) u.id o) (⟨ef,et,2,ey⟩:Edge)=0:=fun u hu hne=>hz u hu (by rw[←hbi];exact hne)
    cases ha:ZT h.txs ef with
    |none=>
     rw[Zcd (h:=h) cnt _ _ _ _ (fun u hu o ho=>by
      rw[hro,if_neg (c:=_∧o.tx≠0∧_),if_neg (fun hh=>by have:=congrArg Edge.k hh.2.2;simp at this)];rintro⟨⟨_,h3⟩,h4,h5⟩;rcases h3 with h3|h3
      ·exact h4 h3
      ·obtain⟨_,h6⟩:=(Zer hr _).1 h3.1;have e1:=congrArg Edge.f h5;simp only at e1;rw[←e1,ha]at h6
       cases h6)]
     unfold Zam;simp[ha]
    |some a=>
     by_cases hft:ef=et
     ·rw[Zcd (h:=h) cnt _ _ _ _ (fun u hu o ho=>by
       rw[hro,if_neg (c:=_∧o.tx≠0∧_),if_neg (fun hh=>by have:=congrArg Edge.k hh.2.2;simp at this)];rintro⟨⟨h3,_⟩,h4,h5⟩;have e1:=congrArg Edge.f h5;have e2:=congrArg Edge.t h5;simp only at e1 e2;exact h3 (by rw[←e1,←e2,hft]))]
      unfold Zam;simp[hb,hft]
     ·by_cases hc:cnt ey=true
      ·rw[if_pos hc,Zgy (h:=h) hr cnt _ _ _ _ hbm hz2 (p2 ef ey (Z3 a.ops ey)) (fun o ho=> ?_)]
       ·unfold Zam;simp only[ha,hb,if_neg hft];rfl
       ·rw[hro,if_neg (c:=_∧(_∧_)∧_) (fun hh=>by have:=congrArg Edge.k hh.2.2;simp at this),Nat.add_zero]
        by_cases hp:p2 ef ey (Z3 a.ops ey) o=true
        ·rw[if_pos hp];unfold p2 at hp;simp only[Bool.and_eq_true,beq_iff_eq]at hp;obtain⟨⟨⟨q1,q2⟩,q3⟩,q4⟩:=hp;rw[if_pos (by rw[q1,q2,hc];rfl),if_pos];refine⟨⟨by rw[q3,hbi];exact hft,Or.inr ⟨by rw[q3];exact(Zer hr _).2 ⟨a,ha⟩,?_⟩⟩,fun e0=> ?_,by rw[q3,q2,hbi]⟩
         ·rw[q3,q2,Zfc hr ha];exact q4.symm
         ·rw[q3]at e0;subst e0;exact Zgc hr ha
        ·rw[if_neg hp]
         split
         ·rename_i hrd
          rw[if_neg];rintro⟨⟨h3,h4⟩,h5,h6⟩;have e1:=congrArg Edge.f h6;have e2:=congrArg Edge.key h6;simp only at e1 e2
          apply hp
          unfold p2;rcases h4 with h4|⟨h4,h7⟩
          ·exact absurd h4 h5
          ·rw[←e1,←e2,Zfc hr ha]at h7;rw[Bool.and_eq_true]at hrd;simp[hrd.1,←e1,←e2,h7]
         ·rfl
      ·rw[if_neg hc,Zgy (h:=h) hr cnt _ _ _ _ hbm hz2 (fun _=>false) (fun o ho=>by
        by_cases hq:(o.read&&cnt o.key)=true
        ·rw[if_pos hq,hro,if_neg,if_neg (fun hh=>by have:=congrArg Edge.k hh.2.2;simp at this)]
         ·rfl
         ·rintro⟨_,_,h6⟩;have e2:=congrArg Edge.key h6;simp only at e2;rw[Bool.and_eq_true,←e2]at hq;exact hc hq.2
        ·rw[if_neg hq];rfl)]
       simp
  ·by_cases k3:ek=3
   ·subst k3
    have hz:∀u∈h.txs.filter (·.done),u.id≠ef→∀o∈u.ops,Zn (ZQ (ZJ h.txs) (Zg h.txs) (Zz h.ords) u.id o) (⟨ef,et,3,ey⟩:Edge)=0:=fun u _ hne o _=>by
     rw[hro,if_neg (c:=_∧o.tx≠0∧_) (fun hh=>by have:=congrArg Edge.k hh.2.2;simp at this),if_neg (fun hh=>hne (congrArg Edge.f hh.2.2).symm)]
    cases ha:ZT h.txs ef with
    |none=>
     rw[Zcd (h:=h) cnt _ _ _ _ (fun u hu o ho=>hz u hu (fun e=>by
      have:=(Zer hr ef).1 (by unfold ZJ;exact List.mem_map.2 ⟨u,hu,e⟩);rw[ha]at this;obtain⟨_,h9⟩:=this
      cases h9) o ho)]
     unfold Zam;simp[ha]
    |some a=>
     obtain⟨ham,hai⟩:=Zgg ha;have hz2:∀u∈h.txs.filter (·.done),u.id≠a.id→∀o∈u.ops,Zn (ZQ (ZJ h.txs) (Zg h.txs) (Zz h.ords) u.id o) (⟨ef,et,3,ey⟩:Edge)=0:=fun u hu hne=>hz u hu (by rw[←hai];exact hne)
     cases hb:ZT h.txs et with
     |none=>
      rw[Zcd (h:=h) cnt _ _ _ _ (fun u hu o ho=>by
       rw[hro,if_neg (c:=_∧o.tx≠0∧_) (fun hh=>by have:=congrArg Edge.k hh.2.2;simp at this),if_neg];rintro⟨_,⟨h3,h4⟩,h5⟩;have e1:=congrArg Edge.t h5;simp only at e1;rcases ZmO hr o.key o.tx with h6|h6
       ·exact h3 h6.1
       ·obtain⟨⟨_,h7⟩,_⟩:=Nx.ids hr h6;rw[←e1,hb]at h7
        cases h7)]
      unfold Zam;simp[ha,hb]
     |some b=>
      by_cases hft:ef=et
      ·rw[Zcd (h:=h) cnt _ _ _ _ (fun u hu o ho=>by
        rw[hro,if_neg (c:=_∧o.tx≠0∧_) (fun hh=>by have:=congrArg Edge.k hh.2.2;simp at this),if_neg];rintro⟨_,⟨h3,h4⟩,h5⟩;have e1:=congrArg Edge.t h5;have e2:=congrArg Edge.f h5;simp only at e1 e2;exact h4 (by rw[←e1,←e2,hft]))]
       unfold Zam;simp[hb,hft]
      ·by_cases hc:cnt ey=true
       ·rw[if_pos hc,Zgy (h:=h) hr cnt _ _ _ _ ham hz2 (p3 h a.id ey et) (fun o ho=> ?_)]
        ·unfold Zam;simp only[ha,hb,if_neg hft];rfl
        ·rw[hro,if_neg (c:=_∧o.tx≠0∧_) (fun hh=>by have:=congrArg Edge.k hh.2.2;simp at this),Nat.zero_add];have het:et≠0:=fun e0=>by subst e0;exact Zgc hr hb
         by_cases hp:p3 h a.id ey et o=true
         ·rw[if_pos hp];unfold p3 at hp;simp only[Bool.and_eq_true,beq_iff_eq,Bool.not_eq_true',beq_eq_false_iff_ne]at hp;obtain⟨⟨⟨⟨q1,q2⟩,q3⟩,q4⟩,q5⟩:=hp;have hl:=(Zly hr ey o.tx et het).2 ((ZdE hr _ _ _).1 q5);rw[if_pos (by rw[q1,q2,hc];rfl),if_pos];refine⟨⟨q3,(Ziq hr o).2 q4⟩,⟨by rw[q2,hl];exact het,by rw[q2,hl,hai];exact fun e=>hft e.symm⟩,by rw[q2,hl,hai]⟩
         ·rw[if_neg hp]
          split
          ·rename_i hrd
           rw[if_neg];rintro⟨⟨h3,h4⟩,⟨h5,h6⟩,h7⟩;have e1:=congrArg Edge.t h7;have e2:=congrArg Edge.key h7;simp only at e1 e2
           apply hp
           unfold p3;rw[Bool.and_eq_true]at hrd;have h8:=(Ziq hr o).1 h4;have h9:ZeB h.ords ey o.tx et=true:=(ZdE hr _ _ _).2 ((Zly hr ey o.tx et het).1 (by rw[e2];exact e1.symm));simp[hrd.1,←e2,h3,h9];rw[e2];exact h8
          ·rfl
       ·rw[if_neg hc,Zgy (h:=h) hr cnt _ _ _ _ ham hz2 (fun _=>false) (fun o ho=>by
         by_cases hq:(o.read&&cnt o.key)=true
         ·rw[if_pos hq,hro,if_neg (c:=_∧o.tx≠0∧_) (fun hh=>by have:=congrArg Edge.k hh.2.2;simp at this),if_neg]
          ·rfl
          ·rintro⟨_,_,h6⟩;have e2:=congrArg Edge.key h6;simp only at e2;rw[Bool.and_eq_true,←e2]at hq;exact hc hq.2
         ·rw[if_neg hq];rfl)]
        simp
   ·rw[Zcd (h:=h) cnt _ _ _ _ (fun u _ o _=>by rw[hro,if_neg (fun hh=>k2 (congrArg Edge.k hh.2.2)),if_neg (fun hh=>k3 (congrArg Edge.k hh.2.2))])];unfold Zam
    cases ZT h.txs ef<;>cases ZT h.txs et<;>simp[k1,k2,k3]
end
end
/- Edges of a history,the document's:all edges are walked. -/
section
open Go.RowKit
theorem Zmu:∀(txs:List HTx),(∀t∈txs,t.ops.length≤24)→(txK txs).length≤24*txs.length
 |[],_=>by simp[txK]
 |x::l,h=>by
  have h1:=Zmu l fun t ht=>h t (List.mem_cons_of_mem _ ht)
  have h2:=h x (List.mem_cons_self ..);unfold txK at h1 ⊢;rw[List.flatMap_cons,List.length_append,List.length_cons];unfold opK at h1 ⊢;rw[List.length_map];omega
theorem Zrs (txs:List HTx) (h:∀t∈txs,t.ops.length≤24):(ZcU txs).length≤24*txs.length:=by
 have h1:=Zh2 (txK txs) [];have h2:=Zmu txs h;unfold ZcU;simp at h1;omega
end
/- Edges of a history,in plain words:the lists. -/
section
open Go.RowKit
theorem ZiI {s:List Edge} (h:s.Pairwise fun a b=>ltE a b=true):∀k,k≤s.length→ddF s k=s.take k
 |0,_=>by simp[ddF]
 |k+1,hk=>by
  have ih:=ZiI h k (by omega);rw[Zji (by omega),ih,List.take_succ_eq_append_getElem (by omega)]
  cases k with
  |zero=>exact Or.inl rfl
  |succ k=>
   right
   rw[Nat.add_sub_cancel,Qg (by omega),Qg (by omega)];intro e;have:=List.pairwise_iff_getElem.1 h k (k+1) (by omega) (by omega) (by omega);rw[Option.some.inj e,Zd3]at this
   cases this
theorem ZkN {s:List Edge} (h:s.Pairwise fun a b=>ltE a b=true):Zbn s=s:=by
 unfold Zbn;refine List.Perm.eq_of_pairwise (le:=fun a b=>(!ltOf ZaM b a)=true) (fun a b _ _ h1 h2=> ?_) (List.pairwise_mergeSort Zf6 Zf7 s) (h.imp fun {a b} hab=> ?_) (List.mergeSort_perm _ _)
 ·simp only[ZaW,Bool.not_eq_true']at h1 h2;exact Zi7 h2 h1
 ·simp only[ZaW,Bool.not_eq_true']
  cases hba:ltE b a with
  |false=>rfl
  |true=>have:=ZjU hab hba;rw[Zd3]at this;cases this
theorem Zn3 {s:List Edge} (h:s.Pairwise fun a b=>ltE a b=true):ddE s=s:=by
 unfold ddE;rw[ZkN h,ZiI h _ (Nat.le_refl _),List.take_length]
theorem ZkK {s:List Edge} (h:s.Pairwise fun a b=>ltE a b=true):s.Nodup:=h.imp fun {a b} hab e=>by subst e;rw[Zd3]at hab;cases hab
theorem ZuL {g:Edge→Nat} {l:List Hvy} (h1:(l.map (·.e)).Pairwise fun a b=>ltE a b=true) (h2:∀e,e∈l.map (·.e)↔g e≠0) (h3:∀x∈l,x.n=(g x.e:Int)):Zoh g l:=fun mc hm=>by
 have hp:(mc.map (·.1)).Perm (l.map (·.e)):=(List.perm_ext_iff_of_nodup hm.nd (ZkK h1)).2 fun a=>by rw[hm.mem,h2]
 rw[ZlS hp,Zn3 h1];unfold hvL;rw[List.map_map]
 conv=>rhs;rw[←List.map_id l]
 refine List.map_congr_left fun x hx=> ?_
 have:=h3 x hx;obtain⟨e,n⟩:=x;simp only at this;simp[this]
theorem ZuI {g:Edge→Nat} {l:List Edge} (h:∀e,g e≠0→e∈l) (hl:l.length≤1000000):Zq4 g:=fun mc hm=>by
 have h1:=hm.nd.length_le_of_subset (l₂:=l) fun a ha=>h a ((hm.mem a).1 ha)
 rw[List.length_map]at h1;omega
section
variable {h:Hist}
theorem mem_hrB {a kind key:Int} {bs:List HTx} {x:Hvy}:x∈hrB h a kind key bs↔∃b∈bs,0<Zam h ⟨a,b.id,kind,key⟩∧x=⟨⟨a,b.id,kind,key⟩,(Zam h ⟨a,b.id,kind,key⟩:Int)⟩:=by
 unfold hrB;rw[List.mem_flatMap]
 constructor
 ·rintro⟨b,hb,hx⟩
  split at hx
  ·rename_i hp;exact⟨b,hb,hp,by simpa using hx⟩
  ·cases hx
 ·rintro⟨b,hb,hp,rfl⟩;exact⟨b,hb,by rw[if_pos hp];simp⟩
theorem mem_hrK {a kind:Int} {ks:List Int} {x:Hvy}:x∈hrK h a kind ks↔∃key∈ks,∃b∈h.txs,0<Zam h ⟨a,b.id,kind,key⟩∧x=⟨⟨a,b.id,kind,key⟩,(Zam h ⟨a,b.id,kind,key⟩:Int)⟩:=by
 unfold hrK;rw[List.mem_flatMap];simp only[mem_hrB]
theorem ZqX (a:Int):hrN h a 3=hrK h a 1 (ZcU h.txs)++hrK h a 2 (ZcU h.txs)++hrK h a 3 (ZcU h.txs):=rfl
theorem mem_hrA {ts:List HTx} {x:Hvy}:x∈hrA h ts↔∃t∈ts,∃kind,(kind=1∨kind=2∨kind=3)∧x∈hrK h t.id kind (ZcU h.txs):=by
 unfold hrA;rw[List.mem_flatMap];simp only[ZqX,List.mem_append]
 constructor
 ·rintro⟨t,ht,(h1|h1)|h1⟩
  ·exact⟨t,ht,1,Or.inl rfl,h1⟩
  ·exact⟨t,ht,2,Or.inr (Or.inl rfl),h1⟩
  ·exact⟨t,ht,3,Or.inr (Or.inr rfl),h1⟩
 ·rintro⟨t,ht,kind,rfl|rfl|rfl,h1⟩
  ·exact⟨t,ht,Or.inl (Or.inl h1)⟩
  ·exact⟨t,ht,Or.inl (Or.inr h1)⟩
  ·exact⟨t,ht,Or.inr h1⟩
theorem Ziv {a kind key:Int}:∀{bs:List HTx},(bs.map (·.id)).Pairwise (·<·)→((hrB h a kind key bs).map (·.e)).Pairwise fun a b=>ltE a b=true
 |[],_=>List.Pairwise.nil
 |b::bs,hp=>by
  rw[List.map_cons,List.pairwise_cons]at hp;have ih:=Ziv (a:=a) (kind:=kind) (key:=key) hp.2
  show((((if 0<Zam h ⟨a,b.id,kind,key⟩ then [_] else []):List Hvy)++hrB h a kind key bs).map (·.e)).Pairwise _
  rw[List.map_append]
  split
  ·refine List.pairwise_cons.2 ⟨fun y hy=> ?_,ih⟩;obtain⟨x,hx,rfl⟩:=List.mem_map.1 hy;obtain⟨u,hu,_,rfl⟩:=mem_hrB.1 hx;have:=hp.1 u.id (List.mem_map.2 ⟨u,hu,rfl⟩);exact(Zbv _ _).2 (Or.inr ⟨rfl,Or.inr ⟨rfl,Or.inr ⟨rfl,this⟩⟩⟩)
  ·exact ih
theorem Ziu (hr:(h.txs.map (·.id)).Pairwise (·<·)) {a kind:Int}:∀{ks:List Int},ks.Pairwise (·<·)→((hrK h a kind ks).map (·.e)).Pairwise fun a b=>ltE a b=true
 |[],_=>List.Pairwise.nil
 |k::ks,hp=>by
  rw[List.pairwise_cons]at hp;have ih:=Ziu hr (a:=a) (kind:=kind) hp.2
  show((hrB h a kind k h.txs++hrK h a kind ks).map (·.e)).Pairwise _
  rw[List.map_append,List.pairwise_append];refine⟨Ziv hr,ih,fun y hy z hz=> ?_⟩;obtain⟨x,hx,rfl⟩:=List.mem_map.1 hy;obtain⟨v,hv,rfl⟩:=List.mem_map.1 hz;obtain⟨u,hu,_,rfl⟩:=mem_hrB.1 hx;obtain⟨k2,hk2,u2,hu2,_,rfl⟩:=mem_hrK.1 hv;have:=hp.1 k2 hk2;exact(Zbv _ _).2 (Or.inr ⟨rfl,Or.inr ⟨rfl,Or.inl this⟩⟩)
theorem Zs0 (txs:List HTx):(ZcU txs).Pairwise (·<·):=ZjD _ _ List.Pairwise.nil
theorem Ziw (hr:(h.txs.map (·.id)).Pairwise (·<·)):∀{ts:List HTx},(ts.map (·.id)).Pairwise (·<·)→((hrA h ts).map (·.e)).Pairwise fun a b=>ltE a b=true
 |[],_=>List.Pairwise.nil
 |t::ts,hp=>by
  rw[List.map_cons,List.pairwise_cons]at hp;have ih:=Ziw hr hp.2
  show((hrN h t.id 3++hrA h ts).map (·.e)).Pairwise _
  have hkk:=fun kind=>Ziu hr (a:=t.id) (kind:=kind) (Zs0 h.txs)
  rw[ZqX,List.map_append,List.map_append,List.map_append,List.pairwise_append,List.pairwise_append,List.pairwise_append];refine⟨⟨⟨hkk 1,hkk 2,fun y hy z hz=> ?_⟩,hkk 3,fun y hy z hz=> ?_⟩,ih,fun y hy z hz=> ?_⟩
  ·obtain⟨x,hx,rfl⟩:=List.mem_map.1 hy;obtain⟨v,hv,rfl⟩:=List.mem_map.1 hz;obtain⟨k2,_,u,_,_,rfl⟩:=mem_hrK.1 hx;obtain⟨k3,_,u3,_,_,rfl⟩:=mem_hrK.1 hv;exact(Zbv _ _).2 (Or.inr ⟨rfl,Or.inl (show(1:Int)<2 by decide)⟩)
  ·obtain⟨v,hv,rfl⟩:=List.mem_map.1 hz;obtain⟨k3,_,u3,_,_,rfl⟩:=mem_hrK.1 hv;rcases List.mem_append.1 hy with hy|hy
   ·obtain⟨x,hx,rfl⟩:=List.mem_map.1 hy;obtain⟨k2,_,u,_,_,rfl⟩:=mem_hrK.1 hx;exact(Zbv _ _).2 (Or.inr ⟨rfl,Or.inl (show(1:Int)<3 by decide)⟩)
   ·obtain⟨x,hx,rfl⟩:=List.mem_map.1 hy;obtain⟨k2,_,u,_,_,rfl⟩:=mem_hrK.1 hx;exact(Zbv _ _).2 (Or.inr ⟨rfl,Or.inl (show(2:Int)<3 by decide)⟩)
  ·obtain⟨v,hv,rfl⟩:=List.mem_map.1 hz;obtain⟨t2,ht2,kind,_,hx2⟩:=mem_hrA.1 hv;obtain⟨k3,_,u3,_,_,rfl⟩:=mem_hrK.1 hx2;have:=hp.1 t2.id (List.mem_map.2 ⟨t2,ht2,rfl⟩)
   have hy2:y.f=t.id:=by
    rcases List.mem_append.1 hy with hy|hy
    ·rcases List.mem_append.1 hy with hy|hy
     ·obtain⟨x,hx,rfl⟩:=List.mem_map.1 hy;obtain⟨k2,_,u,_,_,rfl⟩:=mem_hrK.1 hx;rfl
     ·obtain⟨x,hx,rfl⟩:=List.mem_map.1 hy;obtain⟨k2,_,u,_,_,rfl⟩:=mem_hrK.1 hx;rfl
    ·obtain⟨x,hx,rfl⟩:=List.mem_map.1 hy;obtain⟨k2,_,u,_,_,rfl⟩:=mem_hrK.1 hx;rfl
   exact(Zbv _ _).2 (Or.inl (by rw[hy2];exact this))
theorem ZqM (txs:List HTx) (key:Int):key∈ZcU txs↔∃t∈txs,∃o∈t.ops,o.key=key:=by
 unfold ZcU txK opK;rw[Zij,List.mem_flatMap];simp only[List.mem_map,List.not_mem_nil,false_or]
theorem ZpK (hr:Zb h=true) {e:Edge} (hc:Zam h e≠0):(∃a∈h.txs,a.id=e.f)∧(∃b∈h.txs,b.id=e.t)∧(e.k=1∨e.k=2∨e.k=3)∧e.key∈ZcU h.txs:=by
 unfold Zam at hc
 cases ha:ZT h.txs e.f with
 |none=>rw[ha]at hc;exact absurd rfl hc
 |some a=>
  cases hb:ZT h.txs e.t with
  |none=>rw[ha,hb]at hc;exact absurd rfl hc
  |some b=>
   rw[ha,hb]at hc;simp only at hc;obtain⟨ha1,ha2⟩:=Zc1 (Zbg ha).1;obtain⟨hb1,hb2⟩:=Zc1 (Zbg hb).1;refine⟨⟨a,ha1,ha2⟩,⟨b,hb1,hb2⟩,?_⟩;rw[ZqM]
   split at hc
   ·exact absurd rfl hc
   ·split at hc
    ·rename_i hk
     refine⟨Or.inl hk,?_⟩
     split at hc
     ·rename_i hn
      obtain⟨o,ho,hok,i,hi,hy⟩:=(ZdE hr _ _ _).1 hn;have hw:=(Zde hr ho).mem_iff.1 (List.mem_of_getElem? hy);unfold Zu at hw;obtain⟨t,ht,_⟩:=List.mem_map.1 hw;rw[List.mem_filter,Bool.and_eq_true,List.contains_iff_mem]at ht;have hk2:=ht.2.2;unfold ZcI at hk2;rw[Zei]at hk2;unfold Zbw at hk2;obtain⟨op,hop,hopk⟩:=List.mem_map.1 hk2;rw[List.mem_filter]at hop;exact⟨t,ht.1,op,hop.1,hopk.trans hok⟩
     ·exact absurd rfl hc
    ·split at hc
     ·rename_i hk
      refine⟨Or.inr (Or.inl hk),?_⟩;obtain⟨o,ho,hp⟩:=List.countP_pos_iff.1 (Nat.pos_of_ne_zero hc);unfold p2 at hp;simp only[Bool.and_eq_true,beq_iff_eq]at hp;exact⟨b,hb1,o,ho,hp.1.1.2⟩
     ·split at hc
      ·rename_i hk
       refine⟨Or.inr (Or.inr hk),?_⟩;obtain⟨o,ho,hp⟩:=List.countP_pos_iff.1 (Nat.pos_of_ne_zero hc);unfold p3 at hp;simp only[Bool.and_eq_true,beq_iff_eq]at hp;exact⟨a,ha1,o,ho,hp.1.1.1.2⟩
      ·exact absurd rfl hc
theorem ZbJ (hr:Zb h=true) {x:Hvy}:x∈ZF h↔Zam h x.e≠0∧x.n=(Zam h x.e:Int):=by
 unfold ZF;rw[if_pos hr,mem_hrA]
 constructor
 ·rintro⟨t,_,kind,_,hx⟩;obtain⟨key,_,b,_,h1,rfl⟩:=mem_hrK.1 hx;exact⟨by simp only;omega,rfl⟩
 ·rintro⟨h1,h2⟩;obtain⟨⟨a,ha,hae⟩,⟨b,hb,hbe⟩,hk,hkey⟩:=ZpK hr h1;refine⟨a,ha,x.e.k,hk,mem_hrK.2 ⟨x.e.key,hkey,b,hb,?_⟩⟩;obtain⟨⟨ef,et,ek,ey⟩,n⟩:=x;simp only at*;subst hae hbe h2;exact⟨by omega,rfl⟩
theorem ZfP:((ZF h).map (·.e)).Pairwise fun a b=>ltE a b=true:=by
 unfold ZF
 split
 ·rename_i hr;exact Ziw (Zc7 hr) (Zc7 hr)
 ·exact List.Pairwise.nil
theorem ZgD (cnt:Int→Bool) (e:Edge):Zbx cnt h e=if Zb h=true then (if cnt e.key=true then Zam h e else 0) else 0:=by
 unfold Zbx
 split
 ·rename_i hr;exact Zm2 hr cnt e
 ·rfl
theorem ZnT:Zoh (Zbx (fun _=>true) h) (ZF h):=by
 refine ZuL ZfP (fun e=> ?_) fun x hx=> ?_
 ·rw[ZgD]
  by_cases hr:Zb h=true
  ·rw[if_pos hr,if_pos rfl,List.mem_map]
   constructor
   ·rintro⟨x,hx,rfl⟩;exact((ZbJ hr).1 hx).1
   ·intro hc;exact⟨⟨e,(Zam h e:Int)⟩,(ZbJ hr).2 ⟨hc,rfl⟩,rfl⟩
  ·rw[if_neg hr];unfold ZF;rw[if_neg hr];simp
 ·by_cases hr:Zb h=true
  ·rw[ZgD,if_pos hr,if_pos rfl];exact((ZbJ hr).1 hx).2
  ·unfold ZF at hx;rw[if_neg hr]at hx;cases hx
theorem ZmY (a kind key:Int):∀bs:List HTx,(hrB h a kind key bs).length≤bs.length
 |[]=>Nat.le_refl _
 |b::bs=>by
  have:=ZmY a kind key bs
  show((((if 0<Zam h ⟨a,b.id,kind,key⟩ then [_] else []):List Hvy)++hrB h a kind key bs)).length≤_
  rw[List.length_append,List.length_cons]
  split<;>simp<;>omega
theorem ZgC (a kind:Int) (n:h.txs.length≤12):∀ks:List Int,(hrK h a kind ks).length≤12*ks.length
 |[]=>Nat.le_refl _
 |k::ks=>by
  have h1:=ZgC a kind n ks;have h2:=ZmY (h:=h) a kind k h.txs
  show(hrB h a kind k h.txs++hrK h a kind ks).length≤_
  rw[List.length_append,List.length_cons];omega
theorem ZmZ (n:h.txs.length≤12) (n2:(ZcU h.txs).length≤288):∀ts:List HTx,(hrA h ts).length≤10368*ts.length
 |[]=>Nat.le_refl _
 |t::ts=>by
  have h1:=ZmZ n n2 ts;have h2:=ZgC (h:=h) t.id 1 n (ZcU h.txs);have h3:=ZgC (h:=h) t.id 2 n (ZcU h.txs);have h4:=ZgC (h:=h) t.id 3 n (ZcU h.txs)
  show(hrN h t.id 3++hrA h ts).length≤_
  rw[ZqX,List.length_append,List.length_append,List.length_append,List.length_cons];omega
theorem ZnS (n:h.txs.length≤12) (n2:∀t∈h.txs,t.ops.length≤24):(ZF h).length≤200000:=by
 unfold ZF
 split
 ·have h1:=Zrs h.txs n2;have:=ZmZ n (by omega) h.txs;omega
 ·simp
theorem ZsP (n:h.txs.length≤12) (n2:∀t∈h.txs,t.ops.length≤24) (cnt:Int→Bool):Zq4 (Zbx cnt h):=by
 refine ZuI (l:=(ZF h).map (·.e)) (fun e hg=> ?_) (by rw[List.length_map];have:=ZnS n n2;omega);rw[ZgD]at hg
 by_cases hr:Zb h=true
 ·rw[if_pos hr]at hg
  by_cases hc:cnt e.key=true
  ·rw[if_pos hc]at hg;exact List.mem_map.2 ⟨⟨e,(Zam h e:Int)⟩,(ZbJ hr).2 ⟨hg,rfl⟩,rfl⟩
  ·rw[if_neg hc]at hg;exact absurd rfl hg
 ·rw[if_neg hr]at hg;exact absurd rfl hg
theorem ZpI (e:Edge):Zbx (fun k=>k==e.key) h e=ZdI h e:=by
 rw[ZgD];unfold ZdI;simp
end
end
end Go.Proofs.YtonblekdfinpkaaGreat
