/- An index: it tells what the document says (tenterlaw13.tells). -/
import Derived.Test.YtblplapkdmhikaaGreatDxaj
import Derived.Test.YtblplapkdmhikaaGreatDxbh
import Derived.Test.YtblplapkdmhikaaGreatDxbk
import Derived.Test.YtblplapkdmhikaaGreatDxby
namespace Go.Proofs.YtblplapkdmhikaaGreat
set_option linter.unusedVariables false
set_option linter.unusedSimpArgs false
section
open Go.RowKit
theorem Zkd {F:Nat→Prop} {w:World} {A:Option Addr} {c:Nat} {q:List HTx} (H:Hist.lies F w ⟨q,[],A,c,none,0⟩) (i:Int):Calls Tryz.prog 121 #[.agg #[.slice A q.length c,.slice none 0 0],.int .i64 i] w fun e w'=>
  ∃A' c',e= .returned (.tuple #[.agg #[.int .i64 (oId (Za q i)),.bool (oDn (Za q i)),.slice A' (Zar (Za q i)).length c'],.bool (Za q i).isSome])∧HOps F w' A' (Zar (Za q i))∧Upd No w w':=by
 have h:=Zgs F w ⟨q,[],A,c,none,0⟩ i H;unfold Hist.val at h;simp only[List.length_nil]at h;refine h.mono ?_;intro e w' hq;unfold Zc4 at hq
 cases hf:Za q i with
 |none=>
  simp only[hf]at hq;exact⟨none,0,hq.1,fun hn=>absurd rfl hn,hq.2⟩
 |some t=>
  simp only[hf]at hq;obtain⟨⟨A',c',h1,_,h3⟩,h4⟩:=hq;exact⟨A',c',h1,h3,h4⟩
theorem Zep (q:List HTx):∀(l:List HTx) (acc:List Ver),(∀t∈l,t.ops.length≤4095)→(ZaK q acc l).length≤acc.length+4095*l.length
 |[],acc,_=>by simp[ZaK]
 |t::l,acc,h=>by
  unfold ZaK;refine Nat.le_trans (Zep q l _ (fun u hu=>h u (List.mem_cons_of_mem _ hu))) ?_;have h1:=ZcR q (Zy t) acc;have h2:(Zy t).length≤t.ops.length:=ZaW t.id t.ops _;have h3:=h t List.mem_cons_self;rw[List.length_cons];omega
theorem ZgY (q:List HTx) (i k:Int):ZaH q i k=Zg (Zar (Za q i)) k:=by
 unfold ZaH
 cases Za q i with
 |none=>rfl
 |some t=>rfl
set_option maxRecDepth 100000 in
set_option maxHeartbeats 8000000 in
theorem Zi8 {F:Nat→Prop} {w:World} {col:Nat→Nat} {g:Nat} {q:List HTx} {A:Option Addr} {c:Nat} (di dk vt vk vn:Int) (h:IX w col g q) (H:TxsY F w A q) (hc:q.length≤c) (hq:q.length≤100):
  Calls Tryz.prog 40 #[.pointer (some ⟨g,0,none⟩),.slice A q.length c,.int .i64 di,.int .i64 dk,.agg #[.int .i64 vt,.int .i64 vk,.int .i64 vn]] w fun e w'=>e= .returned (.bool true)∧Upd No w w':=by
 have hops:=Zce h.2.2;obtain⟨z,hz⟩:∃z,w.heap.size=z:=⟨_,rfl⟩;obtain⟨wb,hwb⟩:∃wb,w.alloc (.cells #[.int .i64 vt,.int .i64 vk,.int .i64 vn] 36)=wb:=⟨_,rfl⟩;have ub:Upd No w wb:=by rw[←hwb];exact(Upd.refl No w).alloc _
 have bb:Blk wb z 36 [.int .i64 vt,.int .i64 vk,.int .i64 vn]:=by rw[←hwb,←hz];exact Blk.new w _ _
 have hofew:(Zar (Za q di)).length≤4095:=by
  cases hf:Za q di with
  |none=>simp[Zar]
  |some t=>exact hops t (Zac hf).1
 have HX:=Qh (fun W (u:Upd No wb W)=>h.no (ub.trans u));have HQ:=Qh (fun W (u:Upd No wb W)=>H.upd (ub.trans u) (fun _ _=>id));have CTx:=Qh (xtx (h.no ub) di);have CF:=Qh (fun W (u:Upd No wb W)=>Zkd (c:=c) (((HQ.out W u).hist hc (by omega))) di);have HWQ:=Qh (ZgY q di dk);obtain⟨o,ho⟩:∃o,Za q di=o:=⟨_,rfl⟩;rw[ho]at CTx CF HWQ hofew;unfold ZbY at CTx;obtain⟨ti,hti⟩:∃x,oId o=x:=⟨_,rfl⟩;obtain⟨td,htd⟩:∃x,oDn o=x:=⟨_,rfl⟩;obtain⟨tl,htl⟩:∃x,Zar o=x:=⟨_,rfl⟩;obtain⟨ob,hob⟩:∃x,o.isSome=x:=⟨_,rfl⟩;rw[hti,htd,htl,hob]at CTx CF;rw[htl]at HWQ hofew;have BV:=Qh bb;have UB:=Qh ub;have HOPS:=Qh hops;clear bb ub h H ho hti htd htl hob hops
 go_enter Tryz.func40,Tryz.ntmps40
 go_wp2_with fail
 refine(CTx.out).mono ?_;rintro e w1 ⟨A1,c1,rfl,hc1,hh1,hu1⟩;obtain⟨zt,hzt⟩:∃z,w1.heap.size=z:=⟨_,rfl⟩;obtain⟨wt,hwt⟩:∃W,w1.alloc (.cells #[.int .i64 ti,.bool td,.slice A1 tl.length c1] 81)=W:=⟨_,rfl⟩;have ut:Upd No w1 wt:=by rw[←hwt];exact(Upd.refl No w1).alloc _
 have BT:=Qh (show Blk wt zt 81 [.int .i64 ti,.bool td,.slice A1 tl.length c1] by rw[←hwt,←hzt];exact Blk.new w1 _ _);have UT:=Qh (hu1.trans ut);have HHT:=Qh (HOps.upd hh1 ut (fun _ _=>id));have CFT:=Qh (CF.out wt UT.out);clear hc1 hh1 hu1 ut
 go_wp2_with fail
 refine(CFT.out).mono ?_;rintro e w2 ⟨A2x,c2x,rfl,hh2,hu2⟩;obtain⟨zu,hzu⟩:∃z,w2.heap.size=z:=⟨_,rfl⟩;obtain⟨w3,hw3⟩:∃W,w2.alloc (.cells #[.int .i64 ti,.bool td,.slice A2x tl.length c2x] 81)=W:=⟨_,rfl⟩;have u3:Upd No w2 w3:=by rw[←hw3];exact(Upd.refl No w2).alloc _
 have b3:Blk w3 zu 81 [.int .i64 ti,.bool td,.slice A2x tl.length c2x]:=by rw[←hw3,←hzu];exact Blk.new w2 _ _
 have U3:=Qh (UT.out.trans (hu2.trans u3));have V3:=Qh (UB.out.trans U3.out);have HT:=Qh (fun W (u:Upd No w3 W)=>HOps.upd HHT.out ((hu2.trans u3).trans u) (fun _ _=>id));have HU:=Qh (fun W (u:Upd No w3 W)=>HOps.upd hh2 (u3.trans u) (fun _ _=>id));have HV0:=Qh (show∀W,Upd No w3 W→W.cell? ⟨z,0,none⟩=some (.int .i64 vt) from fun W u=>(BV.out.upd (U3.out.trans u) id).cell 0);have HV1:=Qh (show∀W,Upd No w3 W→W.cell? ⟨z,1,none⟩=some (.int .i64 vk) from fun W u=>(BV.out.upd (U3.out.trans u) id).cell 1);have HV2:=Qh (show∀W,Upd No w3 W→W.cell? ⟨z,2,none⟩=some (.int .i64 vn) from fun W u=>(BV.out.upd (U3.out.trans u) id).cell 2);have BT3:=Qh (BT.out.upd (hu2.trans u3) id);have HT0:=Qh (show∀W,Upd No w3 W→W.cell? ⟨zt,0,none⟩=some (.int .i64 ti) from fun W u=>(BT3.out.upd u id).cell 0);have HT1:=Qh (show∀W,Upd No w3 W→W.cell? ⟨zt,1,none⟩=some (.bool td) from fun W u=>(BT3.out.upd u id).cell 1);have HT2:=Qh (show∀W,Upd No w3 W→W.cell? ⟨zt,2,none⟩=some (.slice A1 tl.length c1) from fun W u=>(BT3.out.upd u id).cell 2);have HU0:=Qh (show∀W,Upd No w3 W→W.cell? ⟨zu,0,none⟩=some (.int .i64 ti) from fun W u=>(b3.upd u id).cell 0);have HU1:=Qh (show∀W,Upd No w3 W→W.cell? ⟨zu,1,none⟩=some (.bool td) from fun W u=>(b3.upd u id).cell 1);have HU2:=Qh (show∀W,Upd No w3 W→W.cell? ⟨zu,2,none⟩=some (.slice A2x tl.length c2x) from fun W u=>(b3.upd u id).cell 2);have hfew:Ze tl.length:=by unfold Ze;omega
 have CIds:=Qh (fun W (u:Upd No w3 W)=>Zj0 (HX.out W (U3.out.trans u)) (by omega));have CIds2:=Qh (fun W (u:Upd No w3 W)=>Zkh (c:=c) (HQ.out W (U3.out.trans u)).1 (by omega));have CWr:=Qh (fun W (u:Upd No w3 W)=>ZeL (HX.out W (U3.out.trans u)) (by omega) dk);have CWr2:=Qh (fun W (u:Upd No w3 W)=>Zib _ W q [] A c none 0 dk ((HQ.out W (U3.out.trans u)).hist hc (by omega)));rw[ZkD]at CWr2;have CWs:=Qh (fun W (u:Upd No w3 W)=>ZfW (HX.out W (U3.out.trans u)) di dk);rw[HWQ.out]at CWs;have CWs2:=Qh (fun W (u:Upd No w3 W)=>Za5 _ W A2x c2x tl dk (HU.out W u) hfew);have CRd:=Qh (fun W (u:Upd No w3 W)=>ZeM (HX.out W (U3.out.trans u)) (by omega) ⟨vt,vk,vn⟩);have CRd2:=Qh (fun W (u:Upd No w3 W)=>Zgt (c:=c) ⟨vt,vk,vn⟩ (HQ.out W (U3.out.trans u)) (by omega) HOPS.out);have CUs:=Qh (fun W (u:Upd No w3 W)=>ZgV (HX.out W (U3.out.trans u)) (by omega) di);have CUs2:=Qh (fun W (u:Upd No w3 W)=>Zic (c:=c) di (HQ.out W (U3.out.trans u)) (by omega) HOPS.out);have CLk:=Qh (fun W (u:Upd No w3 W)=>ZgW (HX.out W (U3.out.trans u)) (by omega));have CLk2:=Qh (fun W (u:Upd No w3 W)=>Zif (HQ.out W (U3.out.trans u)) hc (by omega) HOPS.out);have CWt:=Qh (fun W (u:Upd No w3 W)=>ZfX (HX.out W (U3.out.trans u)));have CWt2:=Qh (fun W (u:Upd No w3 W)=>Zhg (c:=c) (B:= .int .i64 0) (HQ.out W (U3.out.trans u)).1 (by omega) HOPS.out);have LI:=Qh (show(q.map (·.id)).length≤1048576 by simp;omega);have LW:=Qh (show(Zn q dk).length≤1048576 from ZZ _ q (by omega))
 have LR:=Qh (show(Zs q ⟨vt,vk,vn⟩).length≤1048576 from ZZ _ q (by omega));have LU:=Qh (show(Zaw q di).length≤1048576 from ZZ _ q (by omega))
 have hLk0:(Zaq q).length≤4398046511103:=by
  have h1:=Zep q q [] HOPS.out;simp only[Zaq,List.length_nil]at h1 ⊢;omega
 obtain⟨qi,hqi⟩:∃l,q.map (·.id)=l:=⟨_,rfl⟩;obtain⟨qw,hqw⟩:∃l,Zn q dk=l:=⟨_,rfl⟩;obtain⟨qr,hqr⟩:∃l,Zs q ⟨vt,vk,vn⟩=l:=⟨_,rfl⟩;obtain⟨qu,hqu⟩:∃l,Zaw q di=l:=⟨_,rfl⟩;obtain⟨ql,hql⟩:∃l,Zaq q=l:=⟨_,rfl⟩;obtain⟨nw,hnw⟩:∃n,Zg tl dk=n:=⟨_,rfl⟩;obtain⟨ng,hng⟩:∃n,Zk q=n:=⟨_,rfl⟩;rw[hqi]at CIds CIds2 LI;rw[hqw]at CWr CWr2 LW;rw[hqr]at CRd CRd2 LR;rw[hqu]at CUs CUs2 LU;rw[hql]at CLk CLk2 hLk0;rw[hnw]at CWs CWs2;rw[hng]at CWt CWt2;simp only[List.length_nil]at CWr2;unfold Zak at CIds CIds2 CWr CRd CRd2 CUs CUs2;unfold Zkx at CWr2;unfold Za9 at CLk CLk2;unfold Ver.cells at CRd CRd2;have hLk:=hLk0;have hLkk:(ql==ql)=true:=by simp
 have lli:=LI.out;have llw:=LW.out;have llr:=LR.out;have llu:=LU.out;clear hqi hqw hqr hqu hql hnw hng b3 hu2 u3 hh2;go_wp2;have ALL:=Qh (show∀W,Upd No w3 W→Upd No w3 W∧W.cell? ⟨z,0,none⟩=some (.int .i64 vt)∧W.cell? ⟨z,1,none⟩=some (.int .i64 vk)∧W.cell? ⟨z,2,none⟩=some (.int .i64 vn)∧W.cell? ⟨zt,0,none⟩=some (.int .i64 ti)∧W.cell? ⟨zt,1,none⟩=some (.bool td)∧W.cell? ⟨zt,2,none⟩=some (.slice A1 tl.length c1)∧W.cell? ⟨zu,0,none⟩=some (.int .i64 ti)∧W.cell? ⟨zu,1,none⟩=some (.bool td)∧W.cell? ⟨zu,2,none⟩=some (.slice A2x tl.length c2x) from fun W hu=>⟨hu,HV0.out W hu,HV1.out W hu,HV2.out W hu,HT0.out W hu,HT1.out W hu,HT2.out W hu,HU0.out W hu,HU1.out W hu,HU2.out W hu⟩);have hHeld:=ALL.out _ ((Upd.refl No w3).drew);refine wp_region_noPanic ?_;refine ZdB (by kernel_rfl) ?_
 generalize w3.drew=w5 at hHeld ⊢
 refine Zu 4 (by kernel_rfl) (by kernel_rfl) 66 rfl (fun _ _ _ _ _ h=>h) (fun QQ hq hdone=> ?_);simp only[List.append,Zc,Zl,Zf,Zh,Zj];refine wpAny_of_held (S:=(fun W=>Upd No w3 W∧W.cell? ⟨z,0,none⟩=some (.int .i64 vt)∧W.cell? ⟨z,1,none⟩=some (.int .i64 vk)∧W.cell? ⟨z,2,none⟩=some (.int .i64 vn)∧W.cell? ⟨zt,0,none⟩=some (.int .i64 ti)∧W.cell? ⟨zt,1,none⟩=some (.bool td)∧W.cell? ⟨zt,2,none⟩=some (.slice A1 tl.length c1)∧W.cell? ⟨zu,0,none⟩=some (.int .i64 ti)∧W.cell? ⟨zu,1,none⟩=some (.bool td)∧W.cell? ⟨zu,2,none⟩=some (.slice A2x tl.length c2x))) _ _ _ _ ?_;refine wpL hq 0 rfl ?_;refine wpL hq 1 rfl ?_;refine wpL hq 2 rfl ?_;refine wpL hq 3 rfl ?_;refine wpD (hdone.out _ _ ?_);clear hdone hq QQ;refine Zu 5 (by kernel_rfl) (by kernel_rfl) 61 rfl (fun _ _ _ _ _ h=>h) (fun QQ hq hdone=> ?_);simp only[List.append,Zc,Zl,Zf,Zh,Zj];refine wpAny_of_held (S:=(fun W=>Upd No w3 W∧W.cell? ⟨z,0,none⟩=some (.int .i64 vt)∧W.cell? ⟨z,1,none⟩=some (.int .i64 vk)∧W.cell? ⟨z,2,none⟩=some (.int .i64 vn)∧W.cell? ⟨zt,0,none⟩=some (.int .i64 ti)∧W.cell? ⟨zt,1,none⟩=some (.bool td)∧W.cell? ⟨zt,2,none⟩=some (.slice A1 tl.length c1)∧W.cell? ⟨zu,0,none⟩=some (.int .i64 ti)∧W.cell? ⟨zu,1,none⟩=some (.bool td)∧W.cell? ⟨zu,2,none⟩=some (.slice A2x tl.length c2x))) _ _ _ _ ?_;refine wpL hq 0 rfl ?_;refine wpL hq 1 rfl ?_;refine wpR [2] ?_;refine wpC rfl (fun K hK=> ?_) AllReadyH.nil;go_simp
 (first
   |(go_at_call 122;refine(Zjh (HT.out _ hHeld.1) (HU.out _ hHeld.1) hfew hfew rfl rfl rfl).mono ?_;rintro e w2 ⟨rfl,hu2⟩))
 try (go_wp2_with fail)
 refine hK.out _ _ ?_ (fun hHeld=> ?_)
 ·(first|exact ALL.out _ (hHeld.1.trans hu4)|exact ALL.out _ (hHeld.1.trans hu2)|exact hHeld)
 clear hK K
 try simp only[Act.put,sT,sS,sZ]
 refine wpL hq 3 rfl ?_;refine wpL hq 4 rfl ?_;refine wpD (hdone.out _ _ ?_);clear hdone hq QQ;refine Zu 7 (by kernel_rfl) (by kernel_rfl) 54 rfl (fun _ _ _ _ _ h=>h) (fun QQ hq hdone=> ?_);simp only[List.append,Zc,Zl,Zf,Zh,Zj];refine wpAny_of_held (S:=(fun W=>Upd No w3 W∧W.cell? ⟨z,0,none⟩=some (.int .i64 vt)∧W.cell? ⟨z,1,none⟩=some (.int .i64 vk)∧W.cell? ⟨z,2,none⟩=some (.int .i64 vn)∧W.cell? ⟨zt,0,none⟩=some (.int .i64 ti)∧W.cell? ⟨zt,1,none⟩=some (.bool td)∧W.cell? ⟨zt,2,none⟩=some (.slice A1 tl.length c1)∧W.cell? ⟨zu,0,none⟩=some (.int .i64 ti)∧W.cell? ⟨zu,1,none⟩=some (.bool td)∧W.cell? ⟨zu,2,none⟩=some (.slice A2x tl.length c2x))) _ _ _ _ ?_;refine wpL hq 0 rfl ?_;refine wpL hq 2 rfl ?_;refine wpR [1] ?_;refine wpC rfl (fun K hK=> ?_) AllReadyH.nil;go_simp
 (first
   |(go_at_call 105;refine(CIds.out _ hHeld.1).mono ?_;rintro e w2 ⟨A2,c2,rfl,hx2,hu2⟩))
 try (go_wp2_with fail)
 refine hK.out _ _ ?_ (fun hHeld=> ?_)
 ·(first|exact ALL.out _ (hHeld.1.trans hu4)|exact ALL.out _ (hHeld.1.trans hu2)|exact hHeld)
 clear hK K
 try simp only[Act.put,sT,sS,sZ]
 refine wpR [3] ?_;refine wpC rfl (fun K hK=> ?_) AllReadyH.nil;go_simp
 (first
   |(go_at_call 123;refine(CIds2.out _ hHeld.1).mono ?_;rintro e w4 ⟨A4,c4,rfl,hx4,hu4⟩))
 try (go_wp2_with fail)
 refine hK.out _ _ ?_ (fun hHeld=> ?_)
 ·(first|exact ALL.out _ (hHeld.1.trans hu4)|exact ALL.out _ (hHeld.1.trans hu2)|exact hHeld)
 clear hK K
 try simp only[Act.put,sT,sS,sZ]
 refine wpR [4] ?_;refine wpC rfl (fun K hK=> ?_) AllReadyH.nil;go_simp
 (first
   |(go_at_call 104;refine(Zap _ _ _ _ _ _ _ _ (Ints.upd (Ints.of_own hx2) hu4 (fun _ _=>id)) (Ints.of_own hx4) (by omega)).mono ?_;rintro e w2 ⟨rfl,hu2⟩))
 try (go_wp2_with fail)
 refine hK.out _ _ ?_ (fun hHeld=> ?_)
 ·(first|exact ALL.out _ (hHeld.1.trans hu4)|exact ALL.out _ (hHeld.1.trans hu2)|exact hHeld)
 clear hK K
 try simp only[Act.put,sT,sS,sZ]
 refine wpL hq 5 rfl ?_;refine wpL hq 6 rfl ?_;refine wpD (hdone.out _ _ ?_);clear hdone hq QQ;refine Zu 10 (by kernel_rfl) (by kernel_rfl) 44 rfl (fun _ _ _ _ _ h=>h) (fun QQ hq hdone=> ?_);simp only[List.append,Zc,Zl,Zf,Zh,Zj];refine wpAny_of_held (S:=(fun W=>Upd No w3 W∧W.cell? ⟨z,0,none⟩=some (.int .i64 vt)∧W.cell? ⟨z,1,none⟩=some (.int .i64 vk)∧W.cell? ⟨z,2,none⟩=some (.int .i64 vn)∧W.cell? ⟨zt,0,none⟩=some (.int .i64 ti)∧W.cell? ⟨zt,1,none⟩=some (.bool td)∧W.cell? ⟨zt,2,none⟩=some (.slice A1 tl.length c1)∧W.cell? ⟨zu,0,none⟩=some (.int .i64 ti)∧W.cell? ⟨zu,1,none⟩=some (.bool td)∧W.cell? ⟨zu,2,none⟩=some (.slice A2x tl.length c2x))) _ _ _ _ ?_;refine wpL hq 0 rfl ?_;refine wpL hq 1 rfl ?_;refine wpL hq 3 rfl ?_;refine wpL hq 4 rfl ?_;refine wpL hq 5 rfl ?_;refine wpR [2] ?_;refine wpC rfl (fun K hK=> ?_) AllReadyH.nil;go_simp
 (first
   |(go_at_call 108;refine(CWr.out _ hHeld.1).mono ?_;rintro e w2 ⟨A2,c2,rfl,hx2,hu2⟩))
 try (go_wp2_with fail)
 refine hK.out _ _ ?_ (fun hHeld=> ?_)
 ·(first|exact ALL.out _ (hHeld.1.trans hu4)|exact ALL.out _ (hHeld.1.trans hu2)|exact hHeld)
 clear hK K
 try simp only[Act.put,sT,sS,sZ]
 refine wpR [6] ?_;refine wpC rfl (fun K hK=> ?_) AllReadyH.nil;go_simp
 (first
   |(go_at_call 95;refine(CWr2.out _ hHeld.1).mono ?_;rintro e w4 ⟨A4,c4,rfl,hx4,hu4⟩))
 try (go_wp2_with fail)
 refine hK.out _ _ ?_ (fun hHeld=> ?_)
 ·(first|exact ALL.out _ (hHeld.1.trans hu4)|exact ALL.out _ (hHeld.1.trans hu2)|exact hHeld)
 clear hK K
 try simp only[Act.put,sT,sS,sZ]
 refine wpR [7] ?_;refine wpC rfl (fun K hK=> ?_) AllReadyH.nil;go_simp
 (first
   |(go_at_call 104;refine(Zap _ _ _ _ _ _ _ _ (Ints.upd (Ints.of_own hx2) hu4 (fun _ _=>id)) (Ints.of_own hx4) (by omega)).mono ?_;rintro e w2 ⟨rfl,hu2⟩))
 try (go_wp2_with fail)
 refine hK.out _ _ ?_ (fun hHeld=> ?_)
 ·(first|exact ALL.out _ (hHeld.1.trans hu4)|exact ALL.out _ (hHeld.1.trans hu2)|exact hHeld)
 clear hK K
 try simp only[Act.put,sT,sS,sZ]
 refine wpL hq 8 rfl ?_;refine wpL hq 9 rfl ?_;refine wpD (hdone.out _ _ ?_);clear hdone hq QQ;refine Zu 11 (by kernel_rfl) (by kernel_rfl) 33 rfl (fun _ _ _ _ _ h=>h) (fun QQ hq hdone=> ?_);simp only[List.append,Zc,Zl,Zf,Zh,Zj];refine wpAny_of_held (S:=(fun W=>Upd No w3 W∧W.cell? ⟨z,0,none⟩=some (.int .i64 vt)∧W.cell? ⟨z,1,none⟩=some (.int .i64 vk)∧W.cell? ⟨z,2,none⟩=some (.int .i64 vn)∧W.cell? ⟨zt,0,none⟩=some (.int .i64 ti)∧W.cell? ⟨zt,1,none⟩=some (.bool td)∧W.cell? ⟨zt,2,none⟩=some (.slice A1 tl.length c1)∧W.cell? ⟨zu,0,none⟩=some (.int .i64 ti)∧W.cell? ⟨zu,1,none⟩=some (.bool td)∧W.cell? ⟨zu,2,none⟩=some (.slice A2x tl.length c2x))) _ _ _ _ ?_;refine wpL hq 0 rfl ?_;refine wpL hq 1 rfl ?_;refine wpL hq 2 rfl ?_;refine wpL hq 4 rfl ?_;refine wpL hq 5 rfl ?_;refine wpL hq 6 rfl ?_;refine wpR [3] ?_;refine wpC rfl (fun K hK=> ?_) AllReadyH.nil;go_simp
 (first
   |(go_at_call 109;refine(CWs.out _ hHeld.1).mono ?_;rintro e w2 ⟨rfl,rfl⟩))
 try (go_wp2_with fail)
 refine hK.out _ _ ?_ (fun hHeld=> ?_)
 ·(first|exact ALL.out _ (hHeld.1.trans hu4)|exact ALL.out _ (hHeld.1.trans hu2)|exact hHeld)
 clear hK K
 try simp only[Act.put,sT,sS,sZ]
 refine wpR [7] ?_;refine wpC rfl (fun K hK=> ?_) AllReadyH.nil;go_simp
 (first
   |(go_at_call 113;refine(CWs2.out _ hHeld.1).mono ?_;rintro e w4 ⟨rfl,hu4⟩))
 try (go_wp2_with fail)
 refine hK.out _ _ ?_ (fun hHeld=> ?_)
 ·(first|exact ALL.out _ (hHeld.1.trans hu4)|exact ALL.out _ (hHeld.1.trans hu2)|exact hHeld)
 clear hK K
 try simp only[Act.put,sT,sS,sZ]
 refine wpL hq 8 rfl ?_;refine wpL hq 9 rfl ?_;refine wpL hq 10 rfl ?_;refine wpD (hdone.out _ _ ?_);clear hdone hq QQ;refine Zu 9 (by kernel_rfl) (by kernel_rfl) 24 rfl (fun _ _ _ _ _ h=>h) (fun QQ hq hdone=> ?_);simp only[List.append,Zc,Zl,Zf,Zh,Zj];refine wpAny_of_held (S:=(fun W=>Upd No w3 W∧W.cell? ⟨z,0,none⟩=some (.int .i64 vt)∧W.cell? ⟨z,1,none⟩=some (.int .i64 vk)∧W.cell? ⟨z,2,none⟩=some (.int .i64 vn)∧W.cell? ⟨zt,0,none⟩=some (.int .i64 ti)∧W.cell? ⟨zt,1,none⟩=some (.bool td)∧W.cell? ⟨zt,2,none⟩=some (.slice A1 tl.length c1)∧W.cell? ⟨zu,0,none⟩=some (.int .i64 ti)∧W.cell? ⟨zu,1,none⟩=some (.bool td)∧W.cell? ⟨zu,2,none⟩=some (.slice A2x tl.length c2x))) _ _ _ _ ?_;refine wpL hq 0 rfl ?_;refine wpL hq 1 rfl ?_;refine wpL hq 3 rfl ?_;refine wpL hq 4 rfl ?_;refine wpR [2] ?_;refine wpC rfl (fun K hK=> ?_) AllReadyH.nil;go_simp
 (first
   |(go_at_call 106;refine(CRd.out _ hHeld.1).mono ?_;rintro e w2 ⟨A2,c2,rfl,hx2,hu2⟩))
 try (go_wp2_with fail)
 refine hK.out _ _ ?_ (fun hHeld=> ?_)
 ·(first|exact ALL.out _ (hHeld.1.trans hu4)|exact ALL.out _ (hHeld.1.trans hu2)|exact hHeld)
 clear hK K
 try simp only[Act.put,sT,sS,sZ]
 refine wpR [5] ?_;refine wpC rfl (fun K hK=> ?_) AllReadyH.nil;go_simp
 (first
   |(go_at_call 124;refine(CRd2.out _ hHeld.1).mono ?_;rintro e w4 ⟨A4,c4,rfl,hx4,hu4⟩))
 try (go_wp2_with fail)
 refine hK.out _ _ ?_ (fun hHeld=> ?_)
 ·(first|exact ALL.out _ (hHeld.1.trans hu4)|exact ALL.out _ (hHeld.1.trans hu2)|exact hHeld)
 clear hK K
 try simp only[Act.put,sT,sS,sZ]
 refine wpR [6] ?_;refine wpC rfl (fun K hK=> ?_) AllReadyH.nil;go_simp
 (first
   |(go_at_call 104;refine(Zap _ _ _ _ _ _ _ _ (Ints.upd (Ints.of_own hx2) hu4 (fun _ _=>id)) (Ints.of_own hx4) (by omega)).mono ?_;rintro e w2 ⟨rfl,hu2⟩))
 try (go_wp2_with fail)
 refine hK.out _ _ ?_ (fun hHeld=> ?_)
 ·(first|exact ALL.out _ (hHeld.1.trans hu4)|exact ALL.out _ (hHeld.1.trans hu2)|exact hHeld)
 clear hK K
 try simp only[Act.put,sT,sS,sZ]
 refine wpL hq 7 rfl ?_;refine wpL hq 8 rfl ?_;refine wpD (hdone.out _ _ ?_);clear hdone hq QQ;refine Zu 9 (by kernel_rfl) (by kernel_rfl) 15 rfl (fun _ _ _ _ _ h=>h) (fun QQ hq hdone=> ?_);simp only[List.append,Zc,Zl,Zf,Zh,Zj];refine wpAny_of_held (S:=(fun W=>Upd No w3 W∧W.cell? ⟨z,0,none⟩=some (.int .i64 vt)∧W.cell? ⟨z,1,none⟩=some (.int .i64 vk)∧W.cell? ⟨z,2,none⟩=some (.int .i64 vn)∧W.cell? ⟨zt,0,none⟩=some (.int .i64 ti)∧W.cell? ⟨zt,1,none⟩=some (.bool td)∧W.cell? ⟨zt,2,none⟩=some (.slice A1 tl.length c1)∧W.cell? ⟨zu,0,none⟩=some (.int .i64 ti)∧W.cell? ⟨zu,1,none⟩=some (.bool td)∧W.cell? ⟨zu,2,none⟩=some (.slice A2x tl.length c2x))) _ _ _ _ ?_;refine wpL hq 0 rfl ?_;refine wpL hq 1 rfl ?_;refine wpL hq 3 rfl ?_;refine wpL hq 4 rfl ?_;refine wpR [2] ?_;refine wpC rfl (fun K hK=> ?_) AllReadyH.nil;go_simp
 (first
   |(go_at_call 107;refine(CUs.out _ hHeld.1).mono ?_;rintro e w2 ⟨A2,c2,rfl,hx2,hu2⟩))
 try (go_wp2_with fail)
 refine hK.out _ _ ?_ (fun hHeld=> ?_)
 ·(first|exact ALL.out _ (hHeld.1.trans hu4)|exact ALL.out _ (hHeld.1.trans hu2)|exact hHeld)
 clear hK K
 try simp only[Act.put,sT,sS,sZ]
 refine wpR [5] ?_;refine wpC rfl (fun K hK=> ?_) AllReadyH.nil;go_simp
 (first
   |(go_at_call 125;refine(CUs2.out _ hHeld.1).mono ?_;rintro e w4 ⟨A4,c4,rfl,hx4,hu4⟩))
 try (go_wp2_with fail)
 refine hK.out _ _ ?_ (fun hHeld=> ?_)
 ·(first|exact ALL.out _ (hHeld.1.trans hu4)|exact ALL.out _ (hHeld.1.trans hu2)|exact hHeld)
 clear hK K
 try simp only[Act.put,sT,sS,sZ]
 refine wpR [6] ?_;refine wpC rfl (fun K hK=> ?_) AllReadyH.nil;go_simp
 (first
   |(go_at_call 104;refine(Zap _ _ _ _ _ _ _ _ (Ints.upd (Ints.of_own hx2) hu4 (fun _ _=>id)) (Ints.of_own hx4) (by omega)).mono ?_;rintro e w2 ⟨rfl,hu2⟩))
 try (go_wp2_with fail)
 refine hK.out _ _ ?_ (fun hHeld=> ?_)
 ·(first|exact ALL.out _ (hHeld.1.trans hu4)|exact ALL.out _ (hHeld.1.trans hu2)|exact hHeld)
 clear hK K
 try simp only[Act.put,sT,sS,sZ]
 refine wpL hq 7 rfl ?_;refine wpL hq 8 rfl ?_;refine wpD (hdone.out _ _ ?_);clear hdone hq QQ;refine Zu 7 (by kernel_rfl) (by kernel_rfl) 8 rfl (fun _ _ _ _ _ h=>h) (fun QQ hq hdone=> ?_);simp only[List.append,Zc,Zl,Zf,Zh,Zj];refine wpAny_of_held (S:=(fun W=>Upd No w3 W∧W.cell? ⟨z,0,none⟩=some (.int .i64 vt)∧W.cell? ⟨z,1,none⟩=some (.int .i64 vk)∧W.cell? ⟨z,2,none⟩=some (.int .i64 vn)∧W.cell? ⟨zt,0,none⟩=some (.int .i64 ti)∧W.cell? ⟨zt,1,none⟩=some (.bool td)∧W.cell? ⟨zt,2,none⟩=some (.slice A1 tl.length c1)∧W.cell? ⟨zu,0,none⟩=some (.int .i64 ti)∧W.cell? ⟨zu,1,none⟩=some (.bool td)∧W.cell? ⟨zu,2,none⟩=some (.slice A2x tl.length c2x))) _ _ _ _ ?_;refine wpL hq 0 rfl ?_;refine wpL hq 2 rfl ?_;refine wpR [1] ?_;refine wpC rfl (fun K hK=> ?_) AllReadyH.nil;go_simp
 (first
   |(go_at_call 102;refine(CLk.out _ hHeld.1).mono ?_;rintro e w2 ⟨A2,c2,rfl,hx2,hu2⟩))
 try (go_wp2_with fail)
 refine hK.out _ _ ?_ (fun hHeld=> ?_)
 ·(first|exact ALL.out _ (hHeld.1.trans hu4)|exact ALL.out _ (hHeld.1.trans hu2)|exact hHeld)
 clear hK K
 try simp only[Act.put,sT,sS,sZ]
 refine wpR [3] ?_;refine wpC rfl (fun K hK=> ?_) AllReadyH.nil;go_simp
 (first
   |(go_at_call 127;refine(CLk2.out _ hHeld.1).mono ?_;rintro e w4 ⟨A4,c4,rfl,hx4,hu4⟩))
 try (go_wp2_with fail)
 refine hK.out _ _ ?_ (fun hHeld=> ?_)
 ·(first|exact ALL.out _ (hHeld.1.trans hu4)|exact ALL.out _ (hHeld.1.trans hu2)|exact hHeld)
 clear hK K
 try simp only[Act.put,sT,sS,sZ]
 refine wpR [4] ?_;refine wpC rfl (fun K hK=> ?_) AllReadyH.nil;go_simp
 (first
   |(go_at_call 126;refine(Zhi _ _ _ _ _ _ _ _ _ (Recs.upd (ZU hx2) hu4 (fun _ _=>id)) (ZU hx4) hLk hLk (v:=true) hLkk).mono ?_;rintro e w2 ⟨rfl,hu2⟩))
 try (go_wp2_with fail)
 refine hK.out _ _ ?_ (fun hHeld=> ?_)
 ·(first|exact ALL.out _ (hHeld.1.trans hu4)|exact ALL.out _ (hHeld.1.trans hu2)|exact hHeld)
 clear hK K
 try simp only[Act.put,sT,sS,sZ]
 refine wpL hq 5 rfl ?_;refine wpL hq 6 rfl ?_;refine wpD (hdone.out _ _ ?_);clear hdone hq QQ;refine Zu 8 (by kernel_rfl) (by kernel_rfl) 0 rfl (fun _ _ _ _ _ h=>h) (fun QQ hq hdone=> ?_);simp only[List.append,Zc,Zl,Zf,Zh,Zj];refine wpAny_of_held (S:=(fun W=>Upd No w3 W∧W.cell? ⟨z,0,none⟩=some (.int .i64 vt)∧W.cell? ⟨z,1,none⟩=some (.int .i64 vk)∧W.cell? ⟨z,2,none⟩=some (.int .i64 vn)∧W.cell? ⟨zt,0,none⟩=some (.int .i64 ti)∧W.cell? ⟨zt,1,none⟩=some (.bool td)∧W.cell? ⟨zt,2,none⟩=some (.slice A1 tl.length c1)∧W.cell? ⟨zu,0,none⟩=some (.int .i64 ti)∧W.cell? ⟨zu,1,none⟩=some (.bool td)∧W.cell? ⟨zu,2,none⟩=some (.slice A2x tl.length c2x))) _ _ _ _ ?_;refine wpL hq 0 rfl ?_;refine wpL hq 2 rfl ?_;refine wpL hq 3 rfl ?_;refine wpR [1] ?_;refine wpC rfl (fun K hK=> ?_) AllReadyH.nil;go_simp
 (first
   |(go_at_call 110;refine(CWt.out _ hHeld.1).mono ?_;rintro e w2 ⟨rfl,rfl⟩))
 try (go_wp2_with fail)
 refine hK.out _ _ ?_ (fun hHeld=> ?_)
 ·(first|exact ALL.out _ (hHeld.1.trans hu4)|exact ALL.out _ (hHeld.1.trans hu2)|exact hHeld)
 clear hK K
 try simp only[Act.put,sT,sS,sZ]
 refine wpR [4] ?_;refine wpC rfl (fun K hK=> ?_) AllReadyH.nil;go_simp
 (first
   |(go_at_call 128;refine(CWt2.out _ hHeld.1).mono ?_;rintro e w4 ⟨rfl,hu4⟩))
 try (go_wp2_with fail)
 refine hK.out _ _ ?_ (fun hHeld=> ?_)
 ·(first|exact ALL.out _ (hHeld.1.trans hu4)|exact ALL.out _ (hHeld.1.trans hu2)|exact hHeld)
 clear hK K
 try simp only[Act.put,sT,sS,sZ]
 refine wpL hq 5 rfl ?_;refine wpL hq 6 rfl ?_;refine wpL hq 7 rfl ?_;refine wpD (hdone.out _ _ ?_);clear hdone hq QQ;refine Ze8 (NoPanic.normal ?_);go_wp2
 go_ret
 exact⟨rfl,V3.out.trans hHeld.1⟩
end
end Go.Proofs.YtblplapkdmhikaaGreat
