/- A history cloned (history.clone): rows of the call's own. -/
import Derived.Test.YtadmgiljchgccaaGreatTcaf
import Derived.Test.YtadmgiljchgccaaGreatTcam
namespace Go.Proofs.YtadmgiljchgccaaGreat
open Go.RowKit
set_option linter.unusedVariables false
set_option linter.unusedSimpArgs false
set_option maxRecDepth 100000
set_option maxHeartbeats 4000000
def ZpL(w:I0)(txs:List HTx)(ords:List HOrd)(v:Iz)(w':I0):Prop:=
 ∃A c l B d m,v= .agg #[.slice A (List.length l) c,.slice B (List.length m) d]∧l.map txP=txs.map txP∧m.map orP=ords.map orP∧
  w'.ownsRow w.heap.size 39 3 (.slice A l.length c) l.length (txF l)∧w'.ownsRow w.heap.size 68 2 (.slice B m.length d) m.length (orF m)∧
  (∀i,Own (.slice A l.length c) i->¬Own (.slice B m.length d) i)∧
  (∀t∈l,t.lies (fun i=>w.heap.size<=i∧¬Own (.slice A l.length c) i∧¬Own (.slice B m.length d) i) w')∧
  (∀t∈m,t.lies (fun i=>w.heap.size<=i∧¬Own (.slice A l.length c) i∧¬Own (.slice B m.length d) i) w')
theorem Zwj{F:Iw}{w:I0}{txs:List HTx}{ords:List HOrd}{A:OA}{c:Nat}{B:OA}{d:Nat}(H:Hist.lies F w ⟨txs,ords,A,c,B,d⟩)(h1:txs.length<=1000000)(h2:ords.length<=1000000):
  Calls Tryz.prog 143 #[.agg #[.slice A txs.length c,.slice B ords.length d]] w fun e w'=>∃v,e= .returned v∧ZpL w txs ords v w'∧Upd No w w':=by
 obtain⟨z,hz⟩:=Qe w.heap.size;obtain⟨w1,ap⟩:=Qe (w.alloc (.cells #[.slice A txs.length c,.slice B ords.length d] 25));have s1:w1.heap.size=z+1:=by rw[<-ap,<-hz];simp
 obtain⟨w2,bZ⟩:=Qe (w1.alloc (.cells #[.slice none 0 0,.slice none 0 0] 25));have s2:w2.heap.size=z+2:=by rw[<-bZ];simp;omega
 obtain⟨wb,ag⟩:=Qe (w2.alloc (.cells #[.slice none 0 0,.slice none 0 0] 25));have s3:wb.heap.size=z+3:=by rw[<-ag];simp;omega
 have u1:Upd No w w1:=by rw[<-ap];exact(Il No w).alloc _
 have u2:Upd No w1 w2:=by rw[<-bZ];exact(Il No w1).alloc _
 have u3:Upd No w2 wb:=by rw[<-ag];exact(Il No w2).alloc _
 have uB:Upd No w wb:=(u1.trans u2).trans u3
 have b0:Blk wb z 25 [.slice A txs.length c,.slice B ords.length d]:=by
  have:Blk w1 z 25 [.slice A txs.length c,.slice B ords.length d]:=by rw[<-ap,<-hz];exact Im w _ _
  exact this.upd (u2.trans u3) id
 have b1:Blk wb (z+1) 25 [.slice none 0 0,.slice none 0 0]:=by
  have:Blk w2 (z+1) 25 [.slice none 0 0,.slice none 0 0]:=by rw[<-bZ,<-s1];exact Im w1 _ _
  exact this.upd u3 id
 have b2:Blk wb (z+2) 25 [.slice none 0 0,.slice none 0 0]:=by rw[<-ag,<-s2];exact Im w2 _ _
 have HB:=Qh ((H.weak (G:=fun i=>i<z) (fun i hi _=>by omega)).upd uB Qo);have UB:=Qh uB;have BR:=Qh b1;have BC:=Qh b2;have BH:=Qh b0;have SB:=Qh s3;have HZ:=Qh hz;have c0:=b0.cell 0;simp only[Qz]at c0;clear u1 u2 u3 uB b0 b1 b2 H;have bG:∀W,Upd (One (z+2)) wb W->W.cell? ⟨z,0,none⟩=some (.slice A txs.length c):=fun W u=>u.keep c0 (fun e=>by cases e)
 have hnd:∀W,Upd (One (z+2)) wb W->W.cell? ⟨z,1,none⟩=some (.slice B ords.length d):=fun W u=>u.keep (BH.out.cell 1) (fun e=>by cases e)
 have dK:Upd (One (z+2)) wb wb:=Il _ _;go_enter Tryz.func143,Tryz.ntmps143;go_wp2
 go_loopg [11] txs.length (fun gk s wr=>∃(k:Nat) (A5:OA) (c5:Nat) (xs:List HTx),k+gk=txs.length∧s= Qi (k:Int)∧Hid (xs.map txP=(txs.take k).map txP)∧Hid (Blk wr (z+2) 25 [.slice A5 xs.length c5,.slice none 0 0])∧Hid (wr.ownsRow (z+3) 39 3 (.slice A5 xs.length c5) xs.length (txF xs))∧Hid (∀t∈xs,t.lies (fun i=>z+3<=i∧¬Own (.slice A5 xs.length c5) i) wr)∧Upd (One (z+2)) wb wr)
 case atStart=>exact⟨0,none,0,[],by omega,rfl,Qh rfl,Qh BC.out,Qh (Ik _ _ _ _),Qh (fun t ht=>by cases ht),dK⟩
 case round=>
  obtain⟨k,A5,c5,xs,aI,rfl,hs,cN,ae,cK,hu⟩:=hrel
  have hxl:xs.length<=1000000:=by
   have h3:=congrArg List.length hs.out;rw[Hw,Hw,Hm]at h3;omega
  have kv:=hu.size
  by_cases hlt:k<txs.length
  ·obtain⟨ad,aH,q0,q1,q2⟩:=ZdB (Recs.upd HB.out.txs hu (fun i h e=>by cases e;omega)) hlt;have bK:=(HB.out.tx txs[k] (Hg hlt)).upd hu (fun i h e=>by cases e;omega);simp only at aH q0 q1 q2 bK;obtain⟨x,hx⟩:=Qe (txs[k]);simp only[hx]at q0 q1 q2 bK;subst aH;have HS:=Qh (show(xs.map txP++[txP x])=(txs.take (k+1)).map txP by rw[Gb hlt,Hu,hs.out,hx];rfl);have ex:=Qh bK;have b2:(k:Int)<(txs.length:Int):=by omega
   have b1:(0:Int)<=(k:Int):=Qn _;clear hx bK;obtain⟨wx,aJ⟩:=Qe (wr.alloc (.cells #[Qi x.id,.bool x.done,.slice x.A x.ops.length x.c] 39));have ux:Upd No wr wx:=by rw[<-aJ];exact(Il No wr).alloc _
   have bX:Blk wx wr.heap.size 39 [Qi x.id,.bool x.done,.slice x.A x.ops.length x.c]:=by rw[<-aJ];exact Im wr _ _
   have sy:wx.heap.size=wr.heap.size+1:=by rw[<-aJ];simp
   have HO:=Qh (Za ae.out ux Qo);have dG:=Qh (cN.out.upd ux id);have aG:=Qh ae.out.lt;have i9:=Qh (show¬(Own (.slice A5 xs.length c5) wr.heap.size∨wr.heap.size=z+2) from fun e=>e.elim (fun e=>by have:=(aG.out _ e).2;omega) (fun e=>by omega));have je:=Qh (show¬Own (.slice A5 xs.length c5) (z+2) from fun e=>by have:=(aG.out _ e).1;omega);have d0:∀W,Upd (fun i=>Own (.slice A5 xs.length c5) i∨i=z+2) wx W->W.cell? ⟨wr.heap.size,0,none⟩=some (Qi x.id):=fun W u=>by have:=(bX.upd u i9.out).cell 0;simpa using this
   have d1:∀W,Upd (fun i=>Own (.slice A5 xs.length c5) i∨i=z+2) wx W->W.cell? ⟨wr.heap.size,1,none⟩=some (.bool x.done):=fun W u=>by have:=(bX.upd u i9.out).cell 1;simpa using this
   have d2:∀W,Upd (fun i=>Own (.slice A5 xs.length c5) i∨i=z+2) wx W->W.cell? ⟨wr.heap.size,2,none⟩=some (.slice x.A x.ops.length x.c):=fun W u=>by have:=(bX.upd u i9.out).cell 2;simpa using this
   have e0:wx.cell? ⟨z+2,0,none⟩=some (.slice A5 xs.length c5):=dG.out.cell 0;have CC:=Qh (fun W (u:Upd (fun i=>Own (.slice A5 xs.length c5) i∨i=z+2) wx W)=>Zn6 _ W x.id x.done x.A x.c x.ops ((HOps.upd ex.out.1 ux Qo).upd u (fun i h e=>e.elim (fun e=>by have:=(aG.out i e).1;omega) (fun e=>by omega))) ex.out.2.2.1);have a9:=Qh (hu.trans (ux.mono (fun _ _ e=>e.elim)));have HL:=Qh (show∀t∈xs,t.lies (fun i=>(z+3<=i∧¬Own (.slice A5 xs.length c5) i)∧i<wr.heap.size) wx from fun t ht=>((cK.out t ht).weak (G:=fun i=>(z+3<=i∧¬Own (.slice A5 xs.length c5) i)∧i<wr.heap.size) (fun i hi h=>⟨h,hi⟩)).upd ux Qo);have hxz:Upd (fun i=>Own (.slice A5 xs.length c5) i∨i=z+2) wx wx:=Il _ _;clear ae cK cN ux bX hu;go_wp2;refine wpS (fun W'=>Upd (fun i=>Own (.slice A5 xs.length c5) i∨i=z+2) wx W') ?_ fun jH=>?_
   ·(first|exact hxz.drew|exact jH|exact jH.noR hu4|exact jH.alloc _|exact aw|exact az)
   refine wpK 0 rfl ?_;refine wpK 2 rfl ?_;refine wpR [1,3] ?_;refine wpC rfl (fun K hK=>?_) ?_
   ·go_simp;refine hK.out _ _ ?_ fun jH=>?_
    ·(first|exact hxz.drew|exact jH|exact jH.noR hu4|exact jH.alloc _|exact aw|exact az)
    try simp only[Qa]
    refine wpZ 3 rfl fun K hK=>?_;go_simp
    (first
   |(go_at_call 41;refine(CC.out _ jH).mono ?_;rintro e w4 ⟨A4,c4,rfl,kS,aW,hu4⟩;have e4:w4.cell? ⟨z+2,0,none⟩=some (.slice A5 xs.length c5):=(dG.out.upd hu4.of_drew id).cell 0;have e5:∀o,(w4.alloc o).cell? ⟨z+2,0,none⟩=some (.slice A5 xs.length c5):=fun o=>(dG.out.upd (hu4.of_drew.alloc o) id).cell 0;have dU:=Za HO.out hu4.of_drew Qo;have fT:=hu4.of_drew.size))
    try (go_wp2_with fail)
    refine hK.out _ _ ?_ fun jH=>?_
    ·(first|exact hxz.drew|exact jH|exact jH.noR hu4|exact jH.alloc _|exact aw|exact az)
    try simp only[Qa]
    refine wpZ 4 rfl fun K hK=>?_;go_simp;refine hK.out _ _ ?_ fun jH=>?_
    ·(first|exact hxz.drew|exact jH|exact jH.noR hu4|exact jH.alloc _|exact aw|exact az)
    try simp only[Qa]
    refine wpZ 5 rfl fun K hK=>?_
    (first
   |(refine Zaq (by rfl) (by rfl) Zb1 (v:= .slice A5 xs.length c5) (n:=xs.length) (xs:=txF xs) (cells:=[Qi x.id,.bool x.done,.slice A4 x.ops.length c4]) (by rfl) (by rfl) (by exact dU.alloc _) rfl (by exact Zah) (by rfl) (by omega) (by omega) (by simp;omega) ?_;intro g6 c6 w6 ar hu6 cI cU;have aw:Upd (fun i=>Own (.slice A5 xs.length c5) i∨i=z+2) wx w6:=jH.trans (hu6.mono (fun i _ e=>Or.inl e));have cG:=Qh ((dG.out.upd (hu4.of_drew.alloc _) id).upd hu6 je.out)))
    refine hK.out _ _ ?_ fun jH=>?_
    ·(first|exact hxz.drew|exact jH|exact jH.noR hu4|exact jH.alloc _|exact aw|exact az)
    try simp only[Qa]
    refine wpK 6 rfl ?_;refine wpZ 7 rfl fun K hK=>?_
    (first
   |(refine Zs (by rfl) (by rfl) (g:=z+2) (i:=0) (v:= .slice (some ⟨g6,0,none⟩) (xs.length+1) c6) (by rfl) (by rfl) cG.out (by kernel_rfl) (by simp) rfl ?_;intro w7 a8 aq;have az:Upd (fun i=>Own (.slice A5 xs.length c5) i∨i=z+2) wx w7:=aw.trans (aq.mono (fun i _ e=>Or.inr e))))
    refine hK.out _ _ ?_ fun jH=>?_
    ·(first|exact hxz.drew|exact jH|exact jH.noR hu4|exact jH.alloc _|exact aw|exact az)
    try simp only[Qa]
    refine wpD (Ii ?_);have bI:=Qh az;have cP:=Qh a8;have dD:=Qh aq;clear jH d0 d1 d2 e0 az a8 aq aw;go_wp2;go_roundg (gk-1)
    case measure=>omega
    case rel=>
     have aN:(xs++[(⟨x.id,x.done,x.ops,A4,c4⟩:HTx)]).length=xs.length+1:=by simp
     have h4:(⟨x.id,x.done,x.ops,A4,c4⟩:HTx).lies (fun i=>wr.heap.size<i∧i<w4.heap.size) w4:=⟨Recs.weak aW (fun i hi h=>⟨show wr.heap.size<i by have:wx.heap.size<=i:=h;omega,hi⟩),kS,ex.out.2.2⟩
     have bq:∀i,Own (.slice (some ⟨g6,0,none⟩) (xs.length+1) c6) i->Own (.slice A5 xs.length c5) i∨w4.heap.size<=i:=fun i e=>by
      cases e
      rcases cI with h|⟨k6,ei,hlk⟩
      ·exact .inl h.symm
      ·cases ei
       simp only[Ij]at hlk;exact .inr (show w4.heap.size<=g6 by omega)
     have eF:∀i,Own (.slice (some ⟨g6,0,none⟩) (xs.length+1) c6) i->¬One (z+2) i:=fun i e e2=>by
      have e3:i=z+2:=e2;rcases bq i e with h|h
      ·have:=(aG.out i h).1;omega
      ·omega
     refine⟨k+1,some ⟨g6,0,none⟩,c6,xs++[⟨x.id,x.done,x.ops,A4,c4⟩],by omega,by go_num,Qh (by rw[Hu,<-HS.out];rfl),Qh (by rw[aN];simpa using cP.out),Qh (by rw[aN,ZfR];exact Za ar dD.out eF),Qh (fun t ht=>?_),a9.out.then_ bI.out (fun i e=>e.elim (fun e=>Or.inr (by have:=(aG.out i e).1;omega)) (fun e=>Or.inl e))⟩;rw[aN];rcases Ib.1 ht with ht|ht
     ·exact((HL.out t ht).upd bI.out (fun i h e=>e.elim h.1.2 (fun e=>by omega))).weak (fun i _ h=>⟨h.1.1,fun e=>(bq i e).elim h.1.2 (fun h2=>by have:=h.2;omega)⟩)
     ·rw[Gq.1 ht];exact(((h4.upd ((Il No w4).alloc _) Qo).upd hu6 (fun i h e=>by have:=(aG.out i e).2;omega)).upd dD.out (fun i h e=>by cases e;omega)).weak (fun i _ h=>⟨by omega,fun e=>(bq i e).elim (fun h2=>by have:=(aG.out i h2).2;omega) (fun h2=>by omega)⟩)
   refine wpC rfl (fun K hK=>?_) AllReadyH.nil;go_simp
   (first
  |(go_at_call 41;refine(CC.out _ jH).mono ?_;rintro e w4 ⟨A4,c4,rfl,kS,aW,hu4⟩;have e4:w4.cell? ⟨z+2,0,none⟩=some (.slice A5 xs.length c5):=(dG.out.upd hu4.of_drew id).cell 0;have e5:∀o,(w4.alloc o).cell? ⟨z+2,0,none⟩=some (.slice A5 xs.length c5):=fun o=>(dG.out.upd (hu4.of_drew.alloc o) id).cell 0;have dU:=Za HO.out hu4.of_drew Qo;have fT:=hu4.of_drew.size))
   try (go_wp2_with fail)
   refine hK.out _ _ ?_ fun jH=>?_
   ·(first|exact hxz.drew|exact jH|exact jH.noR hu4|exact jH.alloc _|exact aw|exact az)
   try simp only[Qa]
   refine wpR [1,4] ?_;refine wpC rfl (fun K hK=>?_) ?_
   ·go_simp;refine hK.out _ _ ?_ fun jH=>?_
    ·(first|exact hxz.drew|exact jH|exact jH.noR hu4|exact jH.alloc _|exact aw|exact az)
    try simp only[Qa]
    refine wpZ 4 rfl fun K hK=>?_;go_simp;refine hK.out _ _ ?_ fun jH=>?_
    ·(first|exact hxz.drew|exact jH|exact jH.noR hu4|exact jH.alloc _|exact aw|exact az)
    try simp only[Qa]
    refine wpZ 5 rfl fun K hK=>?_
    (first
   |(refine Zaq (by rfl) (by rfl) Zb1 (v:= .slice A5 xs.length c5) (n:=xs.length) (xs:=txF xs) (cells:=[Qi x.id,.bool x.done,.slice A4 x.ops.length c4]) (by rfl) (by rfl) (by exact dU.alloc _) rfl (by exact Zah) (by rfl) (by omega) (by omega) (by simp;omega) ?_;intro g6 c6 w6 ar hu6 cI cU;have aw:Upd (fun i=>Own (.slice A5 xs.length c5) i∨i=z+2) wx w6:=jH.trans (hu6.mono (fun i _ e=>Or.inl e));have cG:=Qh ((dG.out.upd (hu4.of_drew.alloc _) id).upd hu6 je.out)))
    refine hK.out _ _ ?_ fun jH=>?_
    ·(first|exact hxz.drew|exact jH|exact jH.noR hu4|exact jH.alloc _|exact aw|exact az)
    try simp only[Qa]
    refine wpK 6 rfl ?_;refine wpZ 7 rfl fun K hK=>?_
    (first
   |(refine Zs (by rfl) (by rfl) (g:=z+2) (i:=0) (v:= .slice (some ⟨g6,0,none⟩) (xs.length+1) c6) (by rfl) (by rfl) cG.out (by kernel_rfl) (by simp) rfl ?_;intro w7 a8 aq;have az:Upd (fun i=>Own (.slice A5 xs.length c5) i∨i=z+2) wx w7:=aw.trans (aq.mono (fun i _ e=>Or.inr e))))
    refine hK.out _ _ ?_ fun jH=>?_
    ·(first|exact hxz.drew|exact jH|exact jH.noR hu4|exact jH.alloc _|exact aw|exact az)
    try simp only[Qa]
    refine wpD (Ii ?_);have bI:=Qh az;have cP:=Qh a8;have dD:=Qh aq;clear jH d0 d1 d2 e0 az a8 aq aw;go_wp2;go_roundg (gk-1)
    case measure=>omega
    case rel=>
     have aN:(xs++[(⟨x.id,x.done,x.ops,A4,c4⟩:HTx)]).length=xs.length+1:=by simp
     have h4:(⟨x.id,x.done,x.ops,A4,c4⟩:HTx).lies (fun i=>wr.heap.size<i∧i<w4.heap.size) w4:=⟨Recs.weak aW (fun i hi h=>⟨show wr.heap.size<i by have:wx.heap.size<=i:=h;omega,hi⟩),kS,ex.out.2.2⟩
     have bq:∀i,Own (.slice (some ⟨g6,0,none⟩) (xs.length+1) c6) i->Own (.slice A5 xs.length c5) i∨w4.heap.size<=i:=fun i e=>by
      cases e
      rcases cI with h|⟨k6,ei,hlk⟩
      ·exact .inl h.symm
      ·cases ei
       simp only[Ij]at hlk;exact .inr (show w4.heap.size<=g6 by omega)
     have eF:∀i,Own (.slice (some ⟨g6,0,none⟩) (xs.length+1) c6) i->¬One (z+2) i:=fun i e e2=>by
      have e3:i=z+2:=e2;rcases bq i e with h|h
      ·have:=(aG.out i h).1;omega
      ·omega
     refine⟨k+1,some ⟨g6,0,none⟩,c6,xs++[⟨x.id,x.done,x.ops,A4,c4⟩],by omega,by go_num,Qh (by rw[Hu,<-HS.out];rfl),Qh (by rw[aN];simpa using cP.out),Qh (by rw[aN,ZfR];exact Za ar dD.out eF),Qh (fun t ht=>?_),a9.out.then_ bI.out (fun i e=>e.elim (fun e=>Or.inr (by have:=(aG.out i e).1;omega)) (fun e=>Or.inl e))⟩;rw[aN];rcases Ib.1 ht with ht|ht
     ·exact((HL.out t ht).upd bI.out (fun i h e=>e.elim h.1.2 (fun e=>by omega))).weak (fun i _ h=>⟨h.1.1,fun e=>(bq i e).elim h.1.2 (fun h2=>by have:=h.2;omega)⟩)
     ·rw[Gq.1 ht];exact(((h4.upd ((Il No w4).alloc _) Qo).upd hu6 (fun i h e=>by have:=(aG.out i e).2;omega)).upd dD.out (fun i h e=>by cases e;omega)).weak (fun i _ h=>⟨by omega,fun e=>(bq i e).elim (fun h2=>by have:=(aG.out i h2).2;omega) (fun h2=>by omega)⟩)
   refine wpC rfl (fun K hK=>?_) AllReadyH.nil;go_simp;refine hK.out _ _ ?_ fun jH=>?_
   ·(first|exact hxz.drew|exact jH|exact jH.noR hu4|exact jH.alloc _|exact aw|exact az)
   try simp only[Qa]
   refine wpZ 1 rfl fun K hK=>?_;go_simp;refine hK.out _ _ ?_ fun jH=>?_
   ·(first|exact hxz.drew|exact jH|exact jH.noR hu4|exact jH.alloc _|exact aw|exact az)
   try simp only[Qa]
   refine wpZ 5 rfl fun K hK=>?_
   (first
  |(refine Zaq (by rfl) (by rfl) Zb1 (v:= .slice A5 xs.length c5) (n:=xs.length) (xs:=txF xs) (cells:=[Qi x.id,.bool x.done,.slice A4 x.ops.length c4]) (by rfl) (by rfl) (by exact dU.alloc _) rfl (by exact Zah) (by rfl) (by omega) (by omega) (by simp;omega) ?_;intro g6 c6 w6 ar hu6 cI cU;have aw:Upd (fun i=>Own (.slice A5 xs.length c5) i∨i=z+2) wx w6:=jH.trans (hu6.mono (fun i _ e=>Or.inl e));have cG:=Qh ((dG.out.upd (hu4.of_drew.alloc _) id).upd hu6 je.out)))
   refine hK.out _ _ ?_ fun jH=>?_
   ·(first|exact hxz.drew|exact jH|exact jH.noR hu4|exact jH.alloc _|exact aw|exact az)
   try simp only[Qa]
   refine wpK 6 rfl ?_;refine wpZ 7 rfl fun K hK=>?_
   (first
  |(refine Zs (by rfl) (by rfl) (g:=z+2) (i:=0) (v:= .slice (some ⟨g6,0,none⟩) (xs.length+1) c6) (by rfl) (by rfl) cG.out (by kernel_rfl) (by simp) rfl ?_;intro w7 a8 aq;have az:Upd (fun i=>Own (.slice A5 xs.length c5) i∨i=z+2) wx w7:=aw.trans (aq.mono (fun i _ e=>Or.inr e))))
   refine hK.out _ _ ?_ fun jH=>?_
   ·(first|exact hxz.drew|exact jH|exact jH.noR hu4|exact jH.alloc _|exact aw|exact az)
   try simp only[Qa]
   refine wpD (Ii ?_);have bI:=Qh az;have cP:=Qh a8;have dD:=Qh aq;clear jH d0 d1 d2 e0 az a8 aq aw;go_wp2;go_roundg (gk-1)
   case measure=>omega
   case rel=>
    have aN:(xs++[(⟨x.id,x.done,x.ops,A4,c4⟩:HTx)]).length=xs.length+1:=by simp
    have h4:(⟨x.id,x.done,x.ops,A4,c4⟩:HTx).lies (fun i=>wr.heap.size<i∧i<w4.heap.size) w4:=⟨Recs.weak aW (fun i hi h=>⟨show wr.heap.size<i by have:wx.heap.size<=i:=h;omega,hi⟩),kS,ex.out.2.2⟩
    have bq:∀i,Own (.slice (some ⟨g6,0,none⟩) (xs.length+1) c6) i->Own (.slice A5 xs.length c5) i∨w4.heap.size<=i:=fun i e=>by
     cases e
     rcases cI with h|⟨k6,ei,hlk⟩
     ·exact .inl h.symm
     ·cases ei
      simp only[Ij]at hlk;exact .inr (show w4.heap.size<=g6 by omega)
    have eF:∀i,Own (.slice (some ⟨g6,0,none⟩) (xs.length+1) c6) i->¬One (z+2) i:=fun i e e2=>by
     have e3:i=z+2:=e2;rcases bq i e with h|h
     ·have:=(aG.out i h).1;omega
     ·omega
    refine⟨k+1,some ⟨g6,0,none⟩,c6,xs++[⟨x.id,x.done,x.ops,A4,c4⟩],by omega,by go_num,Qh (by rw[Hu,<-HS.out];rfl),Qh (by rw[aN];simpa using cP.out),Qh (by rw[aN,ZfR];exact Za ar dD.out eF),Qh (fun t ht=>?_),a9.out.then_ bI.out (fun i e=>e.elim (fun e=>Or.inr (by have:=(aG.out i e).1;omega)) (fun e=>Or.inl e))⟩;rw[aN];rcases Ib.1 ht with ht|ht
    ·exact((HL.out t ht).upd bI.out (fun i h e=>e.elim h.1.2 (fun e=>by omega))).weak (fun i _ h=>⟨h.1.1,fun e=>(bq i e).elim h.1.2 (fun h2=>by have:=h.2;omega)⟩)
    ·rw[Gq.1 ht];exact(((h4.upd ((Il No w4).alloc _) Qo).upd hu6 (fun i h e=>by have:=(aG.out i e).2;omega)).upd dD.out (fun i h e=>by cases e;omega)).weak (fun i _ h=>⟨by omega,fun e=>(bq i e).elim (fun h2=>by have:=(aG.out i h2).2;omega) (fun h2=>by omega)⟩)
  ·obtain rfl:k=txs.length:=by omega
   have HS:=Qh (show xs.map txP=txs.map txP by rw[hs.out,G7]);obtain⟨wo,gU⟩:∃wo,wo=wr:=⟨_,rfl⟩;subst gU;have f1:=hnd _ hu;have nQ:=Qh hu;have kL:=Qh (And.intro ae.out (And.intro cK.out hs.out));have jZ:Upd (One (z+2)) wo wo:=Il _ _;clear hs ae cK bG hnd dK c0 aI hu;go_wp2
   go_loopg [26] ords.length (fun gk s wr=>∃(k:Nat) (B5:OA) (d5:Nat) (ys:List HOrd),k+gk=ords.length∧s= Qi (k:Int)∧Hid (ys.map orP=(ords.take k).map orP)∧Hid (Blk wr (z+2) 25 [.slice A5 xs.length c5,.slice B5 ys.length d5])∧Hid (wr.ownsRow wo.heap.size 68 2 (.slice B5 ys.length d5) ys.length (orF ys))∧Hid (∀t∈ys,t.lies (fun i=>wo.heap.size<=i∧¬Own (.slice B5 ys.length d5) i) wr)∧Upd (One (z+2)) wo wr)
   case atStart=>exact⟨0,none,0,[],by omega,rfl,Qh rfl,cN,Qh (Ik _ _ _ _),Qh (fun t ht=>by cases ht),jZ⟩
   case round=>
    obtain⟨k,B5,d5,ys,aI,rfl,hs,cN,ae,cK,hu⟩:=hrel
    have zd:ys.length<=1000000:=by
     have h3:=congrArg List.length hs.out;rw[Hw,Hw,Hm]at h3;omega
    have EL:=hu.size
    by_cases hlt:k<ords.length
    ·obtain⟨ad,aH,q0,q1⟩:=Zhl (Recs.upd HB.out.ords (nQ.out.trans hu) (fun i h e=>by cases e;omega)) hlt;have bK:=(HB.out.ord ords[k] (Hg hlt)).upd (nQ.out.trans hu) (fun i h e=>by cases e;omega);simp only at aH q0 q1 bK;obtain⟨x,hx⟩:=Qe (ords[k]);simp only[hx]at q0 q1 bK;subst aH;have aU:=Qh (show(ys.map orP++[orP x])=(ords.take (k+1)).map orP by rw[Gb hlt,Hu,hs.out,hx];rfl);have ex:=Qh bK;have b2:(k:Int)<(ords.length:Int):=by omega
     have b1:(0:Int)<=(k:Int):=Qn _;clear hx bK;obtain⟨wx,aJ⟩:=Qe (wr.alloc (.cells #[Qi x.key,.slice x.A x.txs.length x.c] 68));have ux:Upd No wr wx:=by rw[<-aJ];exact(Il No wr).alloc _
     have bX:Blk wx wr.heap.size 68 [Qi x.key,.slice x.A x.txs.length x.c]:=by rw[<-aJ];exact Im wr _ _
     have sy:wx.heap.size=wr.heap.size+1:=by rw[<-aJ];simp
     have HO:=Qh (Za ae.out ux Qo);have dG:=Qh (cN.out.upd ux id);have aG:=Qh ae.out.lt;have i9:=Qh (show¬(Own (.slice B5 ys.length d5) wr.heap.size∨wr.heap.size=z+2) from fun e=>e.elim (fun e=>by have:=(aG.out _ e).2;omega) (fun e=>by omega));have je:=Qh (show¬Own (.slice B5 ys.length d5) (z+2) from fun e=>by have:=(aG.out _ e).1;omega);have d0:∀W,Upd (fun i=>Own (.slice B5 ys.length d5) i∨i=z+2) wx W->W.cell? ⟨wr.heap.size,0,none⟩=some (Qi x.key):=fun W u=>by have:=(bX.upd u i9.out).cell 0;simpa using this
     have d1:∀W,Upd (fun i=>Own (.slice B5 ys.length d5) i∨i=z+2) wx W->W.cell? ⟨wr.heap.size,1,none⟩=some (.slice x.A x.txs.length x.c):=fun W u=>by have:=(bX.upd u i9.out).cell 1;simpa using this
     have e0:wx.cell? ⟨z+2,1,none⟩=some (.slice B5 ys.length d5):=dG.out.cell 1;have CC:=Qh (fun W (u:Upd (fun i=>Own (.slice B5 ys.length d5) i∨i=z+2) wx W)=>ZfG _ W x.A x.c x.txs ((ex.out.1.upd ux Qo).upd u (fun i h e=>e.elim (fun e=>by have:=(aG.out i e).1;omega) (fun e=>by omega))) ex.out.2.2.1);have a9:=Qh (hu.trans (ux.mono (fun _ _ e=>e.elim)));have HL:=Qh (show∀t∈ys,t.lies (fun i=>(wo.heap.size<=i∧¬Own (.slice B5 ys.length d5) i)∧i<wr.heap.size) wx from fun t ht=>((cK.out t ht).weak (G:=fun i=>(wo.heap.size<=i∧¬Own (.slice B5 ys.length d5) i)∧i<wr.heap.size) (fun i hi h=>⟨h,hi⟩)).upd ux Qo);have hxz:Upd (fun i=>Own (.slice B5 ys.length d5) i∨i=z+2) wx wx:=Il _ _;clear ae cK cN ux bX hu f1 jZ;go_wp2;refine wpS (fun W'=>Upd (fun i=>Own (.slice B5 ys.length d5) i∨i=z+2) wx W') ?_ fun jH=>?_
     ·(first|exact hxz.drew|exact jH|exact jH.noR hu4|exact jH.alloc _|exact aw|exact az)
     refine wpK 0 rfl ?_;refine wpK 2 rfl ?_;refine wpK 3 rfl ?_;refine wpK 4 rfl ?_;refine wpK 5 rfl ?_;refine wpR [1,6] ?_;refine wpC rfl (fun K hK=>?_) ?_
     ·go_simp;refine hK.out _ _ ?_ fun jH=>?_
      ·(first|exact hxz.drew|exact jH|exact jH.noR hu4|exact jH.alloc _|exact aw|exact az)
      try simp only[Qa]
      refine wpZ 6 rfl fun K hK=>?_;go_simp
      (first
   |(go_at_call 70;refine(CC.out _ jH).mono ?_;rintro e w4 ⟨A4,c4,rfl,aW,hu4⟩;have e4:w4.cell? ⟨z+2,1,none⟩=some (.slice B5 ys.length d5):=(dG.out.upd hu4.of_drew id).cell 1;have e5:∀o,(w4.alloc o).cell? ⟨z+2,1,none⟩=some (.slice B5 ys.length d5):=fun o=>(dG.out.upd (hu4.of_drew.alloc o) id).cell 1;have dU:=Za HO.out hu4.of_drew Qo;have fT:=hu4.of_drew.size))
      try (go_wp2_with fail)
      refine hK.out _ _ ?_ fun jH=>?_
      ·(first|exact hxz.drew|exact jH|exact jH.noR hu4|exact jH.alloc _|exact aw|exact az)
      try simp only[Qa]
      refine wpK 7 rfl ?_;refine wpZ 8 rfl fun K hK=>?_;go_simp;refine hK.out _ _ ?_ fun jH=>?_
      ·(first|exact hxz.drew|exact jH|exact jH.noR hu4|exact jH.alloc _|exact aw|exact az)
      try simp only[Qa]
      refine wpZ 9 rfl fun K hK=>?_
      (first
   |(refine Zaq (by rfl) (by rfl) Zdq (v:= .slice B5 ys.length d5) (n:=ys.length) (xs:=orF ys) (cells:=[Qi x.key,.slice A4 x.txs.length c4]) (by rfl) (by rfl) (by exact dU.alloc _) rfl (by exact Zah) (by rfl) (by omega) (by omega) (by simp;omega) ?_;intro g6 c6 w6 ar hu6 cI cU;have aw:Upd (fun i=>Own (.slice B5 ys.length d5) i∨i=z+2) wx w6:=jH.trans (hu6.mono (fun i _ e=>Or.inl e));have cG:=Qh ((dG.out.upd (hu4.of_drew.alloc _) id).upd hu6 je.out)))
      refine hK.out _ _ ?_ fun jH=>?_
      ·(first|exact hxz.drew|exact jH|exact jH.noR hu4|exact jH.alloc _|exact aw|exact az)
      try simp only[Qa]
      refine wpK 10 rfl ?_;refine wpZ 11 rfl fun K hK=>?_
      (first
   |(refine Zs (by rfl) (by rfl) (g:=z+2) (i:=1) (v:= .slice (some ⟨g6,0,none⟩) (ys.length+1) c6) (by rfl) (by rfl) cG.out (by kernel_rfl) (by simp) rfl ?_;intro w7 a8 aq;have az:Upd (fun i=>Own (.slice B5 ys.length d5) i∨i=z+2) wx w7:=aw.trans (aq.mono (fun i _ e=>Or.inr e))))
      refine hK.out _ _ ?_ fun jH=>?_
      ·(first|exact hxz.drew|exact jH|exact jH.noR hu4|exact jH.alloc _|exact aw|exact az)
      try simp only[Qa]
      refine wpD (Ii ?_);have bI:=Qh az;have cP:=Qh a8;have dD:=Qh aq;clear jH d0 d1 e0 az a8 aq aw;go_wp2;go_roundg (gk-1)
      case measure=>omega
      case rel=>
       have aN:(ys++[(⟨x.key,x.txs,A4,c4⟩:HOrd)]).length=ys.length+1:=by simp
       have cT:=Zbq aW;have h4:(⟨x.key,x.txs,A4,c4⟩:HOrd).lies (fun i=>wr.heap.size<i∧i<w4.heap.size) w4:=⟨Ints.weak (Ints.of_owned aW) (fun i hi h=>⟨show wr.heap.size<i by have:wx.heap.size<=i:=h;omega,hi⟩),cT,ex.out.2.2⟩
       have bq:∀i,Own (.slice (some ⟨g6,0,none⟩) (ys.length+1) c6) i->Own (.slice B5 ys.length d5) i∨w4.heap.size<=i:=fun i e=>by
        cases e
        rcases cI with h|⟨k6,ei,hlk⟩
        ·exact .inl h.symm
        ·cases ei
         simp only[Ij]at hlk;exact .inr (show w4.heap.size<=g6 by omega)
       have eF:∀i,Own (.slice (some ⟨g6,0,none⟩) (ys.length+1) c6) i->¬One (z+2) i:=fun i e e2=>by
        have e3:i=z+2:=e2;rcases bq i e with h|h
        ·have:=(aG.out i h).1;omega
        ·omega
       refine⟨k+1,some ⟨g6,0,none⟩,c6,ys++[⟨x.key,x.txs,A4,c4⟩],by omega,by go_num,Qh (by rw[Hu,<-aU.out];rfl),Qh (by rw[aN];simpa using cP.out),Qh (by rw[aN,ZdV];exact Za ar dD.out eF),Qh (fun t ht=>?_),a9.out.then_ bI.out (fun i e=>e.elim (fun e=>Or.inr (aG.out i e).1) (fun e=>Or.inl e))⟩;rw[aN];rcases Ib.1 ht with ht|ht
       ·exact((HL.out t ht).upd bI.out (fun i h e=>e.elim h.1.2 (fun e=>by omega))).weak (fun i _ h=>⟨h.1.1,fun e=>(bq i e).elim h.1.2 (fun h2=>by have:=h.2;omega)⟩)
       ·rw[Gq.1 ht];exact(((h4.upd ((Il No w4).alloc _) Qo).upd hu6 (fun i h e=>by have:=(aG.out i e).2;omega)).upd dD.out (fun i h e=>by cases e;omega)).weak (fun i _ h=>⟨by omega,fun e=>(bq i e).elim (fun h2=>by have:=(aG.out i h2).2;omega) (fun h2=>by omega)⟩)
     refine wpC rfl (fun K hK=>?_) AllReadyH.nil;go_simp
     (first
  |(go_at_call 70;refine(CC.out _ jH).mono ?_;rintro e w4 ⟨A4,c4,rfl,aW,hu4⟩;have e4:w4.cell? ⟨z+2,1,none⟩=some (.slice B5 ys.length d5):=(dG.out.upd hu4.of_drew id).cell 1;have e5:∀o,(w4.alloc o).cell? ⟨z+2,1,none⟩=some (.slice B5 ys.length d5):=fun o=>(dG.out.upd (hu4.of_drew.alloc o) id).cell 1;have dU:=Za HO.out hu4.of_drew Qo;have fT:=hu4.of_drew.size))
     try (go_wp2_with fail)
     refine hK.out _ _ ?_ fun jH=>?_
     ·(first|exact hxz.drew|exact jH|exact jH.noR hu4|exact jH.alloc _|exact aw|exact az)
     try simp only[Qa]
     refine wpK 7 rfl ?_;refine wpR [1,8] ?_;refine wpC rfl (fun K hK=>?_) ?_
     ·go_simp;refine hK.out _ _ ?_ fun jH=>?_
      ·(first|exact hxz.drew|exact jH|exact jH.noR hu4|exact jH.alloc _|exact aw|exact az)
      try simp only[Qa]
      refine wpZ 8 rfl fun K hK=>?_;go_simp;refine hK.out _ _ ?_ fun jH=>?_
      ·(first|exact hxz.drew|exact jH|exact jH.noR hu4|exact jH.alloc _|exact aw|exact az)
      try simp only[Qa]
      refine wpZ 9 rfl fun K hK=>?_
      (first
   |(refine Zaq (by rfl) (by rfl) Zdq (v:= .slice B5 ys.length d5) (n:=ys.length) (xs:=orF ys) (cells:=[Qi x.key,.slice A4 x.txs.length c4]) (by rfl) (by rfl) (by exact dU.alloc _) rfl (by exact Zah) (by rfl) (by omega) (by omega) (by simp;omega) ?_;intro g6 c6 w6 ar hu6 cI cU;have aw:Upd (fun i=>Own (.slice B5 ys.length d5) i∨i=z+2) wx w6:=jH.trans (hu6.mono (fun i _ e=>Or.inl e));have cG:=Qh ((dG.out.upd (hu4.of_drew.alloc _) id).upd hu6 je.out)))
      refine hK.out _ _ ?_ fun jH=>?_
      ·(first|exact hxz.drew|exact jH|exact jH.noR hu4|exact jH.alloc _|exact aw|exact az)
      try simp only[Qa]
      refine wpK 10 rfl ?_;refine wpZ 11 rfl fun K hK=>?_
      (first
   |(refine Zs (by rfl) (by rfl) (g:=z+2) (i:=1) (v:= .slice (some ⟨g6,0,none⟩) (ys.length+1) c6) (by rfl) (by rfl) cG.out (by kernel_rfl) (by simp) rfl ?_;intro w7 a8 aq;have az:Upd (fun i=>Own (.slice B5 ys.length d5) i∨i=z+2) wx w7:=aw.trans (aq.mono (fun i _ e=>Or.inr e))))
      refine hK.out _ _ ?_ fun jH=>?_
      ·(first|exact hxz.drew|exact jH|exact jH.noR hu4|exact jH.alloc _|exact aw|exact az)
      try simp only[Qa]
      refine wpD (Ii ?_);have bI:=Qh az;have cP:=Qh a8;have dD:=Qh aq;clear jH d0 d1 e0 az a8 aq aw;go_wp2;go_roundg (gk-1)
      case measure=>omega
      case rel=>
       have aN:(ys++[(⟨x.key,x.txs,A4,c4⟩:HOrd)]).length=ys.length+1:=by simp
       have cT:=Zbq aW;have h4:(⟨x.key,x.txs,A4,c4⟩:HOrd).lies (fun i=>wr.heap.size<i∧i<w4.heap.size) w4:=⟨Ints.weak (Ints.of_owned aW) (fun i hi h=>⟨show wr.heap.size<i by have:wx.heap.size<=i:=h;omega,hi⟩),cT,ex.out.2.2⟩
       have bq:∀i,Own (.slice (some ⟨g6,0,none⟩) (ys.length+1) c6) i->Own (.slice B5 ys.length d5) i∨w4.heap.size<=i:=fun i e=>by
        cases e
        rcases cI with h|⟨k6,ei,hlk⟩
        ·exact .inl h.symm
        ·cases ei
         simp only[Ij]at hlk;exact .inr (show w4.heap.size<=g6 by omega)
       have eF:∀i,Own (.slice (some ⟨g6,0,none⟩) (ys.length+1) c6) i->¬One (z+2) i:=fun i e e2=>by
        have e3:i=z+2:=e2;rcases bq i e with h|h
        ·have:=(aG.out i h).1;omega
        ·omega
       refine⟨k+1,some ⟨g6,0,none⟩,c6,ys++[⟨x.key,x.txs,A4,c4⟩],by omega,by go_num,Qh (by rw[Hu,<-aU.out];rfl),Qh (by rw[aN];simpa using cP.out),Qh (by rw[aN,ZdV];exact Za ar dD.out eF),Qh (fun t ht=>?_),a9.out.then_ bI.out (fun i e=>e.elim (fun e=>Or.inr (aG.out i e).1) (fun e=>Or.inl e))⟩;rw[aN];rcases Ib.1 ht with ht|ht
       ·exact((HL.out t ht).upd bI.out (fun i h e=>e.elim h.1.2 (fun e=>by omega))).weak (fun i _ h=>⟨h.1.1,fun e=>(bq i e).elim h.1.2 (fun h2=>by have:=h.2;omega)⟩)
       ·rw[Gq.1 ht];exact(((h4.upd ((Il No w4).alloc _) Qo).upd hu6 (fun i h e=>by have:=(aG.out i e).2;omega)).upd dD.out (fun i h e=>by cases e;omega)).weak (fun i _ h=>⟨by omega,fun e=>(bq i e).elim (fun h2=>by have:=(aG.out i h2).2;omega) (fun h2=>by omega)⟩)
     refine wpC rfl (fun K hK=>?_) AllReadyH.nil;go_simp;refine hK.out _ _ ?_ fun jH=>?_
     ·(first|exact hxz.drew|exact jH|exact jH.noR hu4|exact jH.alloc _|exact aw|exact az)
     try simp only[Qa]
     refine wpZ 1 rfl fun K hK=>?_;go_simp;refine hK.out _ _ ?_ fun jH=>?_
     ·(first|exact hxz.drew|exact jH|exact jH.noR hu4|exact jH.alloc _|exact aw|exact az)
     try simp only[Qa]
     refine wpZ 9 rfl fun K hK=>?_
     (first
  |(refine Zaq (by rfl) (by rfl) Zdq (v:= .slice B5 ys.length d5) (n:=ys.length) (xs:=orF ys) (cells:=[Qi x.key,.slice A4 x.txs.length c4]) (by rfl) (by rfl) (by exact dU.alloc _) rfl (by exact Zah) (by rfl) (by omega) (by omega) (by simp;omega) ?_;intro g6 c6 w6 ar hu6 cI cU;have aw:Upd (fun i=>Own (.slice B5 ys.length d5) i∨i=z+2) wx w6:=jH.trans (hu6.mono (fun i _ e=>Or.inl e));have cG:=Qh ((dG.out.upd (hu4.of_drew.alloc _) id).upd hu6 je.out)))
     refine hK.out _ _ ?_ fun jH=>?_
     ·(first|exact hxz.drew|exact jH|exact jH.noR hu4|exact jH.alloc _|exact aw|exact az)
     try simp only[Qa]
     refine wpK 10 rfl ?_;refine wpZ 11 rfl fun K hK=>?_
     (first
  |(refine Zs (by rfl) (by rfl) (g:=z+2) (i:=1) (v:= .slice (some ⟨g6,0,none⟩) (ys.length+1) c6) (by rfl) (by rfl) cG.out (by kernel_rfl) (by simp) rfl ?_;intro w7 a8 aq;have az:Upd (fun i=>Own (.slice B5 ys.length d5) i∨i=z+2) wx w7:=aw.trans (aq.mono (fun i _ e=>Or.inr e))))
     refine hK.out _ _ ?_ fun jH=>?_
     ·(first|exact hxz.drew|exact jH|exact jH.noR hu4|exact jH.alloc _|exact aw|exact az)
     try simp only[Qa]
     refine wpD (Ii ?_);have bI:=Qh az;have cP:=Qh a8;have dD:=Qh aq;clear jH d0 d1 e0 az a8 aq aw;go_wp2;go_roundg (gk-1)
     case measure=>omega
     case rel=>
      have aN:(ys++[(⟨x.key,x.txs,A4,c4⟩:HOrd)]).length=ys.length+1:=by simp
      have cT:=Zbq aW;have h4:(⟨x.key,x.txs,A4,c4⟩:HOrd).lies (fun i=>wr.heap.size<i∧i<w4.heap.size) w4:=⟨Ints.weak (Ints.of_owned aW) (fun i hi h=>⟨show wr.heap.size<i by have:wx.heap.size<=i:=h;omega,hi⟩),cT,ex.out.2.2⟩
      have bq:∀i,Own (.slice (some ⟨g6,0,none⟩) (ys.length+1) c6) i->Own (.slice B5 ys.length d5) i∨w4.heap.size<=i:=fun i e=>by
       cases e
       rcases cI with h|⟨k6,ei,hlk⟩
       ·exact .inl h.symm
       ·cases ei
        simp only[Ij]at hlk;exact .inr (show w4.heap.size<=g6 by omega)
      have eF:∀i,Own (.slice (some ⟨g6,0,none⟩) (ys.length+1) c6) i->¬One (z+2) i:=fun i e e2=>by
       have e3:i=z+2:=e2;rcases bq i e with h|h
       ·have:=(aG.out i h).1;omega
       ·omega
      refine⟨k+1,some ⟨g6,0,none⟩,c6,ys++[⟨x.key,x.txs,A4,c4⟩],by omega,by go_num,Qh (by rw[Hu,<-aU.out];rfl),Qh (by rw[aN];simpa using cP.out),Qh (by rw[aN,ZdV];exact Za ar dD.out eF),Qh (fun t ht=>?_),a9.out.then_ bI.out (fun i e=>e.elim (fun e=>Or.inr (aG.out i e).1) (fun e=>Or.inl e))⟩;rw[aN];rcases Ib.1 ht with ht|ht
      ·exact((HL.out t ht).upd bI.out (fun i h e=>e.elim h.1.2 (fun e=>by omega))).weak (fun i _ h=>⟨h.1.1,fun e=>(bq i e).elim h.1.2 (fun h2=>by have:=h.2;omega)⟩)
      ·rw[Gq.1 ht];exact(((h4.upd ((Il No w4).alloc _) Qo).upd hu6 (fun i h e=>by have:=(aG.out i e).2;omega)).upd dD.out (fun i h e=>by cases e;omega)).weak (fun i _ h=>⟨by omega,fun e=>(bq i e).elim (fun h2=>by have:=(aG.out i h2).2;omega) (fun h2=>by omega)⟩)
    ·obtain rfl:k=ords.length:=by omega
     have aU:=Qh (show ys.map orP=ords.map orP by rw[hs.out,G7]);have eP:=Qh (nQ.out.trans hu);have jk:=Qh hu;have aB:=BR.out.upd eP.out (fun e=>by cases e);obtain⟨m0,m1⟩:=cN.out.c2;obtain⟨s0,s1'⟩:=aB.c2;obtain⟨t0,t1⟩:=aB.f2;have dA:=Qh aB;have om:=Qh (And.intro ae.out cK.out);clear hs ae cK hu aB cN f1 jZ;go_wp2;have b9:=(dA.out.set_ 0 (.slice A5 xs.length c5)).set_ 1 (.slice B5 ys.length d5);simp only[List.set_cons_zero,List.set_cons_succ]at b9;have US:=((Il (One (z+1)) wr).setOne 0 (.slice A5 xs.length c5)).setOne 1 (.slice B5 ys.length d5);have hzz:=jk.out.size;have hA:=kL.out.1;have hB:=om.out.1
     have oz:∀i,Own (.slice A5 xs.length c5) i->¬Own (.slice B5 ys.length d5) i:=fun i e e2=>by
      have h3:=(hA.lt i e).2;have h4:=(hB.lt i e2).1;omega
     refine bodyPost_ret (results_cell_row (p:=2) rfl _ _ _ _ _ _ _ rfl b9 Tryz.underlying25 rfl (by kernel_rfl)) rfl ⟨_,rfl,⟨A5,c5,xs,B5,d5,ys,rfl,HS.out,aU.out,?_,?_,oz,?_,?_⟩,?_⟩
     ·exact ZK (Za (Za hA jk.out (fun i e e2=>by have:=(hA.lt i e).1;cases e2;omega)) US (fun i e e2=>by have:=(hA.lt i e).1;cases e2;omega)) (by have:=HZ.out;omega)
     ·exact ZK (Za hB US (fun i e e2=>by have:=(hB.lt i e).1;cases e2;omega)) (by have:=HZ.out;omega)
     ·intro t ht;exact((((kL.out.2.1 t ht).weak (G:=fun i=>(z+3<=i∧¬Own (.slice A5 xs.length c5) i)∧i<wo.heap.size) (fun i hi h=>⟨h,hi⟩)).upd jk.out (fun i h e=>by cases e;omega)).upd US (fun i h e=>by cases e;omega)).weak (fun i _ h=>⟨by have:=HZ.out;omega,h.1.2,fun e=>by have:=(hB.lt i e).1;omega⟩)
     ·intro t ht;exact((om.out.2 t ht).upd US (fun i h e=>by cases e;omega)).weak (fun i _ h=>⟨by have:=HZ.out;omega,fun e=>by have:=(hA.lt i e).2;omega,h.2⟩)
     ·exact(UB.out.then_ eP.out (fun i e=> .inr (by cases e;have:=HZ.out;omega))).then_ US (fun i e=> .inr (by cases e;have:=HZ.out;omega))
/- A history cloned (trim.clone):rows of the call's own. -/
theorem ZvR{F:Iw}{w:I0}{txs:List HTx}{ords:List HOrd}{A:OA}{c:Nat}{B:OA}{d:Nat}(H:Hist.lies F w ⟨txs,ords,A,c,B,d⟩)(h1:txs.length<=1000000)(h2:ords.length<=1000000):
  Calls Tryz.prog 35 #[.agg #[.slice A txs.length c,.slice B ords.length d]] w fun e w'=>∃v,e= .returned v∧ZpL w txs ords v w'∧Upd No w w':=by
 obtain⟨z,hz⟩:=Qe w.heap.size;obtain⟨w1,ap⟩:=Qe (w.alloc (.cells #[.slice A txs.length c,.slice B ords.length d] 25));have s1:w1.heap.size=z+1:=by rw[<-ap,<-hz];simp
 obtain⟨w2,bZ⟩:=Qe (w1.alloc (.cells #[.slice none 0 0,.slice none 0 0] 25));have s2:w2.heap.size=z+2:=by rw[<-bZ];simp;omega
 obtain⟨wb,ag⟩:=Qe (w2.alloc (.cells #[.slice none 0 0,.slice none 0 0] 25));have s3:wb.heap.size=z+3:=by rw[<-ag];simp;omega
 have u1:Upd No w w1:=by rw[<-ap];exact(Il No w).alloc _
 have u2:Upd No w1 w2:=by rw[<-bZ];exact(Il No w1).alloc _
 have u3:Upd No w2 wb:=by rw[<-ag];exact(Il No w2).alloc _
 have uB:Upd No w wb:=(u1.trans u2).trans u3
 have b0:Blk wb z 25 [.slice A txs.length c,.slice B ords.length d]:=by
  have:Blk w1 z 25 [.slice A txs.length c,.slice B ords.length d]:=by rw[<-ap,<-hz];exact Im w _ _
  exact this.upd (u2.trans u3) id
 have b1:Blk wb (z+1) 25 [.slice none 0 0,.slice none 0 0]:=by
  have:Blk w2 (z+1) 25 [.slice none 0 0,.slice none 0 0]:=by rw[<-bZ,<-s1];exact Im w1 _ _
  exact this.upd u3 id
 have b2:Blk wb (z+2) 25 [.slice none 0 0,.slice none 0 0]:=by rw[<-ag,<-s2];exact Im w2 _ _
 have HB:=Qh ((H.weak (G:=fun i=>i<z) (fun i hi _=>by omega)).upd uB Qo);have UB:=Qh uB;have BR:=Qh b1;have BC:=Qh b2;have BH:=Qh b0;have SB:=Qh s3;have HZ:=Qh hz;have c0:=b0.cell 0;simp only[Qz]at c0;clear u1 u2 u3 uB b0 b1 b2 H;have bG:∀W,Upd (One (z+2)) wb W->W.cell? ⟨z,0,none⟩=some (.slice A txs.length c):=fun W u=>u.keep c0 (fun e=>by cases e)
 have hnd:∀W,Upd (One (z+2)) wb W->W.cell? ⟨z,1,none⟩=some (.slice B ords.length d):=fun W u=>u.keep (BH.out.cell 1) (fun e=>by cases e)
 have dK:Upd (One (z+2)) wb wb:=Il _ _;go_enter Tryz.func35,Tryz.ntmps35;go_wp2
 go_loopg [11] txs.length (fun gk s wr=>∃(k:Nat) (A5:OA) (c5:Nat) (xs:List HTx),k+gk=txs.length∧s= Qi (k:Int)∧Hid (xs.map txP=(txs.take k).map txP)∧Hid (Blk wr (z+2) 25 [.slice A5 xs.length c5,.slice none 0 0])∧Hid (wr.ownsRow (z+3) 39 3 (.slice A5 xs.length c5) xs.length (txF xs))∧Hid (∀t∈xs,t.lies (fun i=>z+3<=i∧¬Own (.slice A5 xs.length c5) i) wr)∧Upd (One (z+2)) wb wr)
 case atStart=>exact⟨0,none,0,[],by omega,rfl,Qh rfl,Qh BC.out,Qh (Ik _ _ _ _),Qh (fun t ht=>by cases ht),dK⟩
 case round=>
  obtain⟨k,A5,c5,xs,aI,rfl,hs,cN,ae,cK,hu⟩:=hrel
  have hxl:xs.length<=1000000:=by
   have h3:=congrArg List.length hs.out;rw[Hw,Hw,Hm]at h3;omega
  have kv:=hu.size
  by_cases hlt:k<txs.length
  ·obtain⟨ad,aH,q0,q1,q2⟩:=ZdB (Recs.upd HB.out.txs hu (fun i h e=>by cases e;omega)) hlt;have bK:=(HB.out.tx txs[k] (Hg hlt)).upd hu (fun i h e=>by cases e;omega);simp only at aH q0 q1 q2 bK;obtain⟨x,hx⟩:=Qe (txs[k]);simp only[hx]at q0 q1 q2 bK;subst aH;have HS:=Qh (show(xs.map txP++[txP x])=(txs.take (k+1)).map txP by rw[Gb hlt,Hu,hs.out,hx];rfl);have ex:=Qh bK;have b2:(k:Int)<(txs.length:Int):=by omega
   have b1:(0:Int)<=(k:Int):=Qn _;clear hx bK;obtain⟨wx,aJ⟩:=Qe (wr.alloc (.cells #[Qi x.id,.bool x.done,.slice x.A x.ops.length x.c] 39));have ux:Upd No wr wx:=by rw[<-aJ];exact(Il No wr).alloc _
   have bX:Blk wx wr.heap.size 39 [Qi x.id,.bool x.done,.slice x.A x.ops.length x.c]:=by rw[<-aJ];exact Im wr _ _
   have sy:wx.heap.size=wr.heap.size+1:=by rw[<-aJ];simp
   have HO:=Qh (Za ae.out ux Qo);have dG:=Qh (cN.out.upd ux id);have aG:=Qh ae.out.lt;have uN:¬Own (.slice A5 xs.length c5) wr.heap.size:=fun e=>by have:=(aG.out _ e).2;omega
   have je:=Qh (show¬Own (.slice A5 xs.length c5) (z+2) from fun e=>by have:=(aG.out _ e).1;omega);obtain⟨d0,d1,d2⟩:=bX.c3;have CC:=Qh (ZqB _ wx x.A x.c x.ops (HOps.upd ex.out.1 ux Qo) ex.out.2.2.1);have a9:=Qh (hu.trans (ux.mono (fun _ _ e=>e.elim)));have HL:=Qh (show∀t∈xs,t.lies (fun i=>(z+3<=i∧¬Own (.slice A5 xs.length c5) i)∧i<wr.heap.size) wx from fun t ht=>((cK.out t ht).weak (G:=fun i=>(z+3<=i∧¬Own (.slice A5 xs.length c5) i)∧i<wr.heap.size) (fun i hi h=>⟨h,hi⟩)).upd ux Qo);have BX:=Qh bX;clear ae cK cN ux bX hu;go_wp2_with fail;refine(CC.out).mono ?_;rintro e w4 ⟨A4,c4,rfl,kS,aW,hu4⟩;have b4:=BX.out.upd hu4 id;have g2:=b4.cell 2;have k2:=b4.free 2;simp only[Qz,Qs]at g2;obtain⟨w5,jj⟩:=Qe (w4.setCell ⟨wr.heap.size,2,none⟩ (.slice A4 x.ops.length c4));have hu5:Upd (One wr.heap.size) w4 w5:=by rw[<-jj];exact(Il (One wr.heap.size) w4).setOne 2 _
   have b5:Blk w5 wr.heap.size 39 [Qi x.id,.bool x.done,.slice A4 x.ops.length c4]:=by
    have:=b4.set_ 2 (.slice A4 x.ops.length c4);rw[jj]at this
    simpa using this
   obtain⟨e0,e1,e2⟩:=b5.c3;have n8:Blk w5 (z+2) 25 [.slice A5 xs.length c5,.slice none 0 0]:=(dG.out.upd hu4 id).upd hu5 (fun e=>by have e2:z+2=wr.heap.size:=e;omega);have f0:=n8.cell 0;simp only[Qz,Qs]at f0;have oH:=Qh n8;have x5:=Qh (Za (Za HO.out hu4 Qo) hu5 (fun i e e2=>by have:=(aG.out i e).2;have e3:i=wr.heap.size:=e2;omega));have fT:=hu4.size;have tY:=hu5.size;have H4:=Qh (And.intro kS (And.intro aW (And.intro hu4 hu5)));clear n8 b4 b5 kS aW hu4 hu5 d0 d1 d2;go_wp2_with (at_builtin;refine ZbG rfl rfl Zb1 (v:= .slice A5 xs.length c5) (n:=xs.length) (xs:=txF xs) (cells:=[Qi x.id,.bool x.done,.slice A4 x.ops.length c4]) (by rfl) rfl x5.out rfl rfl (by omega) (by omega) (by omega) ?_;intro g6 c6 w6 ar hu6 cI cU;have bQ:=oH.out.upd hu6 je.out;have f6:=bQ.cell 0;have k6:=bQ.free 0;simp only[Qz]at f6);go_roundg (gk-1)
   case measure=>omega
   case rel=>
    obtain⟨kS,aW,hu4,hu5⟩:=H4.out;have aq:Upd (One (z+2)) w6 (w6.setCell ⟨z+2,0,none⟩ (.slice (some ⟨g6,0,none⟩) (xs.length+1) c6)):=(Il (One (z+2)) w6).setOne 0 _;have aN:(xs++[(⟨x.id,x.done,x.ops,A4,c4⟩:HTx)]).length=xs.length+1:=by simp
    have h4:(⟨x.id,x.done,x.ops,A4,c4⟩:HTx).lies (fun i=>wr.heap.size<i∧i<w4.heap.size) w4:=⟨Recs.weak aW (fun i hi h=>⟨show wr.heap.size<i by have:wx.heap.size<=i:=h;omega,hi⟩),kS,ex.out.2.2⟩
    have bq:∀i,Own (.slice (some ⟨g6,0,none⟩) (xs.length+1) c6) i->Own (.slice A5 xs.length c5) i∨w5.heap.size<=i:=fun i e=>by
     cases e
     exact cI
    have eF:∀i,Own (.slice (some ⟨g6,0,none⟩) (xs.length+1) c6) i->¬One (z+2) i:=fun i e e2=>by
     have e3:i=z+2:=e2;rcases bq i e with h|h
     ·have:=(aG.out i h).1;omega
     ·omega
    refine⟨k+1,some ⟨g6,0,none⟩,c6,xs++[⟨x.id,x.done,x.ops,A4,c4⟩],by omega,by go_num,Qh (by rw[Hu,<-HS.out];rfl),Qh (by rw[aN];simpa using bQ.set_ 0 (.slice (some ⟨g6,0,none⟩) (xs.length+1) c6)),Qh (by rw[aN,ZfR];exact Za ar aq eF),Qh (fun t ht=>?_),?_⟩
    ·rw[aN];rcases Ib.1 ht with ht|ht
     ·exact(((((HL.out t ht).upd hu4 Qo).upd hu5 (fun i h e=>by have e2:i=wr.heap.size:=e;omega)).upd hu6 (fun i h e=>h.1.2 e)).upd aq (fun i h e=>by have e2:i=z+2:=e;omega)).weak (fun i _ h=>⟨h.1.1,fun e=>(bq i e).elim h.1.2 (fun h2=>by have:=h.2;omega)⟩)
     ·rw[Gq.1 ht];exact(((h4.upd hu5 (fun i h e=>by have e2:i=wr.heap.size:=e;omega)).upd hu6 (fun i h e=>by have:=(aG.out i e).2;omega)).upd aq (fun i h e=>by have e2:i=z+2:=e;omega)).weak (fun i _ h=>⟨by omega,fun e=>(bq i e).elim (fun h2=>by have:=(aG.out i h2).2;omega) (fun h2=>by omega)⟩)
    ·exact(((a9.out.noR hu4).then_ hu5 (fun i e=> .inr (by have e2:i=wr.heap.size:=e;omega))).then_ hu6 (fun i e=> .inr (by have:=(aG.out i e).1;omega))).then_ aq (fun i e=> .inl e)
  ·obtain rfl:k=txs.length:=by omega
   have HS:=Qh (show xs.map txP=txs.map txP by rw[hs.out,G7]);obtain⟨wo,gU⟩:∃wo,wo=wr:=⟨_,rfl⟩;subst gU;have f1:=hnd _ hu;have nQ:=Qh hu;have kL:=Qh (And.intro ae.out (And.intro cK.out hs.out));have jZ:Upd (One (z+2)) wo wo:=Il _ _;clear hs ae cK bG hnd dK c0 aI hu;go_wp2
   go_loopg [29] ords.length (fun gk s wr=>∃(k:Nat) (B5:OA) (d5:Nat) (ys:List HOrd),k+gk=ords.length∧s= Qi (k:Int)∧Hid (ys.map orP=(ords.take k).map orP)∧Hid (Blk wr (z+2) 25 [.slice A5 xs.length c5,.slice B5 ys.length d5])∧Hid (wr.ownsRow wo.heap.size 68 2 (.slice B5 ys.length d5) ys.length (orF ys))∧Hid (∀t∈ys,t.lies (fun i=>wo.heap.size<=i∧¬Own (.slice B5 ys.length d5) i) wr)∧Upd (One (z+2)) wo wr)
   case atStart=>exact⟨0,none,0,[],by omega,rfl,Qh rfl,cN,Qh (Ik _ _ _ _),Qh (fun t ht=>by cases ht),jZ⟩
   case round=>
    obtain⟨k,B5,d5,ys,aI,rfl,hs,cN,ae,cK,hu⟩:=hrel
    have zd:ys.length<=1000000:=by
     have h3:=congrArg List.length hs.out;rw[Hw,Hw,Hm]at h3;omega
    have EL:=hu.size
    by_cases hlt:k<ords.length
    ·obtain⟨ad,aH,q0,q1⟩:=Zhl (Recs.upd HB.out.ords (nQ.out.trans hu) (fun i h e=>by cases e;omega)) hlt;have bK:=(HB.out.ord ords[k] (Hg hlt)).upd (nQ.out.trans hu) (fun i h e=>by cases e;omega);simp only at aH q0 q1 bK;obtain⟨x,hx⟩:=Qe (ords[k]);simp only[hx]at q0 q1 bK;subst aH;have aU:=Qh (show(ys.map orP++[orP x])=(ords.take (k+1)).map orP by rw[Gb hlt,Hu,hs.out,hx];rfl);have ex:=Qh bK;have b2:(k:Int)<(ords.length:Int):=by omega
     have b1:(0:Int)<=(k:Int):=Qn _;clear hx bK;obtain⟨wx,aJ⟩:=Qe (wr.alloc (.cells #[Qi x.key,.slice x.A x.txs.length x.c] 68));have ux:Upd No wr wx:=by rw[<-aJ];exact(Il No wr).alloc _
     have bX:Blk wx wr.heap.size 68 [Qi x.key,.slice x.A x.txs.length x.c]:=by rw[<-aJ];exact Im wr _ _
     have sy:wx.heap.size=wr.heap.size+1:=by rw[<-aJ];simp
     have HO:=Qh (Za ae.out ux Qo);have dG:=Qh (cN.out.upd ux id);have aG:=Qh ae.out.lt;have i9:=Qh (show¬(Own (.slice B5 ys.length d5) wr.heap.size∨wr.heap.size=z+2) from fun e=>e.elim (fun e=>by have:=(aG.out _ e).2;omega) (fun e=>by omega));have je:=Qh (show¬Own (.slice B5 ys.length d5) (z+2) from fun e=>by have:=(aG.out _ e).1;omega);have d0:∀W,Upd (fun i=>Own (.slice B5 ys.length d5) i∨i=z+2) wx W->W.cell? ⟨wr.heap.size,0,none⟩=some (Qi x.key):=fun W u=>by have:=(bX.upd u i9.out).cell 0;simpa using this
     have d1:∀W,Upd (fun i=>Own (.slice B5 ys.length d5) i∨i=z+2) wx W->W.cell? ⟨wr.heap.size,1,none⟩=some (.slice x.A x.txs.length x.c):=fun W u=>by have:=(bX.upd u i9.out).cell 1;simpa using this
     have e0:wx.cell? ⟨z+2,1,none⟩=some (.slice B5 ys.length d5):=dG.out.cell 1;have CC:=Qh (fun W (u:Upd (fun i=>Own (.slice B5 ys.length d5) i∨i=z+2) wx W)=>ZfG _ W x.A x.c x.txs ((ex.out.1.upd ux Qo).upd u (fun i h e=>e.elim (fun e=>by have:=(aG.out i e).1;omega) (fun e=>by omega))) ex.out.2.2.1);have a9:=Qh (hu.trans (ux.mono (fun _ _ e=>e.elim)));have HL:=Qh (show∀t∈ys,t.lies (fun i=>(wo.heap.size<=i∧¬Own (.slice B5 ys.length d5) i)∧i<wr.heap.size) wx from fun t ht=>((cK.out t ht).weak (G:=fun i=>(wo.heap.size<=i∧¬Own (.slice B5 ys.length d5) i)∧i<wr.heap.size) (fun i hi h=>⟨h,hi⟩)).upd ux Qo);have hxz:Upd (fun i=>Own (.slice B5 ys.length d5) i∨i=z+2) wx wx:=Il _ _;clear ae cK cN ux bX hu f1 jZ;go_wp2;refine wpS (fun W'=>Upd (fun i=>Own (.slice B5 ys.length d5) i∨i=z+2) wx W') ?_ fun jH=>?_
     ·(first|exact hxz.drew|exact jH|exact jH.noR hu4|exact jH.alloc _|exact aw|exact az)
     refine wpK 0 rfl ?_;refine wpK 2 rfl ?_;refine wpK 3 rfl ?_;refine wpK 4 rfl ?_;refine wpK 5 rfl ?_;refine wpR [1,6] ?_;refine wpC rfl (fun K hK=>?_) ?_
     ·go_simp;refine hK.out _ _ ?_ fun jH=>?_
      ·(first|exact hxz.drew|exact jH|exact jH.noR hu4|exact jH.alloc _|exact aw|exact az)
      try simp only[Qa]
      refine wpZ 6 rfl fun K hK=>?_;go_simp
      (first
   |(go_at_call 70;refine(CC.out _ jH).mono ?_;rintro e w4 ⟨A4,c4,rfl,aW,hu4⟩;have e4:w4.cell? ⟨z+2,1,none⟩=some (.slice B5 ys.length d5):=(dG.out.upd hu4.of_drew id).cell 1;have e5:∀o,(w4.alloc o).cell? ⟨z+2,1,none⟩=some (.slice B5 ys.length d5):=fun o=>(dG.out.upd (hu4.of_drew.alloc o) id).cell 1;have dU:=Za HO.out hu4.of_drew Qo;have fT:=hu4.of_drew.size))
      try (go_wp2_with fail)
      refine hK.out _ _ ?_ fun jH=>?_
      ·(first|exact hxz.drew|exact jH|exact jH.noR hu4|exact jH.alloc _|exact aw|exact az)
      try simp only[Qa]
      refine wpK 7 rfl ?_;refine wpZ 8 rfl fun K hK=>?_;go_simp;refine hK.out _ _ ?_ fun jH=>?_
      ·(first|exact hxz.drew|exact jH|exact jH.noR hu4|exact jH.alloc _|exact aw|exact az)
      try simp only[Qa]
      refine wpZ 9 rfl fun K hK=>?_
      (first
   |(refine Zaq (by rfl) (by rfl) Zdq (v:= .slice B5 ys.length d5) (n:=ys.length) (xs:=orF ys) (cells:=[Qi x.key,.slice A4 x.txs.length c4]) (by rfl) (by rfl) (by exact dU.alloc _) rfl (by exact Zah) (by rfl) (by omega) (by omega) (by simp;omega) ?_;intro g6 c6 w6 ar hu6 cI cU;have aw:Upd (fun i=>Own (.slice B5 ys.length d5) i∨i=z+2) wx w6:=jH.trans (hu6.mono (fun i _ e=>Or.inl e));have cG:=Qh ((dG.out.upd (hu4.of_drew.alloc _) id).upd hu6 je.out)))
      refine hK.out _ _ ?_ fun jH=>?_
      ·(first|exact hxz.drew|exact jH|exact jH.noR hu4|exact jH.alloc _|exact aw|exact az)
      try simp only[Qa]
      refine wpK 10 rfl ?_;refine wpZ 11 rfl fun K hK=>?_
      (first
   |(refine Zs (by rfl) (by rfl) (g:=z+2) (i:=1) (v:= .slice (some ⟨g6,0,none⟩) (ys.length+1) c6) (by rfl) (by rfl) cG.out (by kernel_rfl) (by simp) rfl ?_;intro w7 a8 aq;have az:Upd (fun i=>Own (.slice B5 ys.length d5) i∨i=z+2) wx w7:=aw.trans (aq.mono (fun i _ e=>Or.inr e))))
      refine hK.out _ _ ?_ fun jH=>?_
      ·(first|exact hxz.drew|exact jH|exact jH.noR hu4|exact jH.alloc _|exact aw|exact az)
      try simp only[Qa]
      refine wpD (Ii ?_);have bI:=Qh az;have cP:=Qh a8;have dD:=Qh aq;clear jH d0 d1 e0 az a8 aq aw;go_wp2;go_roundg (gk-1)
      case measure=>omega
      case rel=>
       have aN:(ys++[(⟨x.key,x.txs,A4,c4⟩:HOrd)]).length=ys.length+1:=by simp
       have cT:=Zbq aW;have h4:(⟨x.key,x.txs,A4,c4⟩:HOrd).lies (fun i=>wr.heap.size<i∧i<w4.heap.size) w4:=⟨Ints.weak (Ints.of_owned aW) (fun i hi h=>⟨show wr.heap.size<i by have:wx.heap.size<=i:=h;omega,hi⟩),cT,ex.out.2.2⟩
       have bq:∀i,Own (.slice (some ⟨g6,0,none⟩) (ys.length+1) c6) i->Own (.slice B5 ys.length d5) i∨w4.heap.size<=i:=fun i e=>by
        cases e
        rcases cI with h|⟨k6,ei,hlk⟩
        ·exact .inl h.symm
        ·cases ei
         simp only[Ij]at hlk;exact .inr (show w4.heap.size<=g6 by omega)
       have eF:∀i,Own (.slice (some ⟨g6,0,none⟩) (ys.length+1) c6) i->¬One (z+2) i:=fun i e e2=>by
        have e3:i=z+2:=e2;rcases bq i e with h|h
        ·have:=(aG.out i h).1;omega
        ·omega
       refine⟨k+1,some ⟨g6,0,none⟩,c6,ys++[⟨x.key,x.txs,A4,c4⟩],by omega,by go_num,Qh (by rw[Hu,<-aU.out];rfl),Qh (by rw[aN];simpa using cP.out),Qh (by rw[aN,ZdV];exact Za ar dD.out eF),Qh (fun t ht=>?_),a9.out.then_ bI.out (fun i e=>e.elim (fun e=>Or.inr (aG.out i e).1) (fun e=>Or.inl e))⟩;rw[aN];rcases Ib.1 ht with ht|ht
       ·exact((HL.out t ht).upd bI.out (fun i h e=>e.elim h.1.2 (fun e=>by omega))).weak (fun i _ h=>⟨h.1.1,fun e=>(bq i e).elim h.1.2 (fun h2=>by have:=h.2;omega)⟩)
       ·rw[Gq.1 ht];exact(((h4.upd ((Il No w4).alloc _) Qo).upd hu6 (fun i h e=>by have:=(aG.out i e).2;omega)).upd dD.out (fun i h e=>by cases e;omega)).weak (fun i _ h=>⟨by omega,fun e=>(bq i e).elim (fun h2=>by have:=(aG.out i h2).2;omega) (fun h2=>by omega)⟩)
     refine wpC rfl (fun K hK=>?_) AllReadyH.nil;go_simp
     (first
  |(go_at_call 70;refine(CC.out _ jH).mono ?_;rintro e w4 ⟨A4,c4,rfl,aW,hu4⟩;have e4:w4.cell? ⟨z+2,1,none⟩=some (.slice B5 ys.length d5):=(dG.out.upd hu4.of_drew id).cell 1;have e5:∀o,(w4.alloc o).cell? ⟨z+2,1,none⟩=some (.slice B5 ys.length d5):=fun o=>(dG.out.upd (hu4.of_drew.alloc o) id).cell 1;have dU:=Za HO.out hu4.of_drew Qo;have fT:=hu4.of_drew.size))
     try (go_wp2_with fail)
     refine hK.out _ _ ?_ fun jH=>?_
     ·(first|exact hxz.drew|exact jH|exact jH.noR hu4|exact jH.alloc _|exact aw|exact az)
     try simp only[Qa]
     refine wpK 7 rfl ?_;refine wpR [1,8] ?_;refine wpC rfl (fun K hK=>?_) ?_
     ·go_simp;refine hK.out _ _ ?_ fun jH=>?_
      ·(first|exact hxz.drew|exact jH|exact jH.noR hu4|exact jH.alloc _|exact aw|exact az)
      try simp only[Qa]
      refine wpZ 8 rfl fun K hK=>?_;go_simp;refine hK.out _ _ ?_ fun jH=>?_
      ·(first|exact hxz.drew|exact jH|exact jH.noR hu4|exact jH.alloc _|exact aw|exact az)
      try simp only[Qa]
      refine wpZ 9 rfl fun K hK=>?_
      (first
   |(refine Zaq (by rfl) (by rfl) Zdq (v:= .slice B5 ys.length d5) (n:=ys.length) (xs:=orF ys) (cells:=[Qi x.key,.slice A4 x.txs.length c4]) (by rfl) (by rfl) (by exact dU.alloc _) rfl (by exact Zah) (by rfl) (by omega) (by omega) (by simp;omega) ?_;intro g6 c6 w6 ar hu6 cI cU;have aw:Upd (fun i=>Own (.slice B5 ys.length d5) i∨i=z+2) wx w6:=jH.trans (hu6.mono (fun i _ e=>Or.inl e));have cG:=Qh ((dG.out.upd (hu4.of_drew.alloc _) id).upd hu6 je.out)))
      refine hK.out _ _ ?_ fun jH=>?_
      ·(first|exact hxz.drew|exact jH|exact jH.noR hu4|exact jH.alloc _|exact aw|exact az)
      try simp only[Qa]
      refine wpK 10 rfl ?_;refine wpZ 11 rfl fun K hK=>?_
      (first
   |(refine Zs (by rfl) (by rfl) (g:=z+2) (i:=1) (v:= .slice (some ⟨g6,0,none⟩) (ys.length+1) c6) (by rfl) (by rfl) cG.out (by kernel_rfl) (by simp) rfl ?_;intro w7 a8 aq;have az:Upd (fun i=>Own (.slice B5 ys.length d5) i∨i=z+2) wx w7:=aw.trans (aq.mono (fun i _ e=>Or.inr e))))
      refine hK.out _ _ ?_ fun jH=>?_
      ·(first|exact hxz.drew|exact jH|exact jH.noR hu4|exact jH.alloc _|exact aw|exact az)
      try simp only[Qa]
      refine wpD (Ii ?_);have bI:=Qh az;have cP:=Qh a8;have dD:=Qh aq;clear jH d0 d1 e0 az a8 aq aw;go_wp2;go_roundg (gk-1)
      case measure=>omega
      case rel=>
       have aN:(ys++[(⟨x.key,x.txs,A4,c4⟩:HOrd)]).length=ys.length+1:=by simp
       have cT:=Zbq aW;have h4:(⟨x.key,x.txs,A4,c4⟩:HOrd).lies (fun i=>wr.heap.size<i∧i<w4.heap.size) w4:=⟨Ints.weak (Ints.of_owned aW) (fun i hi h=>⟨show wr.heap.size<i by have:wx.heap.size<=i:=h;omega,hi⟩),cT,ex.out.2.2⟩
       have bq:∀i,Own (.slice (some ⟨g6,0,none⟩) (ys.length+1) c6) i->Own (.slice B5 ys.length d5) i∨w4.heap.size<=i:=fun i e=>by
        cases e
        rcases cI with h|⟨k6,ei,hlk⟩
        ·exact .inl h.symm
        ·cases ei
         simp only[Ij]at hlk;exact .inr (show w4.heap.size<=g6 by omega)
       have eF:∀i,Own (.slice (some ⟨g6,0,none⟩) (ys.length+1) c6) i->¬One (z+2) i:=fun i e e2=>by
        have e3:i=z+2:=e2;rcases bq i e with h|h
        ·have:=(aG.out i h).1;omega
        ·omega
       refine⟨k+1,some ⟨g6,0,none⟩,c6,ys++[⟨x.key,x.txs,A4,c4⟩],by omega,by go_num,Qh (by rw[Hu,<-aU.out];rfl),Qh (by rw[aN];simpa using cP.out),Qh (by rw[aN,ZdV];exact Za ar dD.out eF),Qh (fun t ht=>?_),a9.out.then_ bI.out (fun i e=>e.elim (fun e=>Or.inr (aG.out i e).1) (fun e=>Or.inl e))⟩;rw[aN];rcases Ib.1 ht with ht|ht
       ·exact((HL.out t ht).upd bI.out (fun i h e=>e.elim h.1.2 (fun e=>by omega))).weak (fun i _ h=>⟨h.1.1,fun e=>(bq i e).elim h.1.2 (fun h2=>by have:=h.2;omega)⟩)
       ·rw[Gq.1 ht];exact(((h4.upd ((Il No w4).alloc _) Qo).upd hu6 (fun i h e=>by have:=(aG.out i e).2;omega)).upd dD.out (fun i h e=>by cases e;omega)).weak (fun i _ h=>⟨by omega,fun e=>(bq i e).elim (fun h2=>by have:=(aG.out i h2).2;omega) (fun h2=>by omega)⟩)
     refine wpC rfl (fun K hK=>?_) AllReadyH.nil;go_simp;refine hK.out _ _ ?_ fun jH=>?_
     ·(first|exact hxz.drew|exact jH|exact jH.noR hu4|exact jH.alloc _|exact aw|exact az)
     try simp only[Qa]
     refine wpZ 1 rfl fun K hK=>?_;go_simp;refine hK.out _ _ ?_ fun jH=>?_
     ·(first|exact hxz.drew|exact jH|exact jH.noR hu4|exact jH.alloc _|exact aw|exact az)
     try simp only[Qa]
     refine wpZ 9 rfl fun K hK=>?_
     (first
  |(refine Zaq (by rfl) (by rfl) Zdq (v:= .slice B5 ys.length d5) (n:=ys.length) (xs:=orF ys) (cells:=[Qi x.key,.slice A4 x.txs.length c4]) (by rfl) (by rfl) (by exact dU.alloc _) rfl (by exact Zah) (by rfl) (by omega) (by omega) (by simp;omega) ?_;intro g6 c6 w6 ar hu6 cI cU;have aw:Upd (fun i=>Own (.slice B5 ys.length d5) i∨i=z+2) wx w6:=jH.trans (hu6.mono (fun i _ e=>Or.inl e));have cG:=Qh ((dG.out.upd (hu4.of_drew.alloc _) id).upd hu6 je.out)))
     refine hK.out _ _ ?_ fun jH=>?_
     ·(first|exact hxz.drew|exact jH|exact jH.noR hu4|exact jH.alloc _|exact aw|exact az)
     try simp only[Qa]
     refine wpK 10 rfl ?_;refine wpZ 11 rfl fun K hK=>?_
     (first
  |(refine Zs (by rfl) (by rfl) (g:=z+2) (i:=1) (v:= .slice (some ⟨g6,0,none⟩) (ys.length+1) c6) (by rfl) (by rfl) cG.out (by kernel_rfl) (by simp) rfl ?_;intro w7 a8 aq;have az:Upd (fun i=>Own (.slice B5 ys.length d5) i∨i=z+2) wx w7:=aw.trans (aq.mono (fun i _ e=>Or.inr e))))
     refine hK.out _ _ ?_ fun jH=>?_
     ·(first|exact hxz.drew|exact jH|exact jH.noR hu4|exact jH.alloc _|exact aw|exact az)
     try simp only[Qa]
     refine wpD (Ii ?_);have bI:=Qh az;have cP:=Qh a8;have dD:=Qh aq;clear jH d0 d1 e0 az a8 aq aw;go_wp2;go_roundg (gk-1)
     case measure=>omega
     case rel=>
      have aN:(ys++[(⟨x.key,x.txs,A4,c4⟩:HOrd)]).length=ys.length+1:=by simp
      have cT:=Zbq aW;have h4:(⟨x.key,x.txs,A4,c4⟩:HOrd).lies (fun i=>wr.heap.size<i∧i<w4.heap.size) w4:=⟨Ints.weak (Ints.of_owned aW) (fun i hi h=>⟨show wr.heap.size<i by have:wx.heap.size<=i:=h;omega,hi⟩),cT,ex.out.2.2⟩
      have bq:∀i,Own (.slice (some ⟨g6,0,none⟩) (ys.length+1) c6) i->Own (.slice B5 ys.length d5) i∨w4.heap.size<=i:=fun i e=>by
       cases e
       rcases cI with h|⟨k6,ei,hlk⟩
       ·exact .inl h.symm
       ·cases ei
        simp only[Ij]at hlk;exact .inr (show w4.heap.size<=g6 by omega)
      have eF:∀i,Own (.slice (some ⟨g6,0,none⟩) (ys.length+1) c6) i->¬One (z+2) i:=fun i e e2=>by
       have e3:i=z+2:=e2;rcases bq i e with h|h
       ·have:=(aG.out i h).1;omega
       ·omega
      refine⟨k+1,some ⟨g6,0,none⟩,c6,ys++[⟨x.key,x.txs,A4,c4⟩],by omega,by go_num,Qh (by rw[Hu,<-aU.out];rfl),Qh (by rw[aN];simpa using cP.out),Qh (by rw[aN,ZdV];exact Za ar dD.out eF),Qh (fun t ht=>?_),a9.out.then_ bI.out (fun i e=>e.elim (fun e=>Or.inr (aG.out i e).1) (fun e=>Or.inl e))⟩;rw[aN];rcases Ib.1 ht with ht|ht
      ·exact((HL.out t ht).upd bI.out (fun i h e=>e.elim h.1.2 (fun e=>by omega))).weak (fun i _ h=>⟨h.1.1,fun e=>(bq i e).elim h.1.2 (fun h2=>by have:=h.2;omega)⟩)
      ·rw[Gq.1 ht];exact(((h4.upd ((Il No w4).alloc _) Qo).upd hu6 (fun i h e=>by have:=(aG.out i e).2;omega)).upd dD.out (fun i h e=>by cases e;omega)).weak (fun i _ h=>⟨by omega,fun e=>(bq i e).elim (fun h2=>by have:=(aG.out i h2).2;omega) (fun h2=>by omega)⟩)
    ·obtain rfl:k=ords.length:=by omega
     have aU:=Qh (show ys.map orP=ords.map orP by rw[hs.out,G7]);have eP:=Qh (nQ.out.trans hu);have jk:=Qh hu;have aB:=BR.out.upd eP.out (fun e=>by cases e);obtain⟨m0,m1⟩:=cN.out.c2;obtain⟨s0,s1'⟩:=aB.c2;obtain⟨t0,t1⟩:=aB.f2;have dA:=Qh aB;have om:=Qh (And.intro ae.out cK.out);clear hs ae cK hu aB cN f1 jZ;go_wp2;have b9:=(dA.out.set_ 0 (.slice A5 xs.length c5)).set_ 1 (.slice B5 ys.length d5);simp only[List.set_cons_zero,List.set_cons_succ]at b9;have US:=((Il (One (z+1)) wr).setOne 0 (.slice A5 xs.length c5)).setOne 1 (.slice B5 ys.length d5);have hzz:=jk.out.size;have hA:=kL.out.1;have hB:=om.out.1
     have oz:∀i,Own (.slice A5 xs.length c5) i->¬Own (.slice B5 ys.length d5) i:=fun i e e2=>by
      have h3:=(hA.lt i e).2;have h4:=(hB.lt i e2).1;omega
     refine bodyPost_ret (results_cell_row (p:=2) rfl _ _ _ _ _ _ _ rfl b9 Tryz.underlying25 rfl (by kernel_rfl)) rfl ⟨_,rfl,⟨A5,c5,xs,B5,d5,ys,rfl,HS.out,aU.out,?_,?_,oz,?_,?_⟩,?_⟩
     ·exact ZK (Za (Za hA jk.out (fun i e e2=>by have:=(hA.lt i e).1;cases e2;omega)) US (fun i e e2=>by have:=(hA.lt i e).1;cases e2;omega)) (by have:=HZ.out;omega)
     ·exact ZK (Za hB US (fun i e e2=>by have:=(hB.lt i e).1;cases e2;omega)) (by have:=HZ.out;omega)
     ·intro t ht;exact((((kL.out.2.1 t ht).weak (G:=fun i=>(z+3<=i∧¬Own (.slice A5 xs.length c5) i)∧i<wo.heap.size) (fun i hi h=>⟨h,hi⟩)).upd jk.out (fun i h e=>by cases e;omega)).upd US (fun i h e=>by cases e;omega)).weak (fun i _ h=>⟨by have:=HZ.out;omega,h.1.2,fun e=>by have:=(hB.lt i e).1;omega⟩)
     ·intro t ht;exact((om.out.2 t ht).upd US (fun i h e=>by cases e;omega)).weak (fun i _ h=>⟨by have:=HZ.out;omega,fun e=>by have:=(hA.lt i e).2;omega,h.2⟩)
     ·exact(UB.out.then_ eP.out (fun i e=> .inr (by cases e;have:=HZ.out;omega))).then_ US (fun i e=> .inr (by cases e;have:=HZ.out;omega))
