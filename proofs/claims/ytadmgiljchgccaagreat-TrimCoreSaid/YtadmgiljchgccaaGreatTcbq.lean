/- trim.walkDown. -/
import Derived.Test.YtadmgiljchgccaaGreatTcbp
namespace Go.Proofs.YtadmgiljchgccaaGreat
open Go.RowKit
set_option linter.unusedVariables false
set_option linter.unusedSimpArgs false
set_option maxRecDepth 100000
set_option maxHeartbeats 8000000
theorem ZeM{A:OA}{n m c d i:Nat}(h:Own (.slice A n c) i):Own (.slice A m d) i:=by
 cases A with
 |none=>cases h
 |some a=>exact h
def Zhe(z:Nat)(A:OA)(i:Nat):Prop:=i≠z∧i≠z+1∧¬Own (.slice A 0 0) i
theorem ZtZ(F:Iw)(w:I0)(txs:List HTx)(ords:List HOrd)(A:OA)(c:Nat)(B:OA)(d:Nat)(p:Int)(H:Hist.lies F w ⟨txs,ords,A,c,B,d⟩)(hl:Zd ⟨txs,ords,A,c,B,d⟩=true)(T:Hist×Iv)(hT:Zcx ⟨txs,ords,A,c,B,d⟩ p=T):
  Calls Tryz.prog 29 #[.agg #[.slice A txs.length c,.slice B ords.length d],Qi p] w fun e w'=>∃v Ag cg gn,e= .returned (.tuple #[v,.slice Ag (List.length gn) cg])∧T.2=gn∧LiesN 0 w' v T.1∧w'.ownsRow w.heap.size 3 1 (.slice Ag gn.length cg) gn.length (gn.map (Value.int .i64))∧Upd No w w':=by
 obtain⟨z,hz⟩:=Qe w.heap.size;obtain⟨w1,ap⟩:=Qe (w.alloc (.cells #[.slice A txs.length c,.slice B ords.length d] 25));have s1:w1.heap.size=z+1:=by rw[<-ap,<-hz];simp
 obtain⟨wb,ag⟩:=Qe (w1.alloc (.cells #[.slice none 0 0,.slice none 0 0] 25));have s2:wb.heap.size=z+2:=by rw[<-ag];simp;omega
 have u1:Upd No w w1:=by rw[<-ap];exact(Il No w).alloc _
 have u2:Upd No w1 wb:=by rw[<-ag];exact(Il No w1).alloc _
 have b0:Blk wb z 25 [.slice A txs.length c,.slice B ords.length d]:=by
  have:Blk w1 z 25 [.slice A txs.length c,.slice B ords.length d]:=by rw[<-ap,<-hz];exact Im w _ _
  exact this.upd u2 id
 have b1:Blk wb (z+1) 25 [.slice none 0 0,.slice none 0 0]:=by rw[<-ag,<-s1];exact Im w1 _ _
 have UB:=Qh (u1.trans u2);have HB:=Qh (((H.weak (G:=fun i=>i<z) (fun i hi _=>by omega)).upd (u1.trans u2) Qo).weak (G:=Zhe z none) (fun i _ h=>⟨by omega,by omega,fun e=>by cases e⟩));have BR:=Qh b1;have B0:=Qh b0;have HZ:=Qh hz;have SB:=Qh s2;have eq:=Qh hl;obtain⟨l1,l2⟩:=ZdL hl;simp only at l1 l2;have HT:Hid (Zbe p (txs.length+1) (⟨txs,ords,A,c,B,d⟩,[])=T):=Qh hT;have hbz:Upd (One z) wb wb:=Il _ _;clear u1 u2 b0 b1 H hl hT;go_enter Tryz.func29,Tryz.ntmps29;go_wp2
 go_step3
 go_wp2
 go_step3
 go_wp2
 go_loopg [6] (txs.length+1) (fun gk s6 wr=>∃(SH:Hist) (gn:Iv) (xt:List HTx) (xo:List HOrd) (xA:OA) (xc:Nat) (xB:OA) (xd:Nat) (A5:OA) (c5:Nat),Hid (Zbe p gk (SH,gn)=T)∧SH.txs.length<gk∧Hid (Hist.nrm ⟨xt,xo,xA,xc,xB,xd⟩=SH.nrm)∧Hid (Zd SH=true)∧Hid (SH.txs.length+gn.length<=12)∧s6= .slice A5 gn.length c5∧
  Hid (Blk wr z 25 [.slice xA xt.length xc,.slice xB xo.length xd])∧Hid (Hist.lies (Zhe z A5) wr ⟨xt,xo,xA,xc,xB,xd⟩)∧Hid (wr.ownsRow (z+2) 3 1 (.slice A5 gn.length c5) gn.length (gn.map (Value.int .i64)))∧Upd (One z) wb wr)
 case atStart=>exact⟨⟨txs,ords,A,c,B,d⟩,[],txs,ords,A,c,B,d,none,0,HT,Nat.lt_succ_self _,Qh rfl,eq,Qh l1,rfl,B0,HB,Qh (Ik _ _ _ _),hbz⟩
 case round=>
  obtain⟨SH,gn,xt,xo,xA,xc,xB,xd,A5,c5,hw,aI,hn,qc,hle,rfl,hbz,cK,ae,hu⟩:=hrel;obtain⟨n,rfl⟩:∃n,gk=n+1:=⟨gk-1,by omega⟩;obtain⟨c0,c1⟩:=hbz.out.c2;obtain⟨ids,cQ⟩:=Qe (Zb9 SH);have hxl:xt.length=SH.txs.length:=ZqW hn.out;have hI:=ZxY cK.out (by have:=hle.out;omega);rw[show ZdO xt=ids from(Zu6 hn.out).trans cQ]at hI;have HI:=Qh hI;have sV:=Qh (show ids.length<=12 by rw[<-cQ];unfold Zb9;simp;have:=hle.out;omega);have qK:=Qh cQ;have dX:=Qh hxl;have kv:=hu.size;have HU:=Qh hu;clear hI cQ hxl;go_wp2_with fail;refine(HI.out).mono ?_;rintro e w2 ⟨A2,c2,rfl,cE,hu2⟩;have jp:=Qh (show Ints (Zhe z A5) w2 A2 ids from(Ints.of_own cE).weak (fun i _ h=>⟨by have:wr.heap.size<=i:=h;omega,by have:wr.heap.size<=i:=h;omega,fun e=>by have:=(ae.out.lt i (ZeM e)).2;have:wr.heap.size<=i:=h;omega⟩));have dR:=Qh (hbz.out.upd hu2 id);have mz:=Qh (cK.out.upd hu2 Qo);have iK:=Qh (Za ae.out hu2 Qo);have de:=Qh (HU.out.noR hu2);have CY:=sV.out;have kX:=hle.out;have Ee:=Qh aI;have tk:Upd (One z) wb w2:=de.out;clear hbz cK ae hu cE hu2 c0 c1 aI;generalize n=N at*;go_wp2
  go_loopg [6,17] ids.length (fun gk s6 s17 wr=>∃(k:Nat) (gm:Iv) (xt:List HTx) (xo:List HOrd) (xA:OA) (xc:Nat) (xB:OA) (xd:Nat) (A5:OA) (c5:Nat),k+gk=ids.length∧s17= Qi (k:Int)∧Hid ((upT p (SH,gn) k).2=gm)∧Hid (Hist.nrm ⟨xt,xo,xA,xc,xB,xd⟩=(upT p (SH,gn) k).1.nrm)∧s6= .slice A5 gm.length c5∧
   Hid (Blk wr z 25 [.slice xA xt.length xc,.slice xB xo.length xd])∧Hid (Hist.lies (Zhe z A5) wr ⟨xt,xo,xA,xc,xB,xd⟩)∧Hid (wr.ownsRow (z+2) 3 1 (.slice A5 gm.length c5) gm.length (gm.map (Value.int .i64)))∧Hid (Ints (Zhe z A5) wr A2 ids)∧Upd (One z) wb wr)
  case atStart=>exact⟨0,gn,xt,xo,xA,xc,xB,xd,A5,c5,by omega,rfl,Qh rfl,Qh hn.out,rfl,dR,mz,iK,jp,tk⟩
  case round=>
   clear dR mz iK jp hn tk;obtain⟨k,gm,xt,xo,xA,xc,xB,xd,A5,c5,aI,rfl,kx,hn,rfl,hbz,cK,ae,hin,hu⟩:=hrel;obtain⟨c0,c1⟩:=hbz.out.c2
   by_cases hlt:k<ids.length
   ·obtain⟨ad,aH,_,_,q0⟩:=hin.out.at_ hlt;obtain⟨iq,hid⟩:=Qe (ids[k]);rw[hid]at q0;have BV:=Qh (Zr8 (p:=p) (S:=(SH,gn)) (k:=k) (id:=iq) (show(Zb9 SH)[k]? =some iq by rw[qK.out,Qg hlt,hid]));have zJ:=Qh ((ZdZ hn.out).trans (Zkc (p:=p) (S:=(SH,gn)) (k:=k) qc.out));have eB:=Qh (Zrc (p:=p) hn.out iq);have b2:(k:Int)<(ids.length:Int):=by omega
    have b1:(0:Int)<=(k:Int):=Qn _;have jp:=Qh hin.out;have kv:=hu.size;subst aH;clear hid hin
    cases hgo:goT p (upT p (SH,gn) k).1 iq
    ·have gW:=Qh (BV.out.trans (ZuB hgo));have HW:=Qh (ZtX _ wr xt xo xA xc xB xd p iq cK.out zJ.out (eB.out.trans hgo));clear hgo;go_wp2_with fail;refine Ck HW.out fun w3 hu3=>?_;have bg:=Qh hu3;clear hu3 c0 c1 q0;go_wp2;go_roundg (gk-1)
     case measure=>omega
     case rel=>
      have u4:Upd No wr (w3.alloc (.cells #[.slice none 0 0,.slice none 0 0] 25)):=bg.out.alloc _;exact⟨k+1,gm,xt,xo,xA,xc,xB,xd,A5,c5,by omega,by go_num,Qh (by rw[gW.out];exact kx.out),Qh (by rw[gW.out];exact hn.out),rfl,Qh (hbz.out.upd u4 id),Qh (cK.out.upd u4 Qo),Qh (Za ae.out u4 Qo),Qh (jp.out.upd u4 Qo),hu.noR u4⟩
    ·have gW:=Qh (BV.out.trans (Zsb hgo));have HW:=Qh (Zp1 _ wr xt xo xA xc xB xd p iq cK.out zJ.out (eB.out.trans hgo));have aG:=Qh ae.out.lt
     have EU:=Qh (show gm.length<=12 by
      have h1:=ZnA (p:=p) (S:=(SH,gn)) (k:=k);have h2:=hle.out;rw[kx.out]at h1;simp only at h1;omega)
     clear hgo;go_wp2_with fail;refine(HW.out).mono ?_;rintro e w3 ⟨v,rfl,ik,hu3⟩;obtain⟨yt,yo,yA,yc,yB,yd,rfl,hy,gP⟩:=ik.open;obtain⟨wx,aJ⟩:=Qe (w3.alloc (.cells #[.slice yA yt.length yc,.slice yB yo.length yd] 25));have ux:Upd No w3 wx:=by rw[<-aJ];exact(Il No w3).alloc _
     have bX:Blk wx w3.heap.size 25 [.slice yA yt.length yc,.slice yB yo.length yd]:=by rw[<-aJ];exact Im w3 _ _
     have gV:Upd No wr wx:=hu3.trans ux;have eY:=hu3.size;have sy:=ux.size;have uN:¬(Own (.slice A5 gm.length c5) w3.heap.size∨w3.heap.size=z):=fun e=>e.elim (fun e=>by have:=(aG.out _ e).2;omega) (fun e=>by omega)
     have d0:∀W,Upd (fun i=>Own (.slice A5 gm.length c5) i∨i=z) wx W->W.cell? ⟨w3.heap.size,0,none⟩=some (.slice yA yt.length yc):=fun W u=>by have:=(bX.upd u uN).cell 0;simpa using this
     have d1:∀W,Upd (fun i=>Own (.slice A5 gm.length c5) i∨i=z) wx W->W.cell? ⟨w3.heap.size,1,none⟩=some (.slice yB yo.length yd):=fun W u=>by have:=(bX.upd u uN).cell 1;simpa using this
     have Eo:=Qh (show¬Own (.slice A5 gm.length c5) z from fun e=>by have:=(aG.out _ e).1;omega);have HO:=Qh (Za ae.out gV Qo);have nS:=Qh (hbz.out.upd gV id);have HY:=Qh (((hy.weak (G:=fun i=>wr.heap.size<=i∧i<w3.heap.size) (fun i hi h=>⟨h,hi⟩)).upd ux Qo));have FA:=Qh (((jp.out.lt.upd gV Qo)));have a9:=Qh (hu.noR gV);have Ey:=Qh (((Ints.weak (G:=fun i=>Zhe z A5 i∧i<wr.heap.size) jp.out (fun i hi h=>⟨h,hi⟩)).upd gV Qo));have yl:=Qh gP;have hxz:Upd (fun i=>Own (.slice A5 gm.length c5) i∨i=z) wx wx:=Il _ _;have C0:=EU.out;have jK:z+2<=wx.heap.size:=by have:=de.out.size;omega
     clear hu3 ik hy gP ux bX gV c0 c1 q0 hbz cK ae hu;go_wp2;refine wpS (fun W'=>Upd (fun i=>Own (.slice A5 gm.length c5) i∨i=z) wx W') ?_ fun jH=>?_
     ·(first|exact hxz.drew|exact jH|exact jH.alloc _|exact aw|exact az)
     (iterate 3 refine wpF ?_);refine wpZ 3 rfl fun K hK=>?_;go_simp;refine hK.out _ _ ?_ fun jH=>?_
     ·(first|exact hxz.drew|exact jH|exact jH.alloc _|exact aw|exact az)
     try simp only[Qa]
     refine wpZ 4 rfl fun K hK=>?_
     (first
  |(refine Zaq (by rfl) (by rfl) Zay (v:= .slice A5 gm.length c5) (n:=gm.length) (xs:=gm.map (Value.int .i64)) (cells:=[Qi iq]) (by rfl) (by rfl) (by exact Za HO.out ((Il No wx).drew.alloc _) (fun _ _=>(fun h=>h))) rfl (by exact Zah) (by rfl) (by omega) (by omega) (by simp;omega) ?_;intro g6 c6 w6 ar hu6 cI cU;have aw:Upd (fun i=>Own (.slice A5 gm.length c5) i∨i=z) wx w6:=jH.trans (hu6.mono (fun i _ e=>Or.inl e));have cG:=Qh ((nS.out.upd ((Il No wx).drew.alloc _) (fun h=>h)).upd hu6 Eo.out)))
     refine hK.out _ _ ?_ fun jH=>?_
     ·(first|exact hxz.drew|exact jH|exact jH.alloc _|exact aw|exact az)
     try simp only[Qa]
     refine wpZ 5 rfl fun K hK=>?_
     (first
  |(refine Znd (by rfl) (by rfl) (g:=z) (cells:=[.slice yA yt.length yc,.slice yB yo.length yd]) (by rfl) (by rfl) cG.out (by kernel_rfl) rfl rfl ?_;intro w7 a8 aq;have az:Upd (fun i=>Own (.slice A5 gm.length c5) i∨i=z) wx w7:=aw.trans (aq.mono (fun i _ e=>Or.inr e))))
     refine hK.out _ _ ?_ fun jH=>?_
     ·(first|exact hxz.drew|exact jH|exact jH.alloc _|exact aw|exact az)
     try simp only[Qa]
     refine wpK 6 rfl ?_;refine wpD (Ii ?_)
     have bq:∀i,Own (.slice (some ⟨g6,0,none⟩) (gm.length+1) c6) i->Own (.slice A5 gm.length c5) i∨wx.heap.size<=i:=fun i e=>by
      cases e
      rcases cI with h|⟨k6,ei,hlk⟩
      ·exact .inl h.symm
      ·cases ei
       exact .inr (Nat.le_trans (by first|exact((Il No wx).alloc _).drew.size|exact(((Il No wx).drew).alloc _).size) hlk)
     have eF:∀i,Own (.slice (some ⟨g6,0,none⟩) (gm.length+1) c6) i->¬One z i:=fun i e e2=>by
      have e3:i=z:=e2;rcases bq i e with h|h
      ·have:=(aG.out i h).1;omega
      ·omega
     have aN:(gm++[iq]).length=gm.length+1:=by simp
     have px:=Qh (show w7.ownsRow (z+2) 3 1 (.slice (some ⟨g6,0,none⟩) (gm++[iq]).length c6) (gm++[iq]).length ((gm++[iq]).map (Value.int .i64)) by
      rw[aN,Hu];exact Za ar aq eF)
     have jE:=Qh (show Hist.lies (Zhe z (some ⟨g6,0,none⟩)) w7 ⟨yt,yo,yA,yc,yB,yd⟩ from
      ((HY.out.upd jH (fun i h e=>e.elim (fun e=>by have:=(aG.out i e).2;omega) (fun e=>by omega))).weak (fun i _ h=>⟨by omega,by omega,fun e=>(bq i (ZeM e)).elim (fun e=>by have:=(aG.out i e).2;omega) (fun e=>by omega)⟩)))
     have ra:=Qh (show Ints (Zhe z (some ⟨g6,0,none⟩)) w7 (some ad) ids from
      ((Ey.out.upd jH (fun i h e=>e.elim (fun e=>h.1.2.2 (ZeM e)) (fun e=>h.1.1 e))).weak (fun i _ h=>⟨h.1.1,h.1.2.1,fun e=>(bq i (ZeM e)).elim (fun e=>h.1.2.2 (ZeM e)) (fun e=>by omega)⟩)))
     have bI:Hid (Upd (One z) wb w7):=Qh (a9.out.then_ jH (fun i e=>e.elim (fun e=> .inr (by have:=(aG.out i e).1;omega)) (fun e=> .inl e)));have cP:=Qh a8;have ow:=Qh aN;have p0:=a8.cell 0;simp only[Qz]at p0;have fK:Hid (Hist.nrm ⟨yt,yo,yA,yc,yB,yd⟩=(ZaL (upT p (SH,gn) k).1 iq).nrm):=Qh (yl.out.trans (Zwr hn.out iq));clear jH aw az a8 aq ar hu6 cI cU bq eF d0 d1 aN
     by_cases hy0:yt.length=0
     ·have Er:((yt.length:Int)==0)=true:=by rw[hy0];rfl
      have yh:upT p (SH,gn) (k+1)=T:=Zoq hw.out (by
       rw[gW.out];have h1:=ZqW fK.out;exact Gd (h1.symm.trans hy0))
      rw[gW.out]at yh;have ug:=Qh yh;clear hy0 yh p0;have hbz:=cP.out;obtain⟨m0,m1⟩:=hbz.c2;have aB:=BR.out.upd bI.out (fun e=>by have e2:z+1=z:=e;omega);obtain⟨s0,s1'⟩:=aB.c2;obtain⟨t0,t1⟩:=aB.f2;have dA:=Qh aB;clear hbz aB;go_wp2;have b9:=(dA.out.set_ 0 (.slice yA (List.length yt) yc)).set_ 1 (.slice yB (List.length yo) yd);simp only[List.set_cons_zero,List.set_cons_succ]at b9;obtain⟨r0,r1⟩:=b9.c2;have US:=((Il (One (z+1)) w7).setOne 0 (.slice yA (List.length yt) yc)).setOne 1 (.slice yB (List.length yo) yd)
      try rw[Exit.noGoto_ret]
      refine bodyPost_ret (v:= .tuple #[.agg #[.slice yA (List.length yt) yc,.slice yB (List.length yo) yd],.slice (some ⟨g6,0,none⟩) (List.length (gm++[iq])) c6]) (by simp[results,Tryz.results29,go_sem,r0,r1]) rfl ⟨_,(some ⟨g6,0,none⟩),c6,(gm++[iq]),rfl,?gone,⟨⟨yt,yo,yA,yc,yB,yd⟩,rfl,(jE.out.upd US (fun i h e=>h.2.1 e)).weak (fun _ _ _=>Nat.zero_le _),?left⟩,ZK (Za px.out US (fun i e e2=>by have h1:=(px.out.lt i e).1;have h2:i=z+1:=e2;omega)) (by have:=HZ.out;omega),(UB.out.then_ bI.out (fun i e=> .inr (by have h2:i=z:=e;have:=HZ.out;omega))).then_ US (fun i e=> .inr (by have h2:i=z+1:=e;have:=HZ.out;omega))⟩
      case gone=>rw[<-ug.out,kx.out]
      case left=>rw[<-ug.out];exact fK.out
     ·have Er:((yt.length:Int)==0)=false:=by rw[beq_eq_false_iff_ne];omega
      clear hy0;go_wp2;go_roundg (gk-1);exact⟨k+1,gm++[iq],yt,yo,yA,yc,yB,yd,some ⟨g6,0,none⟩,c6,by omega,by go_num,Qh (by rw[gW.out,kx.out]),Qh (by rw[gW.out];exact fK.out),by rw[ow.out],cP,jE,px,ra,bI.out⟩;omega
   ·obtain rfl:k=ids.length:=by omega
    have hR:Z8 p (SH,gn)=upT p (SH,gn) ids.length:=(Zux (by rw[qK.out];exact Nat.le_refl _)).symm;have oE:=ZnA (p:=p) (S:=(SH,gn)) (k:=ids.length);obtain⟨⟨o9,gm2⟩,pP⟩:∃S2,upT p (SH,gn) ids.length=S2:=⟨_,rfl⟩;rw[pP]at kx hn hR oE;have vi:=Qh (show Zd o9=true by have:=Zkc (p:=p) (S:=(SH,gn)) (k:=ids.length) qc.out;rwa [pP]at this);obtain rfl:gm2=gm:=kx.out;have HN:Hid (Hist.nrm ⟨xt,xo,xA,xc,xB,xd⟩=o9.nrm):=Qh hn.out;have yv:=Qh (show o9.txs.length+gm2.length<=12 by have:=hle.out;simp only at oE;omega);have oU:=Qh hR;clear kx hn hR oE pP
    by_cases he:gm2.length=gn.length
    ·have Be:(o9,gm2)=T:=by
      have:=ZpS hw.out (by rw[oU.out];exact he)
      rwa [oU.out]at this
     have Bd:=Qh Be;have eO:((gm2.length:Int)==(gn.length:Int))=true:=by rw[he];simp
     clear he Be;have hbz:=hbz.out;obtain⟨m0,m1⟩:=hbz.c2;have aB:=BR.out.upd hu (fun e=>by have e2:z+1=z:=e;omega);obtain⟨s0,s1'⟩:=aB.c2;obtain⟨t0,t1⟩:=aB.f2;have dA:=Qh aB;clear hbz aB;go_wp2;have b9:=(dA.out.set_ 0 (.slice xA (List.length xt) xc)).set_ 1 (.slice xB (List.length xo) xd);simp only[List.set_cons_zero,List.set_cons_succ]at b9;obtain⟨r0,r1⟩:=b9.c2;have US:=((Il (One (z+1)) wr).setOne 0 (.slice xA (List.length xt) xc)).setOne 1 (.slice xB (List.length xo) xd)
     try rw[Exit.noGoto_ret]
     refine bodyPost_ret (v:= .tuple #[.agg #[.slice xA (List.length xt) xc,.slice xB (List.length xo) xd],.slice A5 (List.length gm2) c5]) (by simp[results,Tryz.results29,go_sem,r0,r1]) rfl ⟨_,A5,c5,gm2,rfl,?gone,⟨⟨xt,xo,xA,xc,xB,xd⟩,rfl,(cK.out.upd US (fun i h e=>h.2.1 e)).weak (fun _ _ _=>Nat.zero_le _),?left⟩,ZK (Za ae.out US (fun i e e2=>by have h1:=(ae.out.lt i e).1;have h2:i=z+1:=e2;omega)) (by have:=HZ.out;omega),(UB.out.then_ hu (fun i e=> .inr (by have h2:i=z:=e;have:=HZ.out;omega))).then_ US (fun i e=> .inr (by have h2:i=z+1:=e;have:=HZ.out;omega))⟩
     case gone=>rw[<-Bd.out]
     case left=>rw[<-Bd.out];exact HN.out
    ·have yU:=Zut hw.out (by rw[oU.out];exact he);rw[oU.out]at yU;have yE:=ZoH (p:=p) (S:=(SH,gn)) (by rw[oU.out];exact he);rw[oU.out]at yE;have DL:=Qh yU;have wH:=Qh (show o9.txs.length<N by have:=Ee.out;simp only at yE;omega);have eO:((gm2.length:Int)==(gn.length:Int))=false:=by rw[beq_eq_false_iff_ne];omega
     clear he yU yE;go_wp2;go_roundg N;exact⟨o9,gm2,xt,xo,xA,xc,xB,xd,A5,c5,DL,wH.out,HN,vi,yv,rfl,hbz,cK,ae,hu⟩;omega
/- trim.may,trim.Path,trim.Least. -/
def ZdK(h:Hist)(p:Int):Int:=if Zb h=true then (if Z7 h p=true then 0 else 3) else 5
def Zhg:Hist:=⟨[],[],none,0,none,0⟩
def Ze3(h:Hist)(p:Int):Iv:=if ZdK h p=0 then (Zcx h p).2 else []
def Zc9(h:Hist)(p:Int):Hist:=if ZdK h p=0 then (Zcx h p).1 else Zhg
theorem ZvP(F:Iw)(w:I0)(txs:List HTx)(ords:List HOrd)(A:OA)(c:Nat)(B:OA)(d:Nat)(p:Int)(H:Hist.lies F w ⟨txs,ords,A,c,B,d⟩)(hl:Zd ⟨txs,ords,A,c,B,d⟩=true){m:Int}(hm:ZdK ⟨txs,ords,A,c,B,d⟩ p=m):
  CN 28 #[.agg #[.slice A txs.length c,.slice B ords.length d],Qi p] w (Qi m):=by
 subst hm;unfold ZdK;obtain⟨z,hz⟩:=Qe w.heap.size;obtain⟨wb,ag⟩:=Qe (w.alloc (.cells #[.slice A txs.length c,.slice B ords.length d] 25));have u1:Upd No w wb:=by rw[<-ag];exact(Il No w).alloc _
 have b0:Blk wb z 25 [.slice A txs.length c,.slice B ords.length d]:=by rw[<-ag,<-hz];exact Im w _ _
 have UB:=Qh u1;have HB:=Qh (H.upd u1 Qo);obtain⟨c0,c1⟩:=b0.c2;have hR:=ZeP F wb ⟨txs,ords,A,c,B,d⟩ HB.out;unfold Hist.val at hR;obtain⟨rr,tZ⟩:=Qe (Zb ⟨txs,ords,A,c,B,d⟩);obtain⟨hh,mB⟩:=Qe (Z7 ⟨txs,ords,A,c,B,d⟩ p);rw[tZ]at hR ⊢;have HH:=Qh mB;have HR:=Qh hR;have HL:=Qh hl;rw[mB];clear u1 b0 hR H mB tZ hl
 cases rr
 ·rw[if_neg (by decide)];go_enter Tryz.func28,Tryz.ntmps28;go_wp2_with fail;refine Ck HR.out fun w3 hu3=>?_;go_wp2;go_ret;exact⟨rfl,UB.out.trans hu3⟩
 ·rw[if_pos rfl]
  cases hh
  ·rw[if_neg (by decide)];go_enter Tryz.func28,Tryz.ntmps28;go_wp2_with fail;refine Ck HR.out fun w3 hu3=>?_;have c03:=hu3.keepNo c0;have c13:=hu3.keepNo c1;have HP:=Qh (by have:=ZhU F w3 txs ords A c B d p (HB.out.upd hu3 Qo) HL.out;rwa [HH.out]at this:CN 13 #[.agg #[.slice A txs.length c,.slice B ords.length d],Qi p] w3 (.bool false));clear c0 c1;go_wp2_with fail;refine Ck HP.out fun w4 hu4=>?_;go_wp2;go_ret;exact⟨rfl,UB.out.trans (hu3.trans hu4)⟩
  ·rw[if_pos rfl];go_enter Tryz.func28,Tryz.ntmps28;go_wp2_with fail;refine Ck HR.out fun w3 hu3=>?_;have c03:=hu3.keepNo c0;have c13:=hu3.keepNo c1;have HP:=Qh (by have:=ZhU F w3 txs ords A c B d p (HB.out.upd hu3 Qo) HL.out;rwa [HH.out]at this:CN 13 #[.agg #[.slice A txs.length c,.slice B ords.length d],Qi p] w3 (.bool true));clear c0 c1;go_wp2_with fail;refine Ck HP.out fun w4 hu4=>?_;go_wp2;go_ret;exact⟨rfl,UB.out.trans (hu3.trans hu4)⟩
theorem ZwT(F:Iw)(w:I0)(txs:List HTx)(ords:List HOrd)(A:OA)(c:Nat)(B:OA)(d:Nat)(p:Int)(H:Hist.lies F w ⟨txs,ords,A,c,B,d⟩)(hl:Zd ⟨txs,ords,A,c,B,d⟩=true):
  Calls Tryz.prog 7 #[.agg #[.slice A txs.length c,.slice B ords.length d],Qi p] w fun e w'=>∃Ag cg gn,e= .returned (.tuple #[.slice Ag (List.length gn) cg,Qi (ZdK ⟨txs,ords,A,c,B,d⟩ p)])∧Ze3 ⟨txs,ords,A,c,B,d⟩ p=gn∧Ints (fun _=>True) w' Ag gn∧Upd No w w':=by
 obtain⟨z,hz⟩:=Qe w.heap.size;obtain⟨wb,ag⟩:=Qe (w.alloc (.cells #[.slice A txs.length c,.slice B ords.length d] 25));have u1:Upd No w wb:=by rw[<-ag];exact(Il No w).alloc _
 have b0:Blk wb z 25 [.slice A txs.length c,.slice B ords.length d]:=by rw[<-ag,<-hz];exact Im w _ _
 have UB:=Qh u1;have HB:=Qh (H.upd u1 Qo);obtain⟨c0,c1⟩:=b0.c2;obtain⟨m,hm⟩:=Qe (ZdK ⟨txs,ords,A,c,B,d⟩ p);have HM:=Qh (ZvP F wb txs ords A c B d p HB.out hl hm);have HL:=Qh hl;have qa:=Qh (show Ze3 ⟨txs,ords,A,c,B,d⟩ p=if m=0 then (Zcx ⟨txs,ords,A,c,B,d⟩ p).2 else [] by unfold Ze3;rw[hm]);rw[hm];clear u1 b0 H hm hl
 by_cases h0:m=0
 ·subst h0;have oG:Hid (Ze3 ⟨txs,ords,A,c,B,d⟩ p=(Zcx ⟨txs,ords,A,c,B,d⟩ p).2):=Qh qa.out;go_enter Tryz.func7,Tryz.ntmps7;go_wp2_with fail;refine Ck HM.out fun w3 hu3=>?_;have c03:=hu3.keepNo c0;have c13:=hu3.keepNo c1;have HD:=Qh (ZtZ F w3 txs ords A c B d p (HB.out.upd hu3 Qo) HL.out _ rfl);clear c0 c1;go_wp2_with fail;refine(HD.out).mono ?_;rintro e w4 ⟨v,Ag,cg,gn,rfl,kX,d9,aW,hu4⟩;obtain⟨yt,yo,yA,yc,yB,yd,rfl,hy,gP⟩:=d9.open;have HI:=Qh ((Ints.weak (G:=fun _=>True) (Ints.of_owned aW) (fun _ _ _=>trivial)).upd ((Il No w4).alloc (.cells #[.slice yA yt.length yc,.slice yB yo.length yd] 25)) Qo);have DS:=Qh kX;clear aW hy gP d9 kX;go_wp2;go_ret2;exact⟨Ag,cg,gn,rfl,oG.out.trans DS.out,HI.out,(UB.out.trans (hu3.trans hu4)).alloc _⟩
 ·have hb:(m != 0)=true:=by simpa using h0
  have oG:=Qh (show Ze3 ⟨txs,ords,A,c,B,d⟩ p=[] by rw[qa.out,if_neg h0]);clear h0;go_enter Tryz.func7,Tryz.ntmps7;go_wp2_with fail;refine Ck HM.out fun w3 hu3=>?_;go_wp2;go_ret2;exact⟨none,0,[],rfl,oG.out,Ints.nil_,UB.out.trans hu3⟩
theorem ZrC{w w':I0}{txs:List HTx}{ords:List HOrd}{v:Iz}{A B:OA}{c d:Nat}(h:ZpL w txs ords v w')(h1:txs.length<=1000000)(h2:ords.length<=1000000):LiesN w.heap.size w' v ⟨txs,ords,A,c,B,d⟩:=by
 obtain⟨A1,c1,l,B1,d1,m,rfl,hl,hm,mG,kG,oz,m7,tF⟩:=h;have e1:l.length=txs.length:=by have:=congrArg List.length hl;simpa using this
 have e2:m.length=ords.length:=by have:=congrArg List.length hm;simpa using this
 refine⟨⟨l,m,A1,c1,B1,d1⟩,rfl,⟨(Recs.of_own Ziz (by omega) mG).weak (fun i _ h=>(mG.lt i h).1),(Recs.of_own Zv2 (by omega) kG).weak (fun i _ h=>(kG.lt i h).1),fun t ht=>(m7 t ht).weak (fun i _ h=>h.1),fun t ht=>(tF t ht).weak (fun i _ h=>h.1),Zbq mG,Zbq kG,by simp only;omega,by simp only;omega⟩,?_⟩
 show(⟨l.map HTx.nrm,m.map HOrd.nrm,none,0,none,0⟩:Hist)=⟨txs.map HTx.nrm,ords.map HOrd.nrm,none,0,none,0⟩
 rw[ZiW hl,ZiX hm]
theorem LiesN.of{b:Nat}{w:I0}{v:Iz}{g g2:Hist}(h:LiesN b w v g)(e:g.nrm=g2.nrm):LiesN b w v g2:=by
 obtain⟨x,a,h1,h2⟩:=h;exact⟨x,a,h1,h2.trans e⟩
theorem ZqV(b:Nat)(w:I0):LiesN b w (.agg #[.slice none 0 0,.slice none 0 0]) Zhg:=
 ⟨Zhg,rfl,⟨fun h=>absurd rfl h,fun h=>absurd rfl h,(fun t ht=>by cases ht),(fun o ho=>by cases ho),Nat.le_refl _,Nat.le_refl _,Nat.zero_le _,Nat.zero_le _⟩,rfl⟩
theorem Zlz(F:Iw)(w:I0)(txs:List HTx)(ords:List HOrd)(A:OA)(c:Nat)(B:OA)(d:Nat)(p:Int)(H:Hist.lies F w ⟨txs,ords,A,c,B,d⟩)(hl:Zd ⟨txs,ords,A,c,B,d⟩=true):
  Calls Tryz.prog 12 #[.agg #[.slice A txs.length c,.slice B ords.length d],Qi p] w fun e w'=>∃v,e= .returned (.tuple #[v,Qi (ZdK ⟨txs,ords,A,c,B,d⟩ p)])∧LiesN w.heap.size w' v (Zc9 ⟨txs,ords,A,c,B,d⟩ p)∧Upd No w w':=by
 obtain⟨m,hm⟩:=Qe (ZdK ⟨txs,ords,A,c,B,d⟩ p);have qa:=Qh (show Zc9 ⟨txs,ords,A,c,B,d⟩ p=if m=0 then (Zcx ⟨txs,ords,A,c,B,d⟩ p).1 else Zhg by unfold Zc9;rw[hm]);rw[hm];have qW:=Qh hm;clear hm;obtain⟨z,hz⟩:=Qe w.heap.size;obtain⟨w1,ap⟩:=Qe (w.alloc (.cells #[.slice A txs.length c,.slice B ords.length d] 25));have s1:w1.heap.size=z+1:=by rw[<-ap,<-hz];simp
 obtain⟨wb,ag⟩:=Qe (w1.alloc (.cells #[.slice none 0 0,.slice none 0 0] 25));have s2:wb.heap.size=z+2:=by rw[<-ag];simp;omega
 have u1:Upd No w w1:=by rw[<-ap];exact(Il No w).alloc _
 have u2:Upd No w1 wb:=by rw[<-ag];exact(Il No w1).alloc _
 have b0:Blk wb z 25 [.slice A txs.length c,.slice B ords.length d]:=by
  have:Blk w1 z 25 [.slice A txs.length c,.slice B ords.length d]:=by rw[<-ap,<-hz];exact Im w _ _
  exact this.upd u2 id
 have b1:Blk wb (z+1) 25 [.slice none 0 0,.slice none 0 0]:=by rw[<-ag,<-s1];exact Im w1 _ _
 have UB:=Qh (u1.trans u2);have HB:=Qh (H.upd (u1.trans u2) Qo);have BR:=Qh b1;have HZ:=Qh hz;obtain⟨c0,c1⟩:=b0.c2;clear u1 u2 b0 b1 H;have HM:=Qh (ZvP F wb txs ords A c B d p HB.out hl qW.out);have HL:=Qh hl;have lE:=Qh s2;clear hl
 by_cases h0:m=0
 ·subst h0;have oG:Hid (Zc9 ⟨txs,ords,A,c,B,d⟩ p=(Zcx ⟨txs,ords,A,c,B,d⟩ p).1):=Qh qa.out;go_enter Tryz.func12,Tryz.ntmps12;go_wp2_with fail;refine Ck HM.out fun w3 hu3=>?_;have c03:=hu3.keepNo c0;have c13:=hu3.keepNo c1;have HD:=Qh (ZtZ F w3 txs ords A c B d p (HB.out.upd hu3 Qo) HL.out _ rfl);clear c0 c1;go_wp2_with fail;refine(HD.out).mono ?_;rintro e w4 ⟨v,Ag,cg,gn,rfl,kX,d9,aW,hu4⟩;obtain⟨yt,yo,yA,yc,yB,yd,rfl,hy,gP⟩:=d9.open;obtain⟨w5,jj⟩:=Qe (w4.alloc (.cells #[.slice yA yt.length yc,.slice yB yo.length yd] 25));have u5:Upd No w4 w5:=by rw[<-jj];exact(Il No w4).alloc _
  have b5:Blk w5 w4.heap.size 25 [.slice yA yt.length yc,.slice yB yo.length yd]:=by rw[<-jj];exact Im w4 _ _
  obtain⟨q0,q1⟩:=b5.c2;have Ab:Zd ⟨yt,yo,yA,yc,yB,yd⟩=true:=(ZdZ gP).trans ((Zog _).light HL.out);obtain⟨k1,k2⟩:=ZdL Ab;simp only at k1 k2;have HC:=Qh (ZvR (hy.upd u5 Qo) (by omega) (by omega));have yl:=Qh gP;have cF:=Qh (hu3.trans (hu4.trans u5));have HK:=Qh (And.intro k1 k2);clear kX d9 aW hu4 u5 b5 Ab k1 k2 hy gP hu3;go_wp2_with fail;refine(HC.out).mono ?_;rintro e w6 ⟨v6,rfl,zv,hu6⟩;have kg:=(ZrC (A:=yA) (c:=yc) (B:=yB) (d:=yd) zv (by have:=HK.out.1;omega) (by have:=HK.out.2;omega)).of yl.out;obtain⟨xt,xo,xA,xc,xB,xd,rfl,hx,mM⟩:=kg.open;have aB:=BR.out.upd (cF.out.trans hu6) id;obtain⟨r0',r1'⟩:=aB.c2;obtain⟨t0,t1⟩:=aB.f2;have dA:=Qh aB;have eh:=Qh (cF.out.trans hu6);have HX:=Qh (And.intro hx mM);have B7:=Qh (show z+2<=w5.heap.size by have:=cF.out.size;have:=lE.out;omega);clear zv kg hx mM aB hu6 q0 q1;go_wp2;have b9:=(dA.out.set_ 0 (.slice xA xt.length xc)).set_ 1 (.slice xB xo.length xd);simp only[List.set_cons_zero,List.set_cons_succ]at b9;obtain⟨r0,r1⟩:=b9.c2;have US:=((Il (One (z+1)) w6).setOne 0 (.slice xA xt.length xc)).setOne 1 (.slice xB xo.length xd);refine bodyPost_ret (v:= .tuple #[.agg #[.slice xA xt.length xc,.slice xB xo.length xd],Qi 0]) (by simp[results,Tryz.results12,go_sem,r0,r1]) rfl ⟨_,rfl,⟨⟨xt,xo,xA,xc,xB,xd⟩,rfl,(HX.out.1.upd US (fun i h e=>by have e2:i=z+1:=e;have:=B7.out;omega)).weak (fun i _ h=>by have:=HZ.out;have:=B7.out;omega),HX.out.2.trans (by rw[oG.out])⟩,(UB.out.trans eh.out).then_ US (fun i e=> .inr (by have e2:i=z+1:=e;have:=HZ.out;omega))⟩
 ·have hb:(m != 0)=true:=by simpa using h0
  have oG:=Qh (show Zc9 ⟨txs,ords,A,c,B,d⟩ p=Zhg by rw[qa.out,if_neg h0]);clear h0;go_enter Tryz.func12,Tryz.ntmps12;go_wp2_with fail;refine Ck HM.out fun w3 hu3=>?_;have aB:=BR.out.upd hu3 id;obtain⟨r0',r1'⟩:=aB.c2;obtain⟨t0,t1⟩:=aB.f2;have dA:=Qh aB;have bg:=Qh hu3;clear aB hu3;go_wp2;have b9:=(dA.out.set_ 0 (.slice none 0 0)).set_ 1 (.slice none 0 0);simp only[List.set_cons_zero,List.set_cons_succ]at b9;obtain⟨r0,r1⟩:=b9.c2;have US:=((Il (One (z+1)) w3).setOne 0 (.slice none 0 0)).setOne 1 (.slice none 0 0);refine bodyPost_ret (v:= .tuple #[.agg #[.slice none 0 0,.slice none 0 0],Qi m]) (by simp[results,Tryz.results12,go_sem,r0,r1]) rfl ⟨_,rfl,(ZqV _ _).of (by rw[oG.out]),(UB.out.trans bg.out).then_ US (fun i e=> .inr (by have e2:i=z+1:=e;have:=HZ.out;omega))⟩
