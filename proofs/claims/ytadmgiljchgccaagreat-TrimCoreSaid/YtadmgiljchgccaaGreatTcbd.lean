/- history.Delete. -/
import Derived.Test.YtadmgiljchgccaaGreatTcan
import Derived.Test.YtadmgiljchgccaaGreatTcav
import Derived.Test.YtadmgiljchgccaaGreatTcba
namespace Go.Proofs.YtadmgiljchgccaaGreat
open Go.RowKit
set_option linter.unusedVariables false
set_option linter.unusedSimpArgs false
set_option maxRecDepth 100000
set_option maxHeartbeats 4000000
theorem Ztb(F:Iw)(w:I0)(txs:List HTx)(ords:List HOrd)(A:OA)(c:Nat)(B:OA)(d:Nat)(i0:Int)(H:Hist.lies F w ⟨txs,ords,A,c,B,d⟩)(hr:Zb ⟨txs,ords,A,c,B,d⟩=false):
  CN 85 #[.agg #[.slice A txs.length c,.slice B ords.length d],Qi i0] w (.tuple #[.agg #[.slice none 0 0,.slice none 0 0],Qi 5]):=by
 obtain⟨z,hz⟩:=Qe w.heap.size;obtain⟨w1,ap⟩:=Qe (w.alloc (.cells #[.slice A txs.length c,.slice B ords.length d] 25));have s1:w1.heap.size=z+1:=by rw[<-ap,<-hz];simp
 obtain⟨wb,ag⟩:=Qe (w1.alloc (.cells #[.slice none 0 0,.slice none 0 0] 25));have s2:wb.heap.size=z+2:=by rw[<-ag];simp;omega
 have u1:Upd No w w1:=by rw[<-ap];exact(Il No w).alloc _
 have u2:Upd No w1 wb:=by rw[<-ag];exact(Il No w1).alloc _
 have b0:Blk wb z 25 [.slice A txs.length c,.slice B ords.length d]:=by
  have:Blk w1 z 25 [.slice A txs.length c,.slice B ords.length d]:=by rw[<-ap,<-hz];exact Im w _ _
  exact this.upd u2 id
 have b1:Blk wb (z+1) 25 [.slice none 0 0,.slice none 0 0]:=by rw[<-ag,<-s1];exact Im w1 _ _
 have UB:=Qh (u1.trans u2);have HB:=Qh (H.upd (u1.trans u2) Qo);have BH:=Qh b0;have BR:=Qh b1;have SB:=Qh s2;have HZ:=Qh hz;have oq:=Qh (by have:=ZeP F wb ⟨txs,ords,A,c,B,d⟩ HB.out;rwa [hr]at this:CN 11 #[.agg #[.slice A txs.length c,.slice B ords.length d]] wb (.bool false));obtain⟨c0,c1⟩:=b0.c2;clear u1 u2 b0 b1 H hr;go_enter Tryz.func85,Tryz.ntmps85;go_wp2_with fail;refine Ck oq.out fun w3 hu3=>?_;have aB:=BR.out.upd hu3 id;obtain⟨s0,s1⟩:=aB.c2;obtain⟨t0,t1⟩:=aB.f2;have dA:=Qh aB;have UU:=Qh (UB.out.trans hu3);clear aB;go_wp2;have b3:=(dA.out.set_ 0 (.slice none 0 0)).set_ 1 (.slice none 0 0);simp only[List.set_cons_zero,List.set_cons_succ]at b3;obtain⟨r0,r1⟩:=b3.c2;refine bodyPost_ret (v:= .tuple #[.agg #[.slice none 0 0,.slice none 0 0],Qi 5]) (by simp[results,Tryz.results85,go_sem,r0,r1]) rfl ⟨rfl,?_⟩;exact UU.out.then_ (((Il (One (z+1)) w3).setOne 0 _).setOne 1 _) (fun i e=> .inr (by cases e;have:=HZ.out;omega))
theorem Zta(F:Iw)(w:I0)(txs:List HTx)(ords:List HOrd)(A:OA)(c:Nat)(B:OA)(d:Nat)(i0:Int)(H:Hist.lies F w ⟨txs,ords,A,c,B,d⟩)(hr:Zb ⟨txs,ords,A,c,B,d⟩=true)(hl:txs.length<=1000000)
  (hp:(txs.map (·.id)).Pairwise (·<·)) (hf:(Ze txs i0).isSome=false):
  CN 85 #[.agg #[.slice A txs.length c,.slice B ords.length d],Qi i0] w (.tuple #[.agg #[.slice none 0 0,.slice none 0 0],Qi 3]):=by
 have HI:=Qh ((ZgU hp).trans hf);have pK:=Qh (ZdH txs i0 hp);obtain⟨z,hz⟩:=Qe w.heap.size;obtain⟨w1,ap⟩:=Qe (w.alloc (.cells #[.slice A txs.length c,.slice B ords.length d] 25));have s1:w1.heap.size=z+1:=by rw[<-ap,<-hz];simp
 obtain⟨wb,ag⟩:=Qe (w1.alloc (.cells #[.slice none 0 0,.slice none 0 0] 25));have s2:wb.heap.size=z+2:=by rw[<-ag];simp;omega
 have u1:Upd No w w1:=by rw[<-ap];exact(Il No w).alloc _
 have u2:Upd No w1 wb:=by rw[<-ag];exact(Il No w1).alloc _
 have b0:Blk wb z 25 [.slice A txs.length c,.slice B ords.length d]:=by
  have:Blk w1 z 25 [.slice A txs.length c,.slice B ords.length d]:=by rw[<-ap,<-hz];exact Im w _ _
  exact this.upd u2 id
 have b1:Blk wb (z+1) 25 [.slice none 0 0,.slice none 0 0]:=by rw[<-ag,<-s1];exact Im w1 _ _
 have UB:=Qh (u1.trans u2);have HB:=Qh (H.upd (u1.trans u2) Qo);have BH:=Qh b0;have BR:=Qh b1;have SB:=Qh s2;have HZ:=Qh hz;have oq:=Qh (by have:=ZeP F wb ⟨txs,ords,A,c,B,d⟩ HB.out;rwa [hr]at this:CN 11 #[.agg #[.slice A txs.length c,.slice B ords.length d]] wb (.bool true));obtain⟨c0,c1⟩:=b0.c2;clear u1 u2 b0 b1 H hr;go_enter Tryz.func85,Tryz.ntmps85;go_wp2_with fail;refine Ck oq.out fun w3 hu3=>?_;have i6:=Qh (by have:=Zmz F w3 txs ords A c B d i0 (Zaw txs i0) (HB.out.upd hu3 Qo) hl pK.out;rwa [HI.out]at this:Calls Tryz.prog 141 #[.agg #[.slice A txs.length c,.slice B ords.length d],Qi i0] w3 fun r w'=>r= .returned (.tuple #[Qi (Zaw txs i0:Int),.bool false])∧Upd No w3 w');have c03:=hu3.keepNo c0;have c13:=hu3.keepNo c1;have bg:=Qh hu3;clear c0 c1 hu3;go_wp2_with fail;refine Ck i6.out fun w4 hu4=>?_;have qk:=bg.out.trans hu4;have aB:=BR.out.upd qk id;obtain⟨s0,s1⟩:=aB.c2;obtain⟨t0,t1⟩:=aB.f2;have dA:=Qh aB;have UU:=Qh (UB.out.trans qk);clear aB;go_wp2;have b3:=(dA.out.set_ 0 (.slice none 0 0)).set_ 1 (.slice none 0 0);simp only[List.set_cons_zero,List.set_cons_succ]at b3;obtain⟨r0,r1⟩:=b3.c2
 refine bodyPost_ret (v:= .tuple #[.agg #[.slice none 0 0,.slice none 0 0],Qi 3]) (by simp[results,Tryz.results85,go_sem,r0,r1]) rfl ⟨rfl,?_⟩;exact UU.out.then_ (((Il (One (z+1)) w4).setOne 0 _).setOne 1 _) (fun i e=> .inr (by cases e;have:=HZ.out;omega))
theorem Zs9(F:Iw)(w:I0)(txs:List HTx)(ords:List HOrd)(A:OA)(c:Nat)(B:OA)(d:Nat)(i0:Int)(H:Hist.lies F w ⟨txs,ords,A,c,B,d⟩)(hr:Zb ⟨txs,ords,A,c,B,d⟩=true)(hl:txs.length<=1000000)
  (hp:(txs.map (·.id)).Pairwise (·<·)) (hf:(Ze txs i0).isSome=true) (jz:ZbJ txs i0=true):
  CN 85 #[.agg #[.slice A txs.length c,.slice B ords.length d],Qi i0] w (.tuple #[.agg #[.slice none 0 0,.slice none 0 0],Qi 7]):=by
 have HI:=Qh ((ZgU hp).trans hf);have pK:=Qh (ZdH txs i0 hp);obtain⟨z,hz⟩:=Qe w.heap.size;obtain⟨w1,ap⟩:=Qe (w.alloc (.cells #[.slice A txs.length c,.slice B ords.length d] 25));have s1:w1.heap.size=z+1:=by rw[<-ap,<-hz];simp
 obtain⟨wb,ag⟩:=Qe (w1.alloc (.cells #[.slice none 0 0,.slice none 0 0] 25));have s2:wb.heap.size=z+2:=by rw[<-ag];simp;omega
 have u1:Upd No w w1:=by rw[<-ap];exact(Il No w).alloc _
 have u2:Upd No w1 wb:=by rw[<-ag];exact(Il No w1).alloc _
 have b0:Blk wb z 25 [.slice A txs.length c,.slice B ords.length d]:=by
  have:Blk w1 z 25 [.slice A txs.length c,.slice B ords.length d]:=by rw[<-ap,<-hz];exact Im w _ _
  exact this.upd u2 id
 have b1:Blk wb (z+1) 25 [.slice none 0 0,.slice none 0 0]:=by rw[<-ag,<-s1];exact Im w1 _ _
 have UB:=Qh (u1.trans u2);have HB:=Qh (H.upd (u1.trans u2) Qo);have BH:=Qh b0;have BR:=Qh b1;have SB:=Qh s2;have HZ:=Qh hz;have oq:=Qh (by have:=ZeP F wb ⟨txs,ords,A,c,B,d⟩ HB.out;rwa [hr]at this:CN 11 #[.agg #[.slice A txs.length c,.slice B ords.length d]] wb (.bool true));obtain⟨c0,c1⟩:=b0.c2;clear u1 u2 b0 b1 H hr;go_enter Tryz.func85,Tryz.ntmps85;go_wp2_with fail;refine Ck oq.out fun w3 hu3=>?_;have i6:=Qh (by have:=Zmz F w3 txs ords A c B d i0 (Zaw txs i0) (HB.out.upd hu3 Qo) hl pK.out;rwa [HI.out]at this:Calls Tryz.prog 141 #[.agg #[.slice A txs.length c,.slice B ords.length d],Qi i0] w3 fun r w'=>r= .returned (.tuple #[Qi (Zaw txs i0:Int),.bool true])∧Upd No w3 w');have c03:=hu3.keepNo c0;have c13:=hu3.keepNo c1;have bg:=Qh hu3;clear c0 c1 hu3;go_wp2_with fail;refine Ck i6.out fun w4 hu4=>?_;have pb:=Qh (by have:=Zt7 F w4 txs ords A c B d i0 (HB.out.upd (bg.out.trans hu4) Qo) hl;rwa [show txs.any (Zem i0)=true from jz]at this:CN 142 #[.agg #[.slice A txs.length c,.slice B ords.length d],.agg #[Qi i0,.bool false,.slice none 0 0]] w4 (.bool true));have c04:=hu4.keepNo c03;have c14:=hu4.keepNo c13;have dl:=Qh (bg.out.trans hu4);clear c03 c13 hu4;go_wp2_with fail
 refine Ck pb.out fun w5 hu5=>?_;have p6:=dl.out.trans hu5;have aB:=BR.out.upd p6 id;obtain⟨s0,s1⟩:=aB.c2;obtain⟨t0,t1⟩:=aB.f2;have dA:=Qh aB;have UU:=Qh (UB.out.trans p6);clear aB;go_wp2;have b3:=(dA.out.set_ 0 (.slice none 0 0)).set_ 1 (.slice none 0 0);simp only[List.set_cons_zero,List.set_cons_succ]at b3;obtain⟨r0,r1⟩:=b3.c2;refine bodyPost_ret (v:= .tuple #[.agg #[.slice none 0 0,.slice none 0 0],Qi 7]) (by simp[results,Tryz.results85,go_sem,r0,r1]) rfl ⟨rfl,?_⟩;exact UU.out.then_ (((Il (One (z+1)) w5).setOne 0 _).setOne 1 _) (fun i e=> .inr (by cases e;have:=HZ.out;omega))
theorem OrdsAt.weak{F G:Iw}{w:I0}{A:OA}{l:List HOrd}(h:OrdsAt F w A l)(hg:∀i,i<w.heap.size->F i->G i):OrdsAt G w A l:=Recs.weak h hg
theorem ZmR{m ords:List HOrd}{id:Int}(h:m.map orP=ords.map orP):ZaR m id=ZaR ords id:=by
 have e:ZeV id=(fun p:Int×Iv=>(⟨p.1,p.2.filter fun n=> !(n==id),none,0⟩:HOrd)) ∘ orP:=rfl;unfold ZaR;rw[e,<-List.map_map,h,List.map_map]
theorem Zrs{l txs:List HTx}{ords lo:List HOrd}{pp:Nat}{i0:Int}{A A2 B B2:OA}{c c2 d d2:Nat}(h1:ZC txs pp=Zao txs i0)(h2:(ZC l pp).map HTx.nrm=(ZC txs pp).map HTx.nrm)(h3:lo.map orP=(ZaR ords i0).map orP):
  Hist.nrm ⟨ZC l pp,lo,A,c,B,d⟩=(ZaL ⟨txs,ords,A2,c2,B2,d2⟩ i0).nrm:=by
 show(⟨(ZC l pp).map HTx.nrm,lo.map HOrd.nrm,none,0,none,0⟩:Hist)=⟨(Zao txs i0).map HTx.nrm,(ZaR ords i0).map HOrd.nrm,none,0,none,0⟩
 rw[h2,h1,ZiX h3]
theorem Zuw{l txs:List HTx}(h:l.map txP=txs.map txP):l.length=txs.length:=by have:=congrArg List.length h;simpa using this
theorem Zvd(F:Iw)(w:I0)(txs:List HTx)(ords:List HOrd)(A:OA)(c:Nat)(B:OA)(d:Nat)(i0:Int)(H:Hist.lies F w ⟨txs,ords,A,c,B,d⟩)(hr:Zb ⟨txs,ords,A,c,B,d⟩=true)(hl:txs.length<=100000)(aY:ords.length<=1000000)
  (hp:(txs.map (·.id)).Pairwise (·<·)) (hf:(Ze txs i0).isSome=true) (jz:ZbJ txs i0=false):
  Calls Tryz.prog 85 #[.agg #[.slice A txs.length c,.slice B ords.length d],Qi i0] w fun e w'=>∃v,e= .returned (.tuple #[v,Qi 0])∧LiesN w.heap.size w' v (ZaL ⟨txs,ords,A,c,B,d⟩ i0)∧Upd No w w':=by
 have iA:=(ZgU hp).trans hf;have HI:=Qh iA;have pK:=Qh (ZdH txs i0 hp);have vD:=Qh (Zk5 hp iA);obtain⟨pp,uD⟩:=Qe (Zaw txs i0)
 have hpl:pp<txs.length:=by
  rw[uD]at iA;unfold Zcu at iA;rcases Nat.lt_or_ge pp txs.length with h|h
  ·exact h
  ·rw[List.getElem?_eq_none h]at iA;cases iA
 rw[uD]at HI pK vD;clear iA uD;obtain⟨z,hz⟩:=Qe w.heap.size;obtain⟨w1,ap⟩:=Qe (w.alloc (.cells #[.slice A txs.length c,.slice B ords.length d] 25));have s1:w1.heap.size=z+1:=by rw[<-ap,<-hz];simp
 obtain⟨wb,ag⟩:=Qe (w1.alloc (.cells #[.slice none 0 0,.slice none 0 0] 25));have s2:wb.heap.size=z+2:=by rw[<-ag];simp;omega
 have u1:Upd No w w1:=by rw[<-ap];exact(Il No w).alloc _
 have u2:Upd No w1 wb:=by rw[<-ag];exact(Il No w1).alloc _
 have b0:Blk wb z 25 [.slice A txs.length c,.slice B ords.length d]:=by
  have:Blk w1 z 25 [.slice A txs.length c,.slice B ords.length d]:=by rw[<-ap,<-hz];exact Im w _ _
  exact this.upd u2 id
 have b1:Blk wb (z+1) 25 [.slice none 0 0,.slice none 0 0]:=by rw[<-ag,<-s1];exact Im w1 _ _
 have UB:=Qh (u1.trans u2);have HB:=Qh (H.upd (u1.trans u2) Qo);have BH:=Qh b0;have BR:=Qh b1;have SB:=Qh s2;have HZ:=Qh hz;have oq:=Qh (by have:=ZeP F wb ⟨txs,ords,A,c,B,d⟩ HB.out;rwa [hr]at this:CN 11 #[.agg #[.slice A txs.length c,.slice B ords.length d]] wb (.bool true));obtain⟨c0,c1⟩:=b0.c2;clear u1 u2 b0 b1 H hr;have tX:=BR;go_enter Tryz.func85,Tryz.ntmps85;go_wp2_with fail;refine Ck oq.out fun w3 hu3=>?_;have i6:=Qh (by have:=Zmz F w3 txs ords A c B d i0 pp (HB.out.upd hu3 Qo) (by omega) pK.out;rwa [HI.out]at this:Calls Tryz.prog 141 #[.agg #[.slice A txs.length c,.slice B ords.length d],Qi i0] w3 fun r w'=>r= .returned (.tuple #[Qi (pp:Int),.bool true])∧Upd No w3 w');have c03:=hu3.keepNo c0;have c13:=hu3.keepNo c1;have bg:=Qh hu3;clear c0 c1 hu3;go_wp2_with fail;refine Ck i6.out fun w4 hu4=>?_;have pb:=Qh (by have:=Zt7 F w4 txs ords A c B d i0 (HB.out.upd (bg.out.trans hu4) Qo) (by omega);rwa [show txs.any (Zem i0)=false from jz]at this:CN 142 #[.agg #[.slice A txs.length c,.slice B ords.length d],.agg #[Qi i0,.bool false,.slice none 0 0]] w4 (.bool false));have c04:=hu4.keepNo c03;have c14:=hu4.keepNo c13;have dl:=Qh (bg.out.trans hu4);clear c03 c13 hu4
 go_wp2_with fail;refine Ck pb.out fun w5 hu5=>?_;have c05:=hu5.keepNo c04;have c15:=hu5.keepNo c14;have cF:=Qh (dl.out.trans hu5);have cS:=Qh (Zwj (HB.out.upd cF.out Qo) (by omega) aY);clear c04 c14 hu5;go_wp2_with fail;refine(cS.out).mono ?_;rintro e w6 ⟨v,rfl,⟨A6,c6,l,B6,d6,m,rfl,hlt,Ci,mG,kG,oz,m7,tF⟩,hu6⟩;have jS:=Qh (Zuw hlt);obtain⟨cb,mN⟩:=Qe w6.heap.size;obtain⟨wc,nT⟩:=Qe (w6.alloc (.cells #[.slice A6 l.length c6,.slice B6 m.length d6] 25));have uc:Upd No w6 wc:=by rw[<-nT];exact(Il No w6).alloc _
 have bc:Blk wc cb 25 [.slice A6 l.length c6,.slice B6 m.length d6]:=by rw[<-nT,<-mN];exact Im w6 _ _
 have qI:=Za mG uc Qo;have HD:=Qh (ZxZ wc w5.heap.size A6 c6 l pp qI (by have:=jS.out;omega) (by have:=jS.out;omega));have rN:¬Own (.slice A6 l.length c6) cb:=fun e=>by have:=(mG.lt _ e).2;omega
 have p5:¬Own (.slice B6 m.length d6) cb:=fun e=>by have:=(kG.lt _ e).2;omega
 have HE:=Qh (And.intro (Za kG uc Qo) (And.intro (fun t ht=>((m7 t ht).weak (G:=fun i=>(w5.heap.size<=i∧¬Own (.slice A6 l.length c6) i∧¬Own (.slice B6 m.length d6) i)∧i<cb) (fun i hi h=>⟨h,by omega⟩)).upd uc Qo) (fun t ht=>((tF t ht).weak (G:=fun i=>(w5.heap.size<=i∧¬Own (.slice A6 l.length c6) i∧¬Own (.slice B6 m.length d6) i)∧i<cb) (fun i hi h=>⟨h,by omega⟩)).upd uc Qo)));have fD:=Qh (And.intro oz (And.intro rN (And.intro p5 (And.intro hlt Ci))));have aG:=Qh (And.intro mG.lt kG.lt);have Cn:=Qh (cF.out.trans (hu6.trans uc));have HC:=Qh bc;have z5:=hu6.size;have z6:=uc.size;obtain⟨q0,q1⟩:=bc.c2;have b4:(0:Int)<=(pp:Int):=Qn _;have b5:(pp:Int)<(txs.length:Int):=by omega
 clear hlt Ci mG kG oz m7 tF hu6 uc bc qI rN p5 c05 c15;go_wp2_with fail;refine(HD.out).mono ?_;rintro e w7 C9;obtain⟨A7,c7,rfl,ed,aq,bq⟩:=C9
 have nJ:∀i,Own (.slice A7 (ZC l pp).length c7) i->i≠cb∧w5.heap.size<=i∧¬Own (.slice B6 m.length d6) i:=fun i e=>by
  rcases bq with h|⟨k6,ei,hlk⟩
  ·have h1:Own (.slice A6 l.length c6) i:=by unfold Own at e ⊢;rw[<-h];exact e
   have:=aG.out.1 i h1;exact⟨by omega,by omega,fD.out.1 i h1⟩
  ·have h1:some k6=some i:=by rw[<-ei];exact e
   cases h1
   have:=HC.out.lt;exact⟨by omega,by omega,fun e2=>by have:=(aG.out.2 _ e2).2;omega⟩
 have sQ:∀i,Own (.slice B6 m.length d6) i->¬Own (.slice A6 l.length c6) i:=fun i e e2=>fD.out.1 i e2 e
 have tm:=HC.out.upd aq fD.out.2.1;obtain⟨r0,r1⟩:=tm.c2;have k0:=tm.free 0;obtain⟨w8,AD⟩:=Qe (w7.setCell ⟨cb,0,none⟩ (.slice A7 (ZC l pp).length c7))
 have xV:Blk w8 cb 25 [.slice A7 (ZC l pp).length c7,.slice B6 m.length d6]:=by
  have:=tm.set_ 0 (.slice A7 (ZC l pp).length c7);rw[AD]at this
  simpa using this
 have dj:Upd (One cb) w7 w8:=by rw[<-AD];exact(Il (One cb) w7).setOne 0 _
 have qB:=Za ed dj (fun i e e2=>(nJ i e).1 e2);have rQ:=Za (Za HE.out.1 aq sQ) dj (fun i e e2=>by have h1:=aG.out.2 i e;have h2:i=cb:=e2;omega)
 have qX:∀t∈ZC l pp,t.lies (fun i=>w5.heap.size<=i∧¬Own (.slice B6 m.length d6) i∧i≠cb) w8:=fun t ht=>
  (((HE.out.2.1 t (ZqQ ht)).upd aq (fun i h e=>h.1.2.1 e)).upd dj (fun i h e=>by have h2:i=cb:=e;omega)).weak (fun i _ h=>⟨h.1.1,h.1.2.2,by omega⟩)
 have pV:∀t∈m,t.lies (fun i=>w5.heap.size<=i∧¬Own (.slice B6 m.length d6) i∧i≠cb) w8:=fun t ht=>
  (((HE.out.2.2 t ht).upd aq (fun i h e=>h.1.2.1 e)).upd dj (fun i h e=>by have h2:i=cb:=e;omega)).weak (fun i _ h=>⟨h.1.1,h.1.2.2,by omega⟩)
 have z7:=aq.size;have z8:=dj.size;have z1:=Cn.out.size;have tY:=cF.out.size;have U8:=Qh (show Upd No wb w8 from(Cn.out.then_ aq (fun i e=> .inr (by have:=(aG.out.1 i e).1;omega))).then_ dj (fun i e=> .inr (by have h2:i=cb:=e;omega)));have zY:=Qh xV;have u6:=Qh (And.intro qX pV);have py:=Qh (And.intro qB rQ);have xr:=Qh nJ;have sV:=Qh (Zk7 l pp (by have:=jS.out;omega));have k9:=Qh (show w5.heap.size<=cb∧z+2<=w5.heap.size∧cb<w8.heap.size from⟨by omega,by have:=SB.out;omega,by have:=xV.lt;omega⟩);have Cz:=Qh (ZiW fD.out.2.2.2.1);clear bq nJ sQ tm xV qB rQ qX pV ed aq dj q0 q1
 by_cases hm:0<m.length
 ·obtain⟨gB,cs,fx,iL,ve,bG,aT,gL,eK⟩:=Zbz py.out.2 hm;subst fx;have hne:cb≠gB:=fun e=>fD.out.2.2.1 (by rw[e];rfl)
  have HS:=Qh (Zu9 w8 cb gB (ZC l pp).length c7 d6 A7 ⟨gB,0,none⟩ (Qh rfl) m i0 cs zY.out ve gL aT bG (by have:=congrArg List.length fD.out.2.2.2.2;simp only[Hw]at this;omega) hne
   (fun i=>w5.heap.size<=i∧i≠gB∧i≠cb) (Qh (fun i h=>h.2)) (Qh (fun i h=>⟨by omega,by have:=ve.lt;omega,by have:=k9.out;omega⟩))
   (fun o ho=>(u6.out.2 o ho).weak (fun i _ h=>⟨h.1,fun e=>h.2.1 (by rw[e];rfl),h.2.2⟩)))
  have zF:=Qh (And.intro iL hne);clear ve aT gL bG eK iL hne;go_wp2_with fail;refine(HS.out).mono ?_;rintro e w9 ⟨rfl,l',sA,ja,jt,tJ,hd9,aL⟩;obtain⟨m0,m1⟩:=sA.c2;have nk:Upd No wb w9:=U8.out.then_ aL (fun i e=> .inr (by have:=zF.out.1;have:=k9.out;omega));have aB:=BR.out.upd nk id;obtain⟨s0,s1'⟩:=aB.c2;obtain⟨t0,t1⟩:=aB.f2;have dA:=Qh aB;have fH:=Qh nk;have H9:=Qh (And.intro ja (And.intro jt (And.intro tJ (And.intro hd9 aL))));clear aB nk sA ja jt tJ hd9 aL r0 k0 r1;go_wp2;obtain⟨ja,jt,tJ,hd9,aL⟩:=H9.out;have b9:=(dA.out.set_ 0 (.slice A7 (ZC l pp).length c7)).set_ 1 (.slice (some ⟨gB,0,none⟩) l'.length d6);simp only[List.set_cons_zero,List.set_cons_succ]at b9;obtain⟨r0,r1⟩:=b9.c2;have US:=((Il (One (z+1)) w9).setOne 0 (.slice A7 (ZC l pp).length c7)).setOne 1 (.slice (some ⟨gB,0,none⟩) l'.length d6);have jg:w9.ownsRow w5.heap.size 39 3 (.slice A7 (ZC l pp).length c7) (ZC l pp).length ((ZC l pp).map HTx.cells).flatten:= ?ownA;have hx:Hist.lies (fun i=>z+2<=i) w9 ⟨ZC l pp,l',A7,c7,(some ⟨gB,0,none⟩),d6⟩:=⟨(Recs.of_own Ziz (by omega) jg).weak (fun i _ h=>by have h2:=(jg.lt i h).1;have:=k9.out;omega),?ords,?tx,?ord,Zbq jg,?cap,by have:=sV.out;have:=jS.out;simp only;omega,?fewo⟩
  refine bodyPost_ret (v:= .tuple #[.agg #[.slice A7 (ZC l pp).length c7,.slice (some ⟨gB,0,none⟩) l'.length d6],Qi 0]) (by simp[results,Tryz.results85,go_sem,r0,r1]) rfl ⟨_,rfl,⟨⟨ZC l pp,l',A7,c7,(some ⟨gB,0,none⟩),d6⟩,rfl,(hx.upd US (fun i h e=>by have h2:i=z+1:=e;omega)).weak (fun i _ h=>by have:=HZ.out;omega),?nrm⟩,(UB.out.trans fH.out).then_ US (fun i e=> .inr (by have h2:i=z+1:=e;have:=HZ.out;omega))⟩
  case ownA=>exact Za py.out.1 aL (fun i e h=>by
   rcases h with h|h
   ·exact(xr.out i e).2.2 (by rw[h];rfl)
   ·exact(xr.out i e).1 h)
  case ords=>exact jt.weak (fun i _ h=>by have:=zF.out.1;have h2:i=gB:=h;have:=k9.out;omega)
  case tx=>
   intro t ht
   exact((u6.out.1 t ht).upd aL (fun i h e=>by
    rcases e with e|e
    ·exact h.2.1 (by rw[e];rfl)
    ·exact h.2.2 e)).weak (fun i _ h=>by have:=k9.out;omega)
  case ord=>exact fun o ho=>(tJ o ho).weak (fun i _ h=>by have:=k9.out;omega)
  case cap=>exact hd9
  case fewo=>
   have h1:=congrArg List.length ja;have h2:=congrArg List.length fD.out.2.2.2.2;have h3:(ZaR m i0).length<=m.length:=Nat.le_trans (Gj ..) (by rw[Hw];exact Nat.le_refl _);simp only[Hw]at h1 h2;simp only;omega
  case nrm=>exact Zrs vD.out (Zk6 Cz.out pp) (ja.trans (by rw[ZmR fD.out.2.2.2.2]))
 ·obtain rfl:m=[]:=Gd (by omega);have HS:=Qh (Zs6 w8 cb (ZC l pp).length c7 d6 A7 B6 i0 zY.out);go_wp2_with fail;refine(HS.out).mono ?_;rintro e w9 ⟨rfl,sA,aL⟩;obtain⟨m0,m1⟩:=sA.c2;have nk:Upd No wb w9:=U8.out.then_ aL (fun i e=> .inr (by have h2:i=cb:=e;have:=k9.out;omega));have aB:=BR.out.upd nk id;obtain⟨s0,s1'⟩:=aB.c2;obtain⟨t0,t1⟩:=aB.f2;have dA:=Qh aB;have fH:=Qh nk;have eZ:=Qh aL;clear aB nk sA aL r0 k0 r1;go_wp2;have aL:=eZ.out;have b9:=(dA.out.set_ 0 (.slice A7 (ZC l pp).length c7)).set_ 1 (.slice B6 0 d6);simp only[List.set_cons_zero,List.set_cons_succ]at b9;obtain⟨r0,r1⟩:=b9.c2;have US:=((Il (One (z+1)) w9).setOne 0 (.slice A7 (ZC l pp).length c7)).setOne 1 (.slice B6 0 d6);have jg:w9.ownsRow w5.heap.size 39 3 (.slice A7 (ZC l pp).length c7) (ZC l pp).length ((ZC l pp).map HTx.cells).flatten:= ?ownA;have hx:Hist.lies (fun i=>z+2<=i) w9 ⟨ZC l pp,([]:List HOrd),A7,c7,B6,d6⟩:=⟨(Recs.of_own Ziz (by omega) jg).weak (fun i _ h=>by have h2:=(jg.lt i h).1;have:=k9.out;omega),?ords,?tx,?ord,Zbq jg,?cap,by have:=sV.out;have:=jS.out;simp only;omega,?fewo⟩;refine bodyPost_ret (v:= .tuple #[.agg #[.slice A7 (ZC l pp).length c7,.slice B6 0 d6],Qi 0]) (by simp[results,Tryz.results85,go_sem,r0,r1]) rfl ⟨_,rfl,⟨⟨ZC l pp,([]:List HOrd),A7,c7,B6,d6⟩,rfl,(hx.upd US (fun i h e=>by have h2:i=z+1:=e;omega)).weak (fun i _ h=>by have:=HZ.out;omega),?nrm⟩,(UB.out.trans fH.out).then_ US (fun i e=> .inr (by have h2:i=z+1:=e;have:=HZ.out;omega))⟩
  case ownA=>exact Za py.out.1 aL (fun i e h=>(xr.out i e).1 h)
  case ords=>exact fun h=>absurd rfl h
  case tx=>
   intro t ht;exact((u6.out.1 t ht).upd aL (fun i h e=>h.2.2 e)).weak (fun i _ h=>by have:=k9.out;omega)
  case ord=>exact fun o ho=>by cases ho
  case cap=>exact Nat.zero_le _
  case fewo=>exact Nat.zero_le _
  case nrm=>exact Zrs vD.out (Zk6 Cz.out pp) (by rw[<-ZmR fD.out.2.2.2.2];rfl)
