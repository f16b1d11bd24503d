/- Closed walks: the arc of an edge. -/
import Derived.Test.YtadmgiljchgccaaGreatLayBinI
import Derived.Test.YtadmgiljchgccaaGreatTcbg
namespace Go.Proofs.YtadmgiljchgccaaGreat
open Go.RowKit
set_option linter.unusedVariables false
set_option linter.unusedSimpArgs false
set_option maxRecDepth 100000
set_option maxHeartbeats 8000000
theorem ZlO(x:Int):∀{s:Iv},s.Pairwise (·<·)->((s.countP (·<x):Nat):Int)=rk s x
 |[],_=>rfl
 |a::s,h=>by
  rw[Gr]at h;unfold rk;rw[Hl]
  by_cases ha:a<x
  ·rw[if_pos ha,if_pos (by simpa using ha),Int.natCast_add,ZlO x h.2];rfl
  ·rw[if_neg ha,if_neg (by simpa using ha),Nat.add_zero]
   have:s.countP (·<x)=0:=by
    rw[List.countP_eq_zero];intro b hb;have:=h.1 b hb;simp;omega
   rw[this];rfl
theorem Zwg(F:Iw)(w:I0)(A:OA)(c:Nat)(l:Iv)(x:Int)(h:Ints F w A l)(hne:l≠[])(hs:l.Pairwise (·<·))(hl:l.length<=1000000):
  Calls Tryz.prog 245 #[.slice A l.length c,Qi x] w fun e w'=>∃b,e= .returned (.tuple #[Qi (rk l x),.bool b])∧Upd No w w':=by
 obtain⟨b,o,rfl,hc⟩:=h.cells_ hne;refine Calls.mono (AnyG.slices_BinarySearch_int binI_lay b o l.length c l x w (Nat.le_refl _) (by omega) hc (by rw[G7];exact hs.imp fun {a b} h=>Int.le_of_lt h)) ?_;rintro e w' ⟨rfl,q,rfl⟩;rw[G7,ZlO x hs];exact⟨_,rfl,(Il _ _).drewN q⟩
theorem Zyo(F1 F2:Iw)(w:I0)(A B:OA)(ca cb:Nat)(ids keys:Iv)(hA:Ints F1 w A ids)(hB:Ints F2 w B keys)(nj:ids.Pairwise (·<·))(nR:keys.Pairwise (·<·))(rE:ids≠[])(Dy:keys≠[])(aN:ids.length<=1000000)(bC:keys.length<=1000000)(e:Edge):
  Calls Tryz.prog 219 #[.agg #[.slice A ids.length ca,.slice B keys.length cb],.agg e.cells.toArray] w fun x w'=>x= .returned (.agg (toR ids keys ⟨e.f,e.t,e.k,e.key⟩).cells.toArray)∧Upd No w w':=by
 obtain⟨ef,et,ek,ey⟩:=e;obtain⟨wb,ag⟩:=Qe (((w.alloc (.cells #[.slice A ids.length ca,.slice B keys.length cb] 208)).alloc (.cells #[Qi ef,Qi et,Qi ek,Qi ey] 58)).alloc (.cells #[Qi 0,Qi 0,Qi 0,Qi 0] 119));have u0:Upd No w wb:=by rw[<-ag];exact(((Il No w).alloc _).alloc _).alloc _
 have bN:Blk wb w.heap.size 208 [.slice A ids.length ca,.slice B keys.length cb]:=by rw[<-ag];exact((Im w _ _).alloc _).alloc _
 have bE:Blk wb (w.heap.size+1) 58 [Qi ef,Qi et,Qi ek,Qi ey]:=by
  rw[<-ag];have:=(Im (w.alloc (.cells #[.slice A ids.length ca,.slice B keys.length cb] 208)) 58 [Qi ef,Qi et,Qi ek,Qi ey]).alloc (.cells #[Qi 0,Qi 0,Qi 0,Qi 0] 119);simpa only[Ij]using this
 have bR:Blk wb (w.heap.size+2) 119 [Qi 0,Qi 0,Qi 0,Qi 0]:=by
  rw[<-ag];have:=Im ((w.alloc (.cells #[.slice A ids.length ca,.slice B keys.length cb] 208)).alloc (.cells #[Qi ef,Qi et,Qi ek,Qi ey] 58)) 119 [Qi 0,Qi 0,Qi 0,Qi 0];simpa only[Ij]using this
 have n0:∀W,Upd No wb W->W.cell? ⟨w.heap.size,0,none⟩=some (.slice A ids.length ca):=fun W u=>by have:=(bN.upd u id).cell 0;simpa using this
 have n1:∀W,Upd No wb W->W.cell? ⟨w.heap.size,1,none⟩=some (.slice B keys.length cb):=fun W u=>by have:=(bN.upd u id).cell 1;simpa using this
 have e0:∀W,Upd No wb W->W.cell? ⟨w.heap.size+1,0,none⟩=some (Qi ef):=fun W u=>by have:=(bE.upd u id).cell 0;simpa using this
 have e1:∀W,Upd No wb W->W.cell? ⟨w.heap.size+1,1,none⟩=some (Qi et):=fun W u=>by have:=(bE.upd u id).cell 1;simpa using this
 have e2:∀W,Upd No wb W->W.cell? ⟨w.heap.size+1,2,none⟩=some (Qi ek):=fun W u=>by have:=(bE.upd u id).cell 2;simpa using this
 have e3:∀W,Upd No wb W->W.cell? ⟨w.heap.size+1,3,none⟩=some (Qi ey):=fun W u=>by have:=(bE.upd u id).cell 3;simpa using this
 have HA:=Qh (fun(W:I0) (u:Upd No wb W) (x:Int)=>Zwg F1 W A ca ids x (hA.upd (u0.trans u) Qo) rE nj aN);have HB:=Qh (fun(W:I0) (u:Upd No wb W) (x:Int)=>Zwg F2 W B cb keys x (hB.upd (u0.trans u) Qo) Dy nR bC);have U0:=Qh u0;have BR:=Qh bR;have hr:Upd No wb wb:=Il _ _;unfold toR HArc.cells Edge.cells;simp only;clear hA hB bN bE bR u0;go_enter Tryz.func219,Tryz.ntmps219;go_wp2_with fail;refine(HA.out wb (Il _ _) ef).mono ?_;rintro e w1 ⟨b1,rfl,hu1⟩;go_wp2_with fail;refine(HA.out w1 hu1 et).mono ?_;rintro e w2 ⟨b2,rfl,gY⟩;have hu2:=hu1.trans gY;clear gY;go_wp2_with fail;refine(HB.out w2 hu2 ey).mono ?_;rintro e w3 ⟨b3,rfl,gZ⟩;have hu3:=hu2.trans gZ;clear gZ;have Ay:=Qh (BR.out.upd hu3 id);have U3:=Qh hu3;have dp:=Ay.out;obtain⟨r0,r1,r2,r3⟩:=dp.c4;obtain⟨f0,f1,f2,f3⟩:=dp.f4;clear dp;go_wp2;have b4:=((((Ay.out).set_ 0 (Qi (rk ids ef))).set_ 1 (Qi (rk ids et))).set_ 2 (Qi ek)).set_ 3 (Qi (rk keys ey));simp only[List.set_cons_zero,List.set_cons_succ]at b4;have US:=((((Il (One (w.heap.size+2)) w3).setOne 0 (Qi (rk ids ef))).setOne 1 (Qi (rk ids et))).setOne 2 (Qi ek)).setOne 3 (Qi (rk keys ey));refine bodyPost_ret (results_cell_row (p:=4) rfl _ _ _ _ _ _ _ rfl b4 Tryz.underlying119 rfl (by kernel_rfl)) rfl ⟨rfl,?_⟩
 exact(U0.out.trans U3.out).then_ US fun k e=> .inr (by unfold One at e;omega)
/- Closed walks:the numbers of some edges. -/
theorem Zc{A:OA}{n m c d i:Nat}(h:Own (.slice A n c) i):Own (.slice A m d) i:=by
 cases A with
 |none=>cases h
 |some a=>exact h
theorem ZnD{W:I0}{cs:Ip}{e:Iy}{n m:Nat}(hn:n=W.heap.size)(hm:cs.length=m):Src (W.alloc (.cells cs.toArray e)) (some ⟨n,0,none⟩) m 1 cs:=by
 subst hn;exact⟨by omega,fun _=>⟨_,rfl,fun j v hj=>Zah j v hj⟩⟩
theorem Zww(F:Iw)(w:I0)(A:OA)(c:Nat)(l:List Edge)(h:Walk F w A l)(hl:l.length<=1000000):
  Calls Tryz.prog 168 #[.slice A l.length c] w fun e w'=>∃A1 c1 A2 c2,e= .returned (.agg #[.slice A1 (ZaP l).length c1,.slice A2 (ZbC l).length c2])∧Ints (fun i=>w.heap.size<=i) w' A1 (ZaP l)∧Ints (fun i=>w.heap.size<=i) w' A2 (ZbC l)∧Upd No w w':=by
 have HA:=Qh h;have HL:=Qh (show(Zcn l).length=2*l.length from Zh9 l);clear h;go_enter Tryz.func168,Tryz.ntmps168;go_wp2
 go_loopg [8] l.length (fun gk i wr=>∃(k:Nat) (A1:OA) (c1:Nat) (xs:Iv) (A2:OA) (c2:Nat) (ys:Iv),k+gk=l.length∧i= Qi k∧Hid (xs++Zcn (l.drop k)=Zcn l)∧Hid (ys++(l.drop k).map Edge.key=l.map Edge.key)∧xs.length=2*k∧ys.length=k∧
  Blk wr (w.heap.size+1) 208 [.slice A1 xs.length c1,.slice A2 ys.length c2]∧Blk wr w.heap.size 208 [.slice none 0 0,.slice none 0 0]∧
  wr.ownsRow (w.heap.size+2) 3 1 (.slice A1 xs.length c1) xs.length (xs.map (Value.int .i64))∧wr.ownsRow (w.heap.size+2) 3 1 (.slice A2 ys.length c2) ys.length (ys.map (Value.int .i64))∧(∀i,Own (.slice A1 0 0) i->¬Own (.slice A2 0 0) i)∧Upd No w wr)
 case atStart=>
  refine⟨0,none,0,[],none,0,[],by omega,rfl,Qh rfl,Qh rfl,rfl,rfl,?_,?_,Ik _ _ _ _,Ik _ _ _ _,?_,?_⟩
  ·simpa using Im (w.alloc (.cells #[.slice none 0 0,.slice none 0 0] 208)) 208 [.slice none 0 0,.slice none 0 0]
  ·exact(Im w 208 [.slice none 0 0,.slice none 0 0]).alloc _
  ·intro i e;exact(by cases e)
  ·exact((Il No w).alloc _).alloc _
 case round=>
  obtain⟨k,A1,c1,xs,A2,c2,ys,aI,rfl,hx,hy,hxl,lB,bN,bR,cn,cE,hd,hu⟩:=hrel
  by_cases hlt:k<l.length
  ·obtain⟨ax,rfl,q0,q1,q2,q3⟩:=(HA.out.upd hu Qo).at_ hlt;obtain⟨x,eR⟩:=Qe (l[k]);have ju:=Ge hlt;rw[eR]at q0 q1 q2 q3 ju;have HX:=Qh (show(xs++[x.f,x.t])++Zcn (l.drop (k+1))=Zcn l by rw[<-hx.out,ju];simp[Zcn]);have HY:=Qh (show(ys++[x.key])++(l.drop (k+1)).map Edge.key=l.map Edge.key by rw[<-hy.out,ju];simp);have i1:(0:Int)<=(k:Int):=Qn _;have i2:(k:Int)<(l.length:Int):=by omega
   obtain⟨wx,aJ⟩:=Qe (wr.alloc (.cells #[Qi x.f,Qi x.t,Qi x.k,Qi x.key] 58));have ux:Upd No wr wx:=by rw[<-aJ];exact(Il No wr).alloc _
   have bo:Blk wx wr.heap.size 58 [Qi x.f,Qi x.t,Qi x.k,Qi x.key]:=by rw[<-aJ];exact Im wr _ _
   have AG:wx.heap.size=wr.heap.size+1:=by rw[<-aJ];simp
   have a9:=Qh (hu.trans ux);have uj:=bN.lt;have bNx:=bN.upd ux id;have dA:=Qh (bR.upd ux id);obtain⟨g0,g1,g2,g3⟩:=bo.c4;obtain⟨c0,c1'⟩:=bNx.c2;have b8:=Qh (fun i e=>cn.lt i e);have cJ:=Qh (fun i e=>cE.lt i e);have fg:=Qh (Za cn ux Qo);have iK:=Qh (Za cE ux Qo);have HD:=Qh hd;have BO:=Qh bo;have BN:=Qh bNx;have dX:=Qh hxl;have nW:=Qh lB;have ne1:¬w.heap.size+1=wr.heap.size:=by omega
   have ne2:¬wr.heap.size=w.heap.size+1:=by omega
   clear bN bR cn cE hd ux bo bNx ju eR hx hy hxl lB
   go_wp2_with (at_builtin;(first
    |(refine Ziq rfl rfl Zay (v:= .slice A1 xs.length c1) (n:=xs.length) (m:=2) (xs:=xs.map (Value.int .i64)) (news:=[Qi x.f,Qi x.t]) rfl rfl (Za fg.out ((Il No _).alloc _) Qo) (ZnD AG.symm rfl) (by simp[Value.oneCell']) (by have:=dX.out;omega) (by have:=dX.out;omega) (by simp;omega) ?_
      intro v4 w4 aF hu4 dd;obtain⟨A4,c4,rfl⟩:=Zaz aF;have U4:Upd (Own (.slice A1 xs.length c1)) wx w4:=((Il _ wx).alloc _).trans hu4;have Bc:=U4.size;have bN4:=BN.out.upd U4 (fun e=>by have:=(b8.out _ e).1;omega);have bo4:=BO.out.upd U4 (fun e=>by have:=(b8.out _ e).2;omega);have yN:=Qh (dA.out.upd U4 (fun e=>by have:=(b8.out _ e).1;omega));have eL:=Qh (Za iK.out U4 (fun i e e2=>HD.out i (Zc e2) (Zc e)));have yW:=Qh (a9.out.then_ U4 (fun i e=> .inr (by have:=(b8.out i e).1;omega)))
      have ms:=Qh (fun i (e:Own (.slice A4 (xs.length+2) c4) i)=>(show w.heap.size+2<=i∧i<w4.heap.size∧¬Own (.slice A2 0 0) i from⟨(aF.lt i e).1,(aF.lt i e).2,fun e2=>by
       rcases dd with e3|⟨j,e3,e4⟩
       ·exact HD.out i (Zc (n:=xs.length) (c:=c1) (by unfold Own at e ⊢;rw[<-e3];exact e)) e2
       ·have h5:=(cJ.out i (Zc e2)).2;have:i=j:=by unfold Own at e;rw[e3]at e;injection e with e;exact e.symm
        simp at e4;omega⟩))
      obtain⟨k0,k1⟩:=bN4.c2;have k3:=bo4.cell 3;have fr0:=bN4.free 0;simp only[Qz,Qs]at k3;have DW:=Qh bN4;have lM:=Qh aF;clear bN4 bo4 U4 hu4 dd aF c0 c1' g0 g1 g2 g3 q0 q1 q2 q3)
    |(refine Ziq rfl rfl Zay (v:= .slice A2 ys.length c2) (n:=ys.length) (m:=1) (xs:=ys.map (Value.int .i64)) (news:=[Qi x.key]) rfl rfl (Za (Za eL.out ((Il (One (w.heap.size+1)) w4).setOne 0 _) (fun i e e2=>by have:=(cJ.out i (Zc e)).1;unfold One at e2;omega)) ((Il No _).alloc _) Qo) (ZnD (by simp) rfl) (by simp[Value.oneCell']) (by have:=nW.out;omega) (by have:=nW.out;omega) (by simp;omega) ?_
      intro v6 w6 ar hu6 cI;obtain⟨A6,c6,rfl⟩:=Zaz ar;have U5:=(Il (One (w.heap.size+1)) w4).setOne 0 (.slice A4 (xs.length+2) c4);have U6:Upd (Own (.slice A2 ys.length c2)) (w4.setCell ⟨w.heap.size+1,0,none⟩ (.slice A4 (xs.length+2) c4)) w6:=((Il _ _).alloc _).trans hu6;have DZ:=U6.size;simp only[World.size_setCell]at DZ;have bN6:=(DW.out.set_ 0 (.slice A4 (xs.length+2) c4)).upd U6 (fun e=>by have:=(cJ.out _ e).1;omega);have yb:=Qh ((yN.out.upd U5 (by unfold One;omega)).upd U6 (fun e=>by have:=(cJ.out _ e).1;omega));have uQ:=Qh (Za (Za lM.out U5 (fun i e e2=>by have:=(ms.out i e).1;unfold One at e2;omega)) U6 (fun i e e2=>(ms.out i e).2.2 (Zc e2)));have wJ:=Qh ((yW.out.then_ U5 (fun i e=> .inr (by unfold One at e;omega))).then_ U6 (fun i e=> .inr (by have:=(cJ.out i e).1;omega)))
      have fa:=Qh (fun i (e:Own (.slice A6 (ys.length+1) c6) i)=>(show w.heap.size+2<=i∧¬Own (.slice A4 0 0) i from⟨(ar.lt i e).1,fun e2=>by
       rcases cI with e3|⟨j,e3,e4⟩
       ·exact(ms.out i (Zc e2)).2.2 (Zc (n:=ys.length) (c:=c2) (by unfold Own at e ⊢;rw[<-e3];exact e))
       ·have h5:=(ms.out i (Zc e2)).2.1;have:i=j:=by unfold Own at e;rw[e3]at e;injection e with e;exact e.symm
        simp at e4;omega⟩))
      have k0:=bN6.cell 0;have k1:=bN6.cell 1;have fr1:=bN6.free 1;simp only[List.set_cons_zero,Qz,Qs]at k0 k1;have Ea:=Qh bN6;have lx:=Qh ar;clear bN6 U6 U5 hu6 cI ar)))
   go_roundg (gk-1)
   case measure=>omega
   case rel=>
    have U7:=(Il (One (w.heap.size+1)) w6).setOne 1 (.slice A6 (ys.length+1) c6);have b7:=Ea.out.set_ 1 (.slice A6 (ys.length+1) c6);simp only[List.set_cons_zero,List.set_cons_succ]at b7;refine⟨k+1,A4,c4,xs++[x.f,x.t],A6,c6,ys++[x.key],by omega,by go_num,HX,HY,by have:=dX.out;simp;omega,by have:=nW.out;simp;omega,by simpa using b7,yb.out.upd U7 (by unfold One;omega),?_,?_,fun i e e2=>(fa.out i (Zc e2)).2 (Zc e),wJ.out.then_ U7 (fun i e=> .inr (by unfold One at e;omega))⟩
    ·have:=Za uQ.out U7 (fun i e e2=>by have:=(ms.out i e).1;unfold One at e2;omega)
     simpa using this
    ·have:=Za lx.out U7 (fun i e e2=>by have:=(fa.out i e).1;unfold One at e2;omega)
     simpa using this
  ·obtain rfl:k=l.length:=by omega
   have cZ:xs=Zcn l:=by have:=hx.out;rw[G9]at this;simpa[Zcn]using this
   have iO:ys=l.map Edge.key:=by have:=hy.out;rw[G9]at this;simpa using this
   have zy:ZJ xs=ZaP l:=by rw[cZ];rfl
   have zE:ZJ ys=ZbC l:=by rw[iO];rfl
   have pj:=Qh zy;have pw:=Qh zE;have dX:=Qh hxl;have nW:=Qh lB;have HN:=Qh bN;have HR:=Qh bR;have fg:=Qh (Za cn ((Il No wr).drew) Qo);have iK:=Qh (Za cE ((Il No wr).drew) Qo);have b8:=Qh (fun i (e:Own (.slice A1 0 0) i)=>(cn.lt i (Zc e)).1);have cJ:=Qh (fun i (e:Own (.slice A2 0 0) i)=>(cE.lt i (Zc e)).1);have HD:=Qh hd;have HU:=Qh hu;obtain⟨c0,c1'⟩:=bN.c2;clear cZ iO zy zE bN bR cn cE hd hx hy hu hxl lB;go_wp2;refine wpS (fun w'=>Upd (fun i=>w.heap.size<=i) w w') ?_ fun jH=>?_
   ·(first|exact((HU.out.mono (fun _ _ e=>e.elim)).drew)|exact jH|exact jH.trans hq)
   refine wpK 0 rfl ?_;refine wpK 3 rfl ?_;refine wpR [1,4] ?_;refine wpC rfl (fun K hK=>?_) ?_
   ·go_simp;refine hK.out _ _ ?_ fun jH=>?_
    ·(first|exact((HU.out.mono (fun _ _ e=>e.elim)).drew)|exact jH|exact jH.trans hq)
    try simp only[Qa]
    refine wpR [2,4] ?_;refine wpC rfl (fun K hK=>?_) ?_
    ·go_simp
     (first
    |(go_at_call 218;refine(ZfI wr.drew _ A1 c1 xs fg.out (by have:=dX.out;omega)).mono ?_;rintro e w4 ⟨rfl,aW,hu4⟩;have jI:=Qh ((show Blk wr.drew _ _ _ from HN.out).upd hu4 (fun e=>by have:=b8.out _ (Zc e);omega));have m9:=Qh ((show Blk wr.drew _ _ _ from HR.out).upd hu4 (fun e=>by have:=b8.out _ (Zc e);omega));have gD:=Qh aW;have eL:=Qh (Za iK.out hu4 (fun i e e2=>HD.out i (Zc e2) (Zc e)));have hq:Upd (fun i=>w.heap.size<=i) wr.drew w4:=hu4.mono (fun i _ e=>by have:=b8.out _ (Zc e);omega);have c41:=jI.out.cell 1;simp only[Qz,Qs]at c41))
     try (go_wp2_with fail)
     refine hK.out _ _ ?_ fun jH=>?_
     ·(first|exact((HU.out.mono (fun _ _ e=>e.elim)).drew)|exact jH|exact jH.trans hq)
     try simp only[Qa]
     refine wpZ 4 rfl fun K hK=>?_;go_simp;refine hK.out _ _ ?_ fun jH=>?_
     ·(first|exact((HU.out.mono (fun _ _ e=>e.elim)).drew)|exact jH|exact jH.trans hq)
     try simp only[Qa]
     refine wpK 6 rfl ?_;refine wpZ 5 rfl fun K hK=>?_;go_simp
     (first
    |(go_at_call 218;refine(ZfI w4 _ A2 c2 ys eL.out (by have:=nW.out;omega)).mono ?_;rintro e w5 ⟨rfl,dU,hu5⟩;have kz:=Qh (jI.out.upd hu5 (fun e=>by have:=cJ.out _ (Zc e);omega));have kc:=Qh (m9.out.upd hu5 (fun e=>by have:=cJ.out _ (Zc e);omega));have ec:=Qh dU;have er:=Qh (Za gD.out hu5 (fun i e e2=>HD.out i (Zc e) (Zc e2)));have hq:Upd (fun i=>w.heap.size<=i) w4 w5:=hu5.mono (fun i _ e=>by have:=cJ.out _ (Zc e);omega)))
     try (go_wp2_with fail)
     refine hK.out _ _ ?_ fun jH=>?_
     ·(first|exact((HU.out.mono (fun _ _ e=>e.elim)).drew)|exact jH|exact jH.trans hq)
     try simp only[Qa]
     refine wpZ 7 rfl fun K hK=>?_
     (first
    |(refine Zs rfl rfl (g:=w.heap.size+1) (i:=0) (v:= .slice A1 (ZJ xs).length c1) rfl rfl kz.out (by kernel_rfl) (by simp) rfl ?_;intro w6 bQ hu6;have iH:=Qh bQ;have iN:=Qh (kc.out.upd hu6 (by unfold One;omega));have dy:=Qh (Za er.out hu6 (fun i e e2=>by have:=b8.out _ (Zc e);unfold One at e2;omega));have dt:=Qh (Za ec.out hu6 (fun i e e2=>by have:=cJ.out _ (Zc e);unfold One at e2;omega));have hq:Upd (fun i=>w.heap.size<=i) w5 w6:=hu6.mono (fun i _ e=>by unfold One at e;omega))
    |(refine Zs rfl rfl (g:=w.heap.size+1) (i:=1) (v:= .slice A2 (ZJ ys).length c2) rfl rfl iH.out (by kernel_rfl) (by simp) rfl ?_;intro w7 a8 aq;have fK:=Qh a8;have gf:=Qh (iN.out.upd aq (by unfold One;omega));have fQ:=Qh (Za dy.out aq (fun i e e2=>by have:=b8.out _ (Zc e);unfold One at e2;omega));have gH:=Qh (Za dt.out aq (fun i e e2=>by have:=cJ.out _ (Zc e);unfold One at e2;omega));have hq:Upd (fun i=>w.heap.size<=i) w6 w7:=aq.mono (fun i _ e=>by unfold One at e;omega)))
     refine hK.out _ _ ?_ fun jH=>?_
     ·(first|exact((HU.out.mono (fun _ _ e=>e.elim)).drew)|exact jH|exact jH.trans hq)
     try simp only[Qa]
     refine wpK 8 rfl ?_;refine wpZ 9 rfl fun K hK=>?_
     (first
    |(refine Zs rfl rfl (g:=w.heap.size+1) (i:=0) (v:= .slice A1 (ZJ xs).length c1) rfl rfl kz.out (by kernel_rfl) (by simp) rfl ?_;intro w6 bQ hu6;have iH:=Qh bQ;have iN:=Qh (kc.out.upd hu6 (by unfold One;omega));have dy:=Qh (Za er.out hu6 (fun i e e2=>by have:=b8.out _ (Zc e);unfold One at e2;omega));have dt:=Qh (Za ec.out hu6 (fun i e e2=>by have:=cJ.out _ (Zc e);unfold One at e2;omega));have hq:Upd (fun i=>w.heap.size<=i) w5 w6:=hu6.mono (fun i _ e=>by unfold One at e;omega))
    |(refine Zs rfl rfl (g:=w.heap.size+1) (i:=1) (v:= .slice A2 (ZJ ys).length c2) rfl rfl iH.out (by kernel_rfl) (by simp) rfl ?_;intro w7 a8 aq;have fK:=Qh a8;have gf:=Qh (iN.out.upd aq (by unfold One;omega));have fQ:=Qh (Za dy.out aq (fun i e e2=>by have:=b8.out _ (Zc e);unfold One at e2;omega));have gH:=Qh (Za dt.out aq (fun i e e2=>by have:=cJ.out _ (Zc e);unfold One at e2;omega));have hq:Upd (fun i=>w.heap.size<=i) w6 w7:=aq.mono (fun i _ e=>by unfold One at e;omega)))
     refine hK.out _ _ ?_ fun jH=>?_
     ·(first|exact((HU.out.mono (fun _ _ e=>e.elim)).drew)|exact jH|exact jH.trans hq)
     try simp only[Qa]
     refine wpD (Ii ?_);have m0:=fK.out.cell 0;have m1:=fK.out.cell 1;have s0:=gf.out.cell 0;have s1:=gf.out.cell 1;obtain⟨t0,t1⟩:=gf.out.f2;simp only[List.set_cons_zero,List.set_cons_succ,Qz,Qs]at m0 m1 s0 s1;have HZ:=Qh jH;clear jH hq bQ a8 aW dU hu4 hu5 hu6 aq c0 c1' c41 jI kz iH fK m9 kc iN gD eL er ec dy dt;go_wp2;have b9:=(gf.out.set_ 0 (.slice A1 (ZJ xs).length c1)).set_ 1 (.slice A2 (ZJ ys).length c2);simp only[List.set_cons_zero,List.set_cons_succ]at b9;have US:=((Il (One w.heap.size) w7).setOne 0 (.slice A1 (ZJ xs).length c1)).setOne 1 (.slice A2 (ZJ ys).length c2);refine bodyPost_ret (results_cell_row (p:=2) rfl _ _ _ _ _ _ _ rfl b9 Tryz.underlying208 rfl (by kernel_rfl)) rfl ⟨A1,c1,A2,c2,by rw[<-pj.out,<-pw.out],?_,?_,?_⟩
     ·rw[<-pj.out];exact(Ints.of_owned (Za fQ.out US (fun i e e2=>by have:=b8.out _ (Zc e);unfold One at e2;omega))).weak (fun i _ h=>by omega)
     ·rw[<-pw.out];exact(Ints.of_owned (Za gH.out US (fun i e e2=>by have:=cJ.out _ (Zc e);unfold One at e2;omega))).weak (fun i _ h=>by omega)
     ·exact((Il No w).then_ (HZ.out.then_ US (fun i e=> .inr (by unfold One at e;omega))) (fun i e=> .inr e))
    refine wpC rfl (fun K hK=>?_) AllReadyH.nil;go_simp;refine hK.out _ _ ?_ fun jH=>?_
    ·(first|exact((HU.out.mono (fun _ _ e=>e.elim)).drew)|exact jH|exact jH.trans hq)
    try simp only[Qa]
    refine wpZ 2 rfl fun K hK=>?_;go_simp
    (first
   |(go_at_call 218;refine(ZfI wr.drew _ A1 c1 xs fg.out (by have:=dX.out;omega)).mono ?_;rintro e w4 ⟨rfl,aW,hu4⟩;have jI:=Qh ((show Blk wr.drew _ _ _ from HN.out).upd hu4 (fun e=>by have:=b8.out _ (Zc e);omega));have m9:=Qh ((show Blk wr.drew _ _ _ from HR.out).upd hu4 (fun e=>by have:=b8.out _ (Zc e);omega));have gD:=Qh aW;have eL:=Qh (Za iK.out hu4 (fun i e e2=>HD.out i (Zc e2) (Zc e)));have hq:Upd (fun i=>w.heap.size<=i) wr.drew w4:=hu4.mono (fun i _ e=>by have:=b8.out _ (Zc e);omega);have c41:=jI.out.cell 1;simp only[Qz,Qs]at c41))
    try (go_wp2_with fail)
    refine hK.out _ _ ?_ fun jH=>?_
    ·(first|exact((HU.out.mono (fun _ _ e=>e.elim)).drew)|exact jH|exact jH.trans hq)
    try simp only[Qa]
    refine wpK 6 rfl ?_;refine wpZ 5 rfl fun K hK=>?_;go_simp
    (first
   |(go_at_call 218;refine(ZfI w4 _ A2 c2 ys eL.out (by have:=nW.out;omega)).mono ?_;rintro e w5 ⟨rfl,dU,hu5⟩;have kz:=Qh (jI.out.upd hu5 (fun e=>by have:=cJ.out _ (Zc e);omega));have kc:=Qh (m9.out.upd hu5 (fun e=>by have:=cJ.out _ (Zc e);omega));have ec:=Qh dU;have er:=Qh (Za gD.out hu5 (fun i e e2=>HD.out i (Zc e) (Zc e2)));have hq:Upd (fun i=>w.heap.size<=i) w4 w5:=hu5.mono (fun i _ e=>by have:=cJ.out _ (Zc e);omega)))
    try (go_wp2_with fail)
    refine hK.out _ _ ?_ fun jH=>?_
    ·(first|exact((HU.out.mono (fun _ _ e=>e.elim)).drew)|exact jH|exact jH.trans hq)
    try simp only[Qa]
    refine wpZ 7 rfl fun K hK=>?_
    (first
   |(refine Zs rfl rfl (g:=w.heap.size+1) (i:=0) (v:= .slice A1 (ZJ xs).length c1) rfl rfl kz.out (by kernel_rfl) (by simp) rfl ?_;intro w6 bQ hu6;have iH:=Qh bQ;have iN:=Qh (kc.out.upd hu6 (by unfold One;omega));have dy:=Qh (Za er.out hu6 (fun i e e2=>by have:=b8.out _ (Zc e);unfold One at e2;omega));have dt:=Qh (Za ec.out hu6 (fun i e e2=>by have:=cJ.out _ (Zc e);unfold One at e2;omega));have hq:Upd (fun i=>w.heap.size<=i) w5 w6:=hu6.mono (fun i _ e=>by unfold One at e;omega))
   |(refine Zs rfl rfl (g:=w.heap.size+1) (i:=1) (v:= .slice A2 (ZJ ys).length c2) rfl rfl iH.out (by kernel_rfl) (by simp) rfl ?_;intro w7 a8 aq;have fK:=Qh a8;have gf:=Qh (iN.out.upd aq (by unfold One;omega));have fQ:=Qh (Za dy.out aq (fun i e e2=>by have:=b8.out _ (Zc e);unfold One at e2;omega));have gH:=Qh (Za dt.out aq (fun i e e2=>by have:=cJ.out _ (Zc e);unfold One at e2;omega));have hq:Upd (fun i=>w.heap.size<=i) w6 w7:=aq.mono (fun i _ e=>by unfold One at e;omega)))
    refine hK.out _ _ ?_ fun jH=>?_
    ·(first|exact((HU.out.mono (fun _ _ e=>e.elim)).drew)|exact jH|exact jH.trans hq)
    try simp only[Qa]
    refine wpK 8 rfl ?_;refine wpZ 9 rfl fun K hK=>?_
    (first
   |(refine Zs rfl rfl (g:=w.heap.size+1) (i:=0) (v:= .slice A1 (ZJ xs).length c1) rfl rfl kz.out (by kernel_rfl) (by simp) rfl ?_;intro w6 bQ hu6;have iH:=Qh bQ;have iN:=Qh (kc.out.upd hu6 (by unfold One;omega));have dy:=Qh (Za er.out hu6 (fun i e e2=>by have:=b8.out _ (Zc e);unfold One at e2;omega));have dt:=Qh (Za ec.out hu6 (fun i e e2=>by have:=cJ.out _ (Zc e);unfold One at e2;omega));have hq:Upd (fun i=>w.heap.size<=i) w5 w6:=hu6.mono (fun i _ e=>by unfold One at e;omega))
   |(refine Zs rfl rfl (g:=w.heap.size+1) (i:=1) (v:= .slice A2 (ZJ ys).length c2) rfl rfl iH.out (by kernel_rfl) (by simp) rfl ?_;intro w7 a8 aq;have fK:=Qh a8;have gf:=Qh (iN.out.upd aq (by unfold One;omega));have fQ:=Qh (Za dy.out aq (fun i e e2=>by have:=b8.out _ (Zc e);unfold One at e2;omega));have gH:=Qh (Za dt.out aq (fun i e e2=>by have:=cJ.out _ (Zc e);unfold One at e2;omega));have hq:Upd (fun i=>w.heap.size<=i) w6 w7:=aq.mono (fun i _ e=>by unfold One at e;omega)))
    refine hK.out _ _ ?_ fun jH=>?_
    ·(first|exact((HU.out.mono (fun _ _ e=>e.elim)).drew)|exact jH|exact jH.trans hq)
    try simp only[Qa]
    refine wpD (Ii ?_);have m0:=fK.out.cell 0;have m1:=fK.out.cell 1;have s0:=gf.out.cell 0;have s1:=gf.out.cell 1;obtain⟨t0,t1⟩:=gf.out.f2;simp only[List.set_cons_zero,List.set_cons_succ,Qz,Qs]at m0 m1 s0 s1;have HZ:=Qh jH;clear jH hq bQ a8 aW dU hu4 hu5 hu6 aq c0 c1' c41 jI kz iH fK m9 kc iN gD eL er ec dy dt;go_wp2;have b9:=(gf.out.set_ 0 (.slice A1 (ZJ xs).length c1)).set_ 1 (.slice A2 (ZJ ys).length c2);simp only[List.set_cons_zero,List.set_cons_succ]at b9;have US:=((Il (One w.heap.size) w7).setOne 0 (.slice A1 (ZJ xs).length c1)).setOne 1 (.slice A2 (ZJ ys).length c2);refine bodyPost_ret (results_cell_row (p:=2) rfl _ _ _ _ _ _ _ rfl b9 Tryz.underlying208 rfl (by kernel_rfl)) rfl ⟨A1,c1,A2,c2,by rw[<-pj.out,<-pw.out],?_,?_,?_⟩
    ·rw[<-pj.out];exact(Ints.of_owned (Za fQ.out US (fun i e e2=>by have:=b8.out _ (Zc e);unfold One at e2;omega))).weak (fun i _ h=>by omega)
    ·rw[<-pw.out];exact(Ints.of_owned (Za gH.out US (fun i e e2=>by have:=cJ.out _ (Zc e);unfold One at e2;omega))).weak (fun i _ h=>by omega)
    ·exact((Il No w).then_ (HZ.out.then_ US (fun i e=> .inr (by unfold One at e;omega))) (fun i e=> .inr e))
   refine wpC rfl (fun K hK=>?_) AllReadyH.nil;go_simp;refine hK.out _ _ ?_ fun jH=>?_
   ·(first|exact((HU.out.mono (fun _ _ e=>e.elim)).drew)|exact jH|exact jH.trans hq)
   try simp only[Qa]
   refine wpZ 1 rfl fun K hK=>?_;go_simp;refine hK.out _ _ ?_ fun jH=>?_
   ·(first|exact((HU.out.mono (fun _ _ e=>e.elim)).drew)|exact jH|exact jH.trans hq)
   try simp only[Qa]
   refine wpZ 2 rfl fun K hK=>?_;go_simp
   (first
  |(go_at_call 218;refine(ZfI wr.drew _ A1 c1 xs fg.out (by have:=dX.out;omega)).mono ?_;rintro e w4 ⟨rfl,aW,hu4⟩;have jI:=Qh ((show Blk wr.drew _ _ _ from HN.out).upd hu4 (fun e=>by have:=b8.out _ (Zc e);omega));have m9:=Qh ((show Blk wr.drew _ _ _ from HR.out).upd hu4 (fun e=>by have:=b8.out _ (Zc e);omega));have gD:=Qh aW;have eL:=Qh (Za iK.out hu4 (fun i e e2=>HD.out i (Zc e2) (Zc e)));have hq:Upd (fun i=>w.heap.size<=i) wr.drew w4:=hu4.mono (fun i _ e=>by have:=b8.out _ (Zc e);omega);have c41:=jI.out.cell 1;simp only[Qz,Qs]at c41))
   try (go_wp2_with fail)
   refine hK.out _ _ ?_ fun jH=>?_
   ·(first|exact((HU.out.mono (fun _ _ e=>e.elim)).drew)|exact jH|exact jH.trans hq)
   try simp only[Qa]
   refine wpK 6 rfl ?_;refine wpZ 5 rfl fun K hK=>?_;go_simp
   (first
  |(go_at_call 218;refine(ZfI w4 _ A2 c2 ys eL.out (by have:=nW.out;omega)).mono ?_;rintro e w5 ⟨rfl,dU,hu5⟩;have kz:=Qh (jI.out.upd hu5 (fun e=>by have:=cJ.out _ (Zc e);omega));have kc:=Qh (m9.out.upd hu5 (fun e=>by have:=cJ.out _ (Zc e);omega));have ec:=Qh dU;have er:=Qh (Za gD.out hu5 (fun i e e2=>HD.out i (Zc e) (Zc e2)));have hq:Upd (fun i=>w.heap.size<=i) w4 w5:=hu5.mono (fun i _ e=>by have:=cJ.out _ (Zc e);omega)))
   try (go_wp2_with fail)
   refine hK.out _ _ ?_ fun jH=>?_
   ·(first|exact((HU.out.mono (fun _ _ e=>e.elim)).drew)|exact jH|exact jH.trans hq)
   try simp only[Qa]
   refine wpZ 7 rfl fun K hK=>?_
   (first
  |(refine Zs rfl rfl (g:=w.heap.size+1) (i:=0) (v:= .slice A1 (ZJ xs).length c1) rfl rfl kz.out (by kernel_rfl) (by simp) rfl ?_;intro w6 bQ hu6;have iH:=Qh bQ;have iN:=Qh (kc.out.upd hu6 (by unfold One;omega));have dy:=Qh (Za er.out hu6 (fun i e e2=>by have:=b8.out _ (Zc e);unfold One at e2;omega));have dt:=Qh (Za ec.out hu6 (fun i e e2=>by have:=cJ.out _ (Zc e);unfold One at e2;omega));have hq:Upd (fun i=>w.heap.size<=i) w5 w6:=hu6.mono (fun i _ e=>by unfold One at e;omega))
  |(refine Zs rfl rfl (g:=w.heap.size+1) (i:=1) (v:= .slice A2 (ZJ ys).length c2) rfl rfl iH.out (by kernel_rfl) (by simp) rfl ?_;intro w7 a8 aq;have fK:=Qh a8;have gf:=Qh (iN.out.upd aq (by unfold One;omega));have fQ:=Qh (Za dy.out aq (fun i e e2=>by have:=b8.out _ (Zc e);unfold One at e2;omega));have gH:=Qh (Za dt.out aq (fun i e e2=>by have:=cJ.out _ (Zc e);unfold One at e2;omega));have hq:Upd (fun i=>w.heap.size<=i) w6 w7:=aq.mono (fun i _ e=>by unfold One at e;omega)))
   refine hK.out _ _ ?_ fun jH=>?_
   ·(first|exact((HU.out.mono (fun _ _ e=>e.elim)).drew)|exact jH|exact jH.trans hq)
   try simp only[Qa]
   refine wpK 8 rfl ?_;refine wpZ 9 rfl fun K hK=>?_
   (first
  |(refine Zs rfl rfl (g:=w.heap.size+1) (i:=0) (v:= .slice A1 (ZJ xs).length c1) rfl rfl kz.out (by kernel_rfl) (by simp) rfl ?_;intro w6 bQ hu6;have iH:=Qh bQ;have iN:=Qh (kc.out.upd hu6 (by unfold One;omega));have dy:=Qh (Za er.out hu6 (fun i e e2=>by have:=b8.out _ (Zc e);unfold One at e2;omega));have dt:=Qh (Za ec.out hu6 (fun i e e2=>by have:=cJ.out _ (Zc e);unfold One at e2;omega));have hq:Upd (fun i=>w.heap.size<=i) w5 w6:=hu6.mono (fun i _ e=>by unfold One at e;omega))
  |(refine Zs rfl rfl (g:=w.heap.size+1) (i:=1) (v:= .slice A2 (ZJ ys).length c2) rfl rfl iH.out (by kernel_rfl) (by simp) rfl ?_;intro w7 a8 aq;have fK:=Qh a8;have gf:=Qh (iN.out.upd aq (by unfold One;omega));have fQ:=Qh (Za dy.out aq (fun i e e2=>by have:=b8.out _ (Zc e);unfold One at e2;omega));have gH:=Qh (Za dt.out aq (fun i e e2=>by have:=cJ.out _ (Zc e);unfold One at e2;omega));have hq:Upd (fun i=>w.heap.size<=i) w6 w7:=aq.mono (fun i _ e=>by unfold One at e;omega)))
   refine hK.out _ _ ?_ fun jH=>?_
   ·(first|exact((HU.out.mono (fun _ _ e=>e.elim)).drew)|exact jH|exact jH.trans hq)
   try simp only[Qa]
   refine wpD (Ii ?_);have m0:=fK.out.cell 0;have m1:=fK.out.cell 1;have s0:=gf.out.cell 0;have s1:=gf.out.cell 1;obtain⟨t0,t1⟩:=gf.out.f2;simp only[List.set_cons_zero,List.set_cons_succ,Qz,Qs]at m0 m1 s0 s1;have HZ:=Qh jH;clear jH hq bQ a8 aW dU hu4 hu5 hu6 aq c0 c1' c41 jI kz iH fK m9 kc iN gD eL er ec dy dt;go_wp2;have b9:=(gf.out.set_ 0 (.slice A1 (ZJ xs).length c1)).set_ 1 (.slice A2 (ZJ ys).length c2);simp only[List.set_cons_zero,List.set_cons_succ]at b9;have US:=((Il (One w.heap.size) w7).setOne 0 (.slice A1 (ZJ xs).length c1)).setOne 1 (.slice A2 (ZJ ys).length c2);refine bodyPost_ret (results_cell_row (p:=2) rfl _ _ _ _ _ _ _ rfl b9 Tryz.underlying208 rfl (by kernel_rfl)) rfl ⟨A1,c1,A2,c2,by rw[<-pj.out,<-pw.out],?_,?_,?_⟩
   ·rw[<-pj.out];exact(Ints.of_owned (Za fQ.out US (fun i e e2=>by have:=b8.out _ (Zc e);unfold One at e2;omega))).weak (fun i _ h=>by omega)
   ·rw[<-pw.out];exact(Ints.of_owned (Za gH.out US (fun i e e2=>by have:=cJ.out _ (Zc e);unfold One at e2;omega))).weak (fun i _ h=>by omega)
   ·exact((Il No w).then_ (HZ.out.then_ US (fun i e=> .inr (by unfold One at e;omega))) (fun i e=> .inr e))
/- Closed walks:the digraph of some edges. -/
theorem Zwy(F F1 F2:Iw)(w:I0)(A:OA)(c:Nat)(l:List Edge)(hW:Walk F w A l)(A1 A2:OA)(c1 c2:Nat)(ids keys:Iv)(hA:Ints F1 w A1 ids)(hB:Ints F2 w A2 keys)
  (nj:ids.Pairwise (·<·)) (nR:keys.Pairwise (·<·)) (rE:l≠[]->ids≠[]∧keys≠[]) (hl:l.length<=50000) (aN:ids.length<=4096) (bC:keys.length<=100000):
  Calls Tryz.prog 169 #[.slice A l.length c,.agg #[.slice A1 ids.length c1,.slice A2 keys.length c2]] w fun e w'=>∃G g K,e= .returned (.tuple #[.pointer (some ⟨g,0,none⟩),Qi 0])∧K<=50000∧DG w' G (some ⟨g,0,none⟩) ids.length K (ZcZ ids keys ids.length [] l)∧Upd No w w':=by
 obtain⟨wb,ag⟩:=Qe (w.alloc (.cells #[.slice A1 ids.length c1,.slice A2 keys.length c2] 208));have u0:Upd No w wb:=by rw[<-ag];exact(Il No w).alloc _
 have bN:Blk wb w.heap.size 208 [.slice A1 ids.length c1,.slice A2 keys.length c2]:=by rw[<-ag];exact Im w _ _
 have n0:∀W,Upd No wb W->W.cell? ⟨w.heap.size,0,none⟩=some (.slice A1 ids.length c1):=fun W u=>by have:=(bN.upd u id).cell 0;simpa using this
 have n1:∀W,Upd No wb W->W.cell? ⟨w.heap.size,1,none⟩=some (.slice A2 keys.length c2):=fun W u=>by have:=(bN.upd u id).cell 1;simpa using this
 have d1:decide (4096<(ids.length:Int))=false:=Qf (by omega);have d2:decide (1048575<(keys.length:Int))=false:=Qf (by omega);have hroom:Zct (ids.length:Int)=ids.length:=by unfold Zct;omega
 have rO:=Qh (hroom▸Zuc wb (ids.length:Int));have DM:=Qh (fun(W:I0) (u:Upd No wb W) (e:Edge) (he:l≠[])=>Zyo F1 F2 W A1 A2 c1 c2 ids keys (hA.upd (u0.trans u) Qo) (hB.upd (u0.trans u) Qo) nj nR (rE he).1 (rE he).2 (by omega) (by omega) e);have HW:=Qh (fun(W:I0) (u:Upd No wb W)=>hW.upd (u0.trans u) Qo);have U0:=Qh u0;have hr:Upd No wb wb:=Il _ _;obtain⟨R,hR⟩:=Qe (ZcZ ids keys ids.length [] l);have HR:=Qh hR;rw[hR];clear hR hA hB hW bN u0 nj nR rE hroom;go_enter Tryz.func169,Tryz.ntmps169;go_wp2_with fail;refine(rO.out).mono ?_;rintro e w1 ⟨G0,g0,rfl,kT,hu1,Bn⟩;have AP:=Qh kT;have kY:=Qh Bn;have fF:=Qh hu1;clear kT Bn hu1 ag hr rO;go_wp2
 go_loopg [25] l.length (fun gk i wr=>∃(k:Nat) (G:Iw) (q:List HArc),k+gk=l.length∧i= Qi k∧Hid (ZcZ ids keys ids.length q (l.drop k)=R)∧Hid (DG wr G (some ⟨g0,0,none⟩) ids.length k q)∧Hid (∀j,G j->wb.heap.size<=j)∧Upd No wb wr)
 case atStart=>exact⟨0,G0,[],by omega,rfl,HR,AP,kY,fF.out⟩
 case round=>
  obtain⟨k,G,q,aI,rfl,hq,hD,hG,hu⟩:=hrel
  by_cases hlt:k<l.length
  ·obtain⟨ax,rfl,q0,q1,q2,q3⟩:=(HW.out wr hu).at_ hlt;obtain⟨x,eR⟩:=Qe (l[k]);have ju:=Ge hlt;rw[eR]at q0 q1 q2 q3 ju;have HQ:=Qh (show ZcZ ids keys ids.length (Zcq ids.length q (toR ids keys x.arc)) (l.drop (k+1))=R by rw[<-hq.out,ju];rfl);have i1:(0:Int)<=(k:Int):=Qn _;have i2:(k:Int)<(l.length:Int):=by omega
   have hne:l≠[]:=fun e=>by rw[e]at hlt;simp at hlt
   obtain⟨wx,aJ⟩:=Qe (wr.alloc (.cells #[Qi x.f,Qi x.t,Qi x.k,Qi x.key] 58));have ux:Upd No wr wx:=by rw[<-aJ];exact(Il No wr).alloc _
   have bo:Blk wx wr.heap.size 58 [Qi x.f,Qi x.t,Qi x.k,Qi x.key]:=by rw[<-aJ];exact Im wr _ _
   have gV:=hu.trans ux;obtain⟨g0',g1,g2,g3⟩:=bo.c4;have HC:=Qh (DM.out wx gV x hne);have AY:=Qh (fun(W:I0) (u:Upd No wx W)=>Zud (hD.out.no (ux.trans u)) (by omega) (toR ids keys ⟨x.f,x.t,x.k,x.key⟩));have hZ:=gV.size;have a9:=Qh gV;unfold Edge.cells at HC;clear hq ju eR ux bo;go_wp2_with fail;refine Ck HC.out fun w2 hu2=>?_;go_wp2_with fail;refine(AY.out w2 hu2).mono ?_;rintro e w3 ⟨G3,rfl,oc,hu3,gd⟩;have s7:=Qh oc;have eI:=hu2.size;have EQ:=Qh (show∀j,G3 j->wb.heap.size<=j from fun j h=>(gd j h).elim (hG.out j) (fun h=>by omega));have U3:Upd No wb w3:=(a9.out.trans hu2).then_ hu3 (fun i e=> .inr (hG.out i e));clear oc hu3 gd hu2 AY HC;go_wp2;go_roundg (gk-1);exact⟨k+1,G3,_,by omega,by go_num,HQ,s7,EQ,U3⟩;omega
  ·obtain rfl:k=l.length:=by omega
   have tN:q=R:=by have:=hq.out;rw[G9]at this;exact this
   have EC:=Qh tN;clear tN hq;go_wp2;go_ret2;rw[<-EC.out];exact⟨G,g0,l.length,rfl,hl,hD.out,U0.out.trans hu⟩
/- Closed walks:the edges that do not count are dropped. -/
def ZdU(l:List Edge)(mask:Int):Nat:=l.findIdx (Za7 mask)
def Zft(l:List Edge)(mask:Int):Int:=if ZdU l mask<l.length then (ZdU l mask:Int) else -1
theorem ZsB{l:List Edge}{mask:Int}{k:Nat}(hk:k<l.length)(h:∀(j:Nat) (hj:j<k),Za7 mask (l[j]'(by omega))=false)(h1:Za7 mask l[k]=true):ZdU l mask=k:=by
 unfold ZdU;rw[List.findIdx_eq hk];exact⟨h1,fun j hj=>by simp only[h j hj]⟩
theorem Zqq{l:List Edge}{mask:Int}(h:∀(j:Nat) (hj:j<l.length),Za7 mask l[j]=false):ZdU l mask=l.length:=by
 unfold ZdU;rw[List.findIdx_eq_length];intro x hx;obtain⟨k,hk,rfl⟩:=Gl.1 hx;simp only[h k hk]
theorem Zwx(F:Iw)(w:I0)(B:OA)(d:Nat)(l:List Edge)(p:Addr)(mask:Int)(H:Walk F w B l)(hl:l.length<=1000000)(hp:w.cell? p=some (Qi mask)):
  CN 217 #[.slice B l.length d,.func (.func 167) #[] #[.pointer (some p)]] w (Qi (Zft l mask)):=by
 go_enter Tryz.func217,Tryz.ntmps217;go_wp2
 go_loopg [8] l.length (fun gk s wr=>∃k:Nat,k+gk=l.length∧s= Qi k∧Hid (∀(j:Nat) (hj:j<l.length),j<k->Za7 mask l[j]=false)∧Upd No w wr)
 case atStart=>exact⟨0,by omega,rfl,Qh (fun j _ hj=>by omega),Il _ _⟩
 case round=>
  obtain⟨k,aI,rfl,ah,hu⟩:=hrel
  by_cases hlt:k<l.length
  ·obtain⟨ad,rfl,q0,q1,q2,q3⟩:=(H.upd hu Qo).at_ hlt;obtain⟨x,hx⟩:=Qe (l[k]);rw[hx]at q0 q1 q2 q3;have iF:=hu.keepNo hp;have X:=Qh hx;have b2:(k:Int)<(l.length:Int):=by omega
   have b1:(0:Int)<=(k:Int):=Qn _;have HC:=Qh (Zuj wr p mask iF x);unfold Edge.cells at HC;clear hx
   by_cases he:Za7 mask x=true
   ·have aA:=Qh (show Zft l mask=(k:Int) by unfold Zft;rw[ZsB (l:=l) (mask:=mask) hlt (fun j hj=>ah.out j (by omega) hj) (by rw[X.out];exact he),if_pos hlt]);have He:=Qh he;clear he;go_wp2_with fail;refine(HC.out).mono ?_;rintro e w1 ⟨cX,hu1⟩;rw[He.out]at cX;subst cX;go_wp2;go_ret;exact⟨by rw[aA.out];rfl,hu.trans hu1⟩
   ·have iy:Za7 mask x=false:=by simpa using he
    have He:=Qh iy;clear he iy;go_wp2_with fail;refine(HC.out).mono ?_;rintro e w1 ⟨cX,hu1⟩;rw[He.out]at cX;subst cX;go_wp2;go_roundg (gk-1)
    case measure=>omega
    case rel=>exact⟨k+1,by omega,by go_num,Qh (fun j hj hjk=>by
      by_cases e:j=k
      ·subst e;rw[X.out];exact He.out
      ·exact ah.out j hj (by omega)),hu.trans hu1⟩
  ·obtain rfl:k=l.length:=by omega
   have aA:=Qh (show Zft l mask= -1 by unfold Zft;rw[Zqq (l:=l) (mask:=mask) fun j hj=>ah.out j hj hj,if_neg (by omega)]);go_wp2;go_ret;exact⟨by rw[aA.out];rfl,hu⟩
theorem ZhI(a:Edge)(l:List Edge):ZN (a::l)=a.cells++ZN l:=rfl
theorem Zgl(l m:List Edge):ZN (l++m)=ZN l++ZN m:=by unfold ZN;simp
theorem ZhH(l:List Edge)(i:Nat):(ZN l).take (i*4)=ZN (l.take i):=by
 rcases Nat.lt_or_ge l.length i with h|h
 ·rw[List.take_of_length_le (by rw[ZbF];omega),List.take_of_length_le (by omega)]
 ·conv=>lhs;rw[<-List.take_append_drop i l,Zgl]
  rw[Gc (by rw[ZbF,Hm];omega),List.take_of_length_le (by rw[ZbF,Hm];omega)]
theorem Zpj{xs:List Edge}{m n:Nat}{x:Edge}{cs:Ip}(hm:m<n)(hn:xs.length=n)(hc:n*4<=cs.length)(h:cs.take (n*4)=ZN xs):
  (cs.take (m*4)++x.cells++cs.drop (m*4+x.cells.length)).take (n*4)=ZN (xs.set m x):=by
 have cf:cs=ZN xs++cs.drop (n*4):=by rw[<-h,List.take_append_drop]
 have hl:x.cells.length=4:=rfl;have cA:xs=xs.take m++xs[m]'(by omega)::xs.drop (m+1):=by rw[<-Ge (by omega:m<xs.length),List.take_append_drop]
 have fh:xs.set m x=xs.take m++x::xs.drop (m+1):=by rw[List.set_eq_take_append_cons_drop,if_pos (by omega)]
 have e1:cs.take (m*4)=ZN (xs.take m):=by
  rw[<-ZhH,<-h,List.take_take,Nat.min_eq_left (by omega)]
 have e2:cs.drop (m*4+4)=ZN (xs.drop (m+1))++cs.drop (n*4):=by
  conv=>lhs;rw[cf,cA,Zgl,ZhI,<-Gx]
  rw[Gx (ZN (xs.take m)++_),List.drop_append,List.drop_of_length_le (by rw[Gt,ZbF,Hm];show _+4<=_;omega)];have:m*4+4-(ZN (List.take m xs)++(xs[m]'(by omega)).cells).length=0:=by rw[Gt,ZbF,Hm];show m*4+4-(_+4)=0;omega
  rw[this];simp
 rw[hl,e1,e2,fh,Zgl,ZhI,<-Gx,<-Gx];rw[Gc (by simp only[Gt,ZbF,hl,Hm,G5];omega),List.take_of_length_le (by simp only[Gt,ZbF,hl,Hm,G5];omega)]
theorem ZhK{w:I0}{g:Nat}{cs:Ip}{l:List Edge}(hb:Blk w g 58 cs)(h:cs.take (l.length*4)=ZN l):Walk (fun i=>i=g) w (some ⟨g,0,none⟩) l:=by
 intro _;refine⟨_,rfl,rfl,hb.lt,fun i row hi j v hj=>?_⟩;have e1:(⟨g,0,none⟩:Addr).add (i*4+j)=⟨g,i*4+j,none⟩:=by unfold Addr.add;split<;>simp_all
 rw[e1,hb.cell];have h1:=Zd0 (size:=4) (rows:=l.map Edge.cells) Zbn hi hj;have h2:(cs.take (l.length*4))[i*4+j]? =some v:=by rw[h];exact h1
 rw[List.getElem?_take]at h2
 split at h2
 ·exact h2
 ·cases h2
def Za2(l:List Edge)(mask:Int):List Edge:=l.filter fun x=> !Za7 mask x
theorem Zyl(w:I0)(ad:Addr)(g c:Nat)(ff:Hid (ad=⟨g,0,none⟩))(l:List Edge)(cur:Ip)(p:Addr)(mask:Int)(hb:Blk w g 58 cur)(ht:cur.take (l.length*4)=ZN l)(aT:cur.length=c*4)(mQ:l.length<=c)(hl:l.length<=1000000)
  (hp:w.cell? p=some (Qi mask)) (EZ:p.block≠g):
  Calls Tryz.prog 165 #[.slice (some ad) l.length c,.func (.func 167) #[] #[.pointer (some p)]] w fun e w'=>e= .returned (.slice (some ad) (Za2 l mask).length c)∧(∃cs,Blk w' g 58 cs∧cs.take ((Za2 l mask).length*4)=ZN (Za2 l mask))∧Upd (One g) w w':=by
 have hW:Walk (fun i=>i=g) w (some ad) l:=by rw[ff.out];exact ZhK hb ht
 have HI:=Qh (Zwx (fun i=>i=g) w (some ad) c l p mask hW hl hp)
 by_cases aA:ZdU l mask<l.length
 ·have fU:Zft l mask=(ZdU l mask:Int):=by unfold Zft;rw[if_pos aA]
  rw[fU]at HI;have gA:Za7 mask l[ZdU l mask]=true:=List.findIdx_getElem (p:=Za7 mask) (w:=aA)
  have cH:∀(j:Nat) (hj:j<ZdU l mask),Za7 mask (l[j]'(by omega))=false:=fun j hj=>by
   have:=List.not_of_lt_findIdx (p:=Za7 mask) (xs:=l) hj
   simpa using this
  obtain⟨k,hk⟩:=Qe (ZdU l mask);have gC:k<l.length:=by omega
  have bi:Za2 (l.take (k+1)) mask=l.take k:=by
   unfold Za2;rw[Gb gC,List.filter_append,List.filter_cons_of_neg (by rw[show Za7 mask l[k]=true by simpa[hk]using gA];decide)]
   rw[List.filter_eq_self.2 (fun x hx=>by
    obtain⟨j,hj,rfl⟩:=Gl.1 hx;rw[List.getElem_take,cH j (by rw[hk];simp at hj;omega)];rfl)]
   simp
  have mf:((k:Int)== -1)=false:=by rw[beq_eq_false_iff_ne];omega
  have zw:IntKind.i64.wrap ((k:Int)+1)=(k:Int)+1:=IntWalk.i64_in _ (by omega);rw[hk]at HI;have ij:=Qh bi;have HB:=Qh hb;have HT:=Qh ht;have cS:=Qh aT;clear fU gA cH aA hk bi hW hb ht aT;go_enter Tryz.func165,Tryz.ntmps165;go_wp2_with fail;refine Ck HI.out fun w1 hu1=>?_;have dq:=Qh (HB.out.upd hu1 id);have fF:Hid (Upd (One g) w w1):=Qh (hu1.mono (fun _ _ e=>e.elim));have dX:=Qh (List.length_take_of_le (Nat.le_of_lt gC):(l.take k).length=k);clear hu1;go_wp2
  go_loopg [5,6] (l.length-(k+1)) (fun gk si sj wr=>∃(m j:Nat) (xs:List Edge) (cs:Ip),j+gk=l.length∧si= Qi m∧sj= Qi j∧m<j∧Hid (xs.length=l.length)∧Hid (xs.take m=Za2 (l.take j) mask∧(Za2 (l.take j) mask).length=m)∧Hid (xs.drop j=l.drop j)∧Hid (Blk wr g 58 cs)∧Hid (cs.take (l.length*4)=ZN xs∧cs.length=c*4)∧Upd (One g) w wr)
  case atStart=>exact⟨k,k+1,l,cur,by omega,rfl,by go_num,by omega,Qh rfl,Qh ⟨ij.out.symm,by rw[ij.out];exact dX.out⟩,Qh rfl,dq,Qh ⟨HT.out,cS.out⟩,fF.out⟩
  case round=>
   obtain⟨m,j,xs,cs,aI,rfl,rfl,mH,eA,HM,HD,fV,dz,hu⟩:=hrel;have i0:(0:Int)<=(m:Int):=Qn _
   by_cases hlt:j<l.length
   ·obtain⟨x,hx⟩:=Qe (l[j]);have iM:j<xs.length:=by rw[eA.out];exact hlt
    have mn:xs[j]=x:=by
     have h1:=Ge iM;have h2:=Ge hlt;rw[HD.out,h2]at h1
     injection h1 with h1 _
     rw[<-h1,hx]
    have mh:Walk (fun i=>i=g) wr (some ad) xs:=by rw[ff.out];exact ZhK fV.out (by rw[eA.out];exact dz.out.1)
    obtain⟨ad',e',q0,q1,q2,q3⟩:=mh.at_ iM
    cases e'
    rw[mn]at q0 q1 q2 q3
    have lY:xs.drop (j+1)=l.drop (j+1):=by
     have h1:=Ge iM;have h2:=Ge hlt;rw[HD.out,h2]at h1
     injection h1 with _ h1
     exact h1.symm
    have l6:=Qh lY;have HX:=Qh hx;have i1:(0:Int)<=(j:Int):=Qn _;have i2:(j:Int)<(l.length:Int):=by omega
    have i3:(m:Int)<(l.length:Int):=by omega
    have iF:=hu.keep hp EZ;obtain⟨wx,aJ⟩:=Qe (wr.alloc (.cells #[Qi x.f,Qi x.t,Qi x.k,Qi x.key] 58));have ux:Upd No wr wx:=by rw[<-aJ];exact(Il No wr).alloc _
    have bo:Blk wx wr.heap.size 58 [Qi x.f,Qi x.t,Qi x.k,Qi x.key]:=by rw[<-aJ];exact Im wr _ _
    obtain⟨g0,g1,g2,g3⟩:=bo.c4;have HC:=Qh (Zuj wx p mask (ux.keepNo iF) x);have BO:=Qh bo;have UX:=Qh ux;have yq:=Qh iF;unfold Edge.cells at HC;clear hx iM mn mh lY bo ux iF HD
    cases hbx:Za7 mask x
    ·rw[hbx]at HC;have nS:=Qh hbx;clear hbx;go_wp2_with fail;refine Ck HC.out fun w2 hu2=>?_;have bo2:=BO.out.upd hu2 id;obtain⟨g0,g1,g2,g3⟩:=bo2.c4;have dR:=Qh ((fV.out.upd UX.out id).upd hu2 id);have de:=Qh (hu.trans ((UX.out.trans hu2).mono (fun _ _ e=>e.elim)));clear hu2 HC;go_wp2_with (refine Zhv rfl rfl (g:=g) (off:=m*4) (cells:=[Qi x.f,Qi x.t,Qi x.k,Qi x.key]) rfl (by rw[ff.out,ZjQ,Nat.zero_add]) rfl dR.out (by kernel_rfl) (by have:=dz.out.2;simp only[G1,Hv];omega) (by intro v hv;simp only[Ie,G6,or_false]at hv;rcases hv with rfl|rfl|rfl|rfl<;>rfl) ?_;intro w5 cw hu5);have fZ:=Zpj (m:=m) (n:=l.length) (x:=x) (xs:=xs) (cs:=cs) (by omega) eA.out (by have:=dz.out.2;omega) dz.out.1
     have me:(cs.take (m*4)++x.cells++cs.drop (m*4+x.cells.length)).length=c*4:=by
      have h4:x.cells.length=4:=rfl;have:=dz.out.2;rw[Gt,Gt,Hm,G5,h4];omega
     have hgo:Za2 (l.take (j+1)) mask=Za2 (l.take j) mask++[x]:=Zrk hlt HX.out (by rw[nS.out];rfl);have jP:=Qh cw;have cF:=Qh (de.out.trans hu5);have oH:=Qh (And.intro fZ me);have iT:=Qh hgo;clear cw hu5 fZ me hgo;go_roundg (gk-1)
     case measure=>omega
     case rel=>
      refine⟨m+1,j+1,xs.set m x,_,by omega,by go_num,by go_num,by omega,Qh (by rw[List.length_set];exact eA.out),Qh ⟨?_,?_⟩,Qh ?_,jP,oH,cF.out⟩
      ·rw[iT.out,<-HM.out.1,List.set_eq_take_append_cons_drop,if_pos (by have:=eA.out;omega),List.take_append,List.take_of_length_le (by rw[Hm];omega),Hm,Nat.min_eq_left (by have:=eA.out;omega),Nat.add_sub_cancel_left];rfl
      ·rw[iT.out,Gt,HM.out.2];rfl
      ·rw[List.drop_set_of_lt (by omega)];exact l6.out
    ·rw[hbx]at HC;have hgo:Za2 (l.take (j+1)) mask=Za2 (l.take j) mask:=Ztk hlt HX.out (by rw[hbx];rfl);have iT:=Qh hgo;clear hbx hgo;go_wp2_with fail;refine Ck HC.out fun w2 hu2=>?_;have dR:=Qh ((fV.out.upd UX.out id).upd hu2 id);have de:=Qh (hu.trans ((UX.out.trans hu2).mono (fun _ _ e=>e.elim)));clear hu2 HC;go_wp2;go_roundg (gk-1);exact⟨m,j+1,xs,cs,by omega,rfl,by go_num,by omega,eA,Qh (by rw[iT.out];exact HM.out),l6,dR,dz,de.out⟩;omega
   ·obtain rfl:j=l.length:=by omega
    have hA:=ff.out;subst hA
    have d7:Za2 l mask=xs.take m∧(Za2 l mask).length=m:=by
     have:=HM.out;rw[G7]at this;exact⟨this.1.symm,this.2⟩
    have fO:=Qh d7;have i3:(m:Int)<=(l.length:Int):=by omega
    have j5:¬c=m:=by omega
    have k1:∀W,(Instr.slice 47 (.slice (some ⟨g,0,none⟩) l.length c) (some (Qi (m:Int))) none none).run Tryz.prog W= .ok (.slice (some ⟨g,m*4,none⟩) (l.length-m) (c-m)) W:=fun W=>by
     have:=Za5 (P:=Tryz.prog) (W:=W) ZbY (some ⟨g,0,none⟩) l.length c m (by omega)
     rwa [ZdQ j5]at this
    have k2:∀W,(Instr.slice 47 (.slice (some ⟨g,0,none⟩) l.length c) none (some (Qi (m:Int))) none).run Tryz.prog W= .ok (.slice (some ⟨g,0,none⟩) m c) W:=fun W=>by
     have:=ZbZ (P:=Tryz.prog) (W:=W) ZbY (some ⟨g,0,none⟩) l.length c m (by omega)
     rwa [Zgo]at this
    have HU:=Qh hu;clear d7 hu dq fF ij HT cS dX HM HD;go_wp2_with (refine Ze1 rfl rfl ZbY (z:= .agg #[Qi 0,Qi 0,Qi 0,Qi 0]) (fun w=>by kernel_rfl) rfl (by intro v hv;simp[Value.cells]at hv;subst hv;rfl) (g:=g) (off:=m*4) (n:=l.length-m) rfl (by omega) fV.out (by have:=dz.out.2;omega) ?_;intro zs w6 eM fx hu6)
    have cp:(cs.take (m*4)++zs++cs.drop (m*4+zs.length)).take (m*4)=ZN (Za2 l mask):=by
     rw[Gx,Gc (by rw[Hm];have:=dz.out.2;omega),List.take_take,Nat.min_self,fO.out.1,<-ZhH,<-dz.out.1,List.take_take,Nat.min_eq_left (by omega)]
    have HF:=Qh cp;have cP:=Qh fx;have bI:=Qh (HU.out.trans hu6);clear cp fx hu6;go_wp2;go_ret;exact⟨by rw[fO.out.2];rfl,⟨_,cP.out,by rw[fO.out.2];exact HF.out⟩,bI.out⟩
 ·have fU:Zft l mask= -1:=by unfold Zft;rw[if_neg aA]
  rw[fU]at HI
  have ah:Za2 l mask=l:=by
   unfold Za2;rw[List.filter_eq_self];intro x hx
   have h0:ZdU l mask=l.length:=by
    have:=List.findIdx_le_length (xs:=l) (p:=Za7 mask);unfold ZdU at aA ⊢;omega
   have h1:=(List.findIdx_eq_length (p:=Za7 mask) (xs:=l)).1 h0 x hx;rw[h1];rfl
  have ez:=Qh ah;have HB:=Qh hb;have HT:=Qh ht;clear fU aA ah hW hb ht;go_enter Tryz.func165,Tryz.ntmps165;go_wp2_with fail;refine Ck HI.out fun w1 hu1=>?_;go_wp2;go_ret;exact⟨by rw[ez.out];rfl,⟨cur,HB.out.upd hu1 id,by rw[ez.out];exact HT.out⟩,hu1.mono (fun _ _ e=>e.elim)⟩
/- Closed walks:the first of the shortest:what is called,and what is known of walks. -/
theorem ZsI{W:I0}{B n:Nat}{e:Iy}(hn:n=W.heap.size)(hB:B<=W.heap.size):(W.alloc (.cells #[] e)).ownsRow B e 4 (.slice (some ⟨n,0,none⟩) 0 0) 0 []:=by
 subst hn;exact ZK (World.ownsRow_made W #[] 0 (Nat.le_refl _) (by decide) rfl) hB
theorem Zse{F:Iw}{w:I0}{A:OA}{l:List Edge}(h:Walk F w A l):Src w A l.length 4 (ZN l):=by
 have:=Recs.src h Zbn
 rwa [Hw]at this
theorem ZwA(F:Iw)(w:I0)(A:OA)(c:Nat)(l:List Edge)(h:Walk F w A l)(hl:l.length<=1000000):
  Calls Tryz.prog 166 #[.slice A l.length c] w (ZwJ w l):=by
 have qT:∀(w:I0) (a:OA) (n c:Nat),(binOp .eql 47 (.slice a n c) (.slice none 0 0)).run Tryz.prog w= .ok (.bool a.isNone) w:=fun w a n c=>Lib.run_eql_slice_nil w _ _ a n c 0 0 Tryz.underlying47
 cases A with
 |none=>
  have h0:l=[]:=by
   cases l with
   |nil=>rfl
   |cons a l=>obtain⟨_,e,_⟩:=h (by simp);cases e
  subst h0;go_enter Tryz.func166,Tryz.ntmps166;go_wp2;go_ret;exact⟨none,0,rfl,Ik _ _ _ _,Il _ _⟩
 |some ad=>
  have hs:=Qh (h.upd ((Il No w).alloc (.cells #[] 58)) Qo);go_enter Tryz.func166,Tryz.ntmps166;go_wp2_with (at_builtin;refine Ziq rfl rfl ZbY (base:=w.heap.size) (v:= .slice (some ⟨w.heap.size,0,none⟩) 0 0) (n:=0) (m:=l.length) (xs:=[]) rfl rfl (ZsI rfl (Nat.le_refl _)) (Zse hs.out) ZgY (by omega) (by omega) (by simp) ?_);intro v4 w4 aF hu4 dd;obtain⟨A4,c4,rfl⟩:=Zaz aF;have uw4:Upd No w w4:=((Il No w).alloc _).then_ hu4 (fun j e=> .inr (ZiN e));go_wp2;go_ret;exact⟨A4,c4,by simp,by simpa using aF,uw4⟩
theorem ZxK(w:I0)(base:Nat)(A:OA)(c:Nat)(l:List Edge)(p:Addr)(mask:Int)(ho:w.ownsRow base 58 4 (.slice A l.length c) l.length (ZN l))(hl:l.length<=1000000)
  (hp:w.cell? p=some (Qi mask)) (z4:p.block<base):
  Calls Tryz.prog 165 #[.slice A l.length c,.func (.func 167) #[] #[.pointer (some p)]] w fun e w'=>e= .returned (.slice A (Za2 l mask).length c)∧Walk (fun i=>base<=i) w' A (Za2 l mask)∧Upd (Own (.slice A l.length c)) w w':=by
 by_cases h0:l=[]
 ·subst h0;have HI:=Qh (Zwx (fun _=>True) w A c [] p mask (fun h=>absurd rfl h) (by simp) hp);rw[show Zft [] mask= -1 from rfl]at HI;go_enter Tryz.func165,Tryz.ntmps165;go_wp2_with fail;refine Ck HI.out fun w1 hu1=>?_;go_wp2;go_ret;exact⟨rfl,fun h=>absurd rfl h,hu1.mono (fun _ _ e=>e.elim)⟩
 ·obtain⟨g,cur,rfl,iL,hB,bG,aT,gL,eK⟩:=Zbz ho (List.length_pos_iff.2 h0);refine(Zyl w ⟨g,0,none⟩ g c (Qh rfl) l cur p mask hB gL aT bG hl hp (by omega)).mono ?_;rintro e w' ⟨rfl,⟨cs,hb,ht⟩,hu⟩;exact⟨rfl,Recs.weak (ZhK hb ht) (fun i _ e=>by subst e;exact iL),hu.mono (fun i _ e=>by cases e;rfl)⟩
theorem Zr4{N:Nat}{q:List HArc}(hr:∀a∈q,Zo N a=true)(hs:Zad q)(mask must:Int)(need:Bool){i:Int}(h0:0<=i)(h1:i<(N:Int))(hk:0<Zag (ofA mask q) must i (Zab N q mask i) (ZA N q mask must i) need):
  ((ZO (ofA mask q) must i (Zab N q mask i) (ZA N q mask must i) (Zag (ofA mask q) must i (Zab N q mask i) (ZA N q mask must i) need).toNat i need).length:Int)=Zag (ofA mask q) must i (Zab N q mask i) (ZA N q mask must i) need:=by
 have hL:LoopD (ofA mask q) must i (Zab N q mask i) (ZA N q mask must i):=Zf9 hr mask must i h0 h1;obtain⟨c,c1,c2,c3,c4⟩:=ZlF hL need hk
 have cA:=ZfN (hs.filter _) hL (ZrR hr mask must i h0 h1) (Znx hr mask must i h0 h1) (Zag (ofA mask q) must i (Zab N q mask i) (ZA N q mask must i) need).toNat i need (Int.le_refl _) ⟨c,c2,by omega,c4⟩ (fun l l1 l2 l3=>by
  have:=(ZhN hL need l1 l2 l3).2;omega)
 exact(congrArg (fun n:Nat=>(n:Int)) cA.2.1).trans (Int.toNat_of_nonneg (Int.le_of_lt hk))
theorem Zsk{N:Nat}{q:List HArc}(hN:N<=100000)(hr:∀a∈q,Zo N a=true)(mask must:Int)(need:Bool){i:Int}(h0:0<=i)(h1:i<(N:Int)):
  0<=Zag (ofA mask q) must i (Zab N q mask i) (ZA N q mask must i) need∧Zag (ofA mask q) must i (Zab N q mask i) (ZA N q mask must i) need<=1000000:=by
 have hb:=ZlH hN hr mask must i h0 h1;have cA:=Zc4 (ZR must (Zab N q mask i) (ZA N q mask must i) need) ((ofA mask q).filter fun a=>a.f==i) 0 (Int.le_refl _);refine⟨cA.1,?_⟩;refine Classical.byContradiction fun hc=>?_
 have gR:0<Z4 (ZR must (Zab N q mask i) (ZA N q mask must i) need) 0 ((ofA mask q).filter fun a=>a.f==i):=by unfold Zag at hc;omega
 rcases cA.2.2.2 gR with e|⟨a,_,ha,e⟩
 ·omega
 ·have hle:ZR must (Zab N q mask i) (ZA N q mask must i) need a<=900000:=by
   unfold ZR
   split
   ·exact(hb a.t).2.2
   ·exact(hb a.t).1.2
  unfold Zag at hc;omega
theorem Zq3(l:List Edge)(mask:Int):Za2 l (bits .and .i64 mask 14)=Zi l mask:=by
 unfold Za2 Zi
 congr 1
 funext e
 rw[ZwG,Bool.not_not]
/- Closed walks:the first of the shortest. -/
def ToldC(w:I0)(d:List Edge)(e:Ending)(w':I0):Prop:=
 ∃A c,e= .returned (.tuple #[.slice A d.length c,Qi (if d.length=0 then 3 else 0)])∧w'.ownsRow w.heap.size 58 4 (.slice A d.length c) d.length (ZN d)∧Upd No w w'
theorem ZrE(F:Iw)(w:I0)(A:OA)(c:Nat)(l:List Edge)(mask must:Int)(hW:Walk F w A l)(hl:l.length<=2000):
  Calls Tryz.prog 100 #[.slice A l.length c,Qi mask,Qi must] w (ToldC w (ZaQ l mask must)):=by
 obtain⟨ma,kN⟩:=Qe (bits .and .i64 mask 14);obtain⟨mu,il⟩:=Qe (bits .and .i64 must 14);obtain⟨wb,ag⟩:=Qe ((w.alloc (.cells #[Qi mask] 3)).setCell ⟨w.heap.size,0,none⟩ (Qi ma));have u0:Upd No w wb:=by rw[<-ag];exact((Il No w).alloc _).then_ ((Il (One w.heap.size) _).setOne 0 _) (fun i e=> .inr (by unfold One at e;omega))
 have dE:wb.heap.size=w.heap.size+1:=by rw[<-ag];simp
 have bM:Blk wb w.heap.size 3 [Qi ma]:=by rw[<-ag];exact(Im w 3 [Qi mask]).set_ 0 (Qi ma)
 have qT:∀(w:I0) (a:OA) (n c:Nat),(binOp .eql 115 (.slice a n c) (.slice none 0 0)).run Tryz.prog w= .ok (.bool a.isNone) w:=fun w a n c=>Lib.run_eql_slice_nil w _ _ a n c 0 0 Tryz.underlying115
 have iU:(mu != 0)=Zak must:=by rw[<-il];exact ZqH must
 obtain⟨need,hnd⟩:=Qe (Zak must);rw[hnd]at iU;obtain⟨D,hD⟩:=Qe (Zi l mask);have o7:D.length<=2000:=by rw[<-hD];exact Nat.le_trans (Gj _ _) hl
 have d7:Za2 l ma=D:=by rw[<-kN,Zq3,hD]
 obtain⟨ids,cQ⟩:=Qe (ZaP D);obtain⟨keys,dr⟩:=Qe (ZbC D);have nj:ids.Pairwise (·<·):=by rw[<-cQ];exact ZcN _
 have nR:keys.Pairwise (·<·):=by rw[<-dr];exact ZcN _
 have cR:ids.length<=4096:=by
  have h1:=ZeH (Zcn D);rw[Zh9]at h1;have h2:(ZaP D).length<=2*D.length:=h1;rw[cQ]at h2;omega
 have gC:keys.length<=100000:=by
  have h1:=ZeH (D.map Edge.key);rw[Hw]at h1;have h2:(ZbC D).length<=D.length:=h1;rw[dr]at h2;omega
 have hne:D≠[]->ids≠[]∧keys≠[]:=by
  intro h;obtain⟨e,m,rfl⟩:=List.exists_cons_of_ne_nil h;have h1:=(Zia (D:=e::m) (e:=e) Gv).1;have h2:=ZgT (D:=e::m) (e:=e) Gv;rw[cQ]at h1;rw[dr]at h2;exact⟨fun e2=>(by rw[e2]at h1;cases h1),fun e2=>(by rw[e2]at h2;cases h2)⟩
 obtain⟨q,hq⟩:=Qe (ZcZ ids keys ids.length [] D);obtain⟨ks,kO⟩:∃ks:Int->Int,ks=fun i=>if 0<=i∧i<(ids.length:Int) then Zag (ofA ma q) mu i (Zab ids.length q ma i) (ZA ids.length q ma mu i) need else 0:=⟨_,rfl⟩
 obtain⟨wf,AI⟩:∃wf:Int->List HArc,wf=fun i=>ZO (ofA ma q) mu i (Zab ids.length q ma i) (ZA ids.length q ma mu i) (ks i).toNat i need:=⟨_,rfl⟩
 have ox:∀i:Int,0<=i->i<(ids.length:Int)->ks i=Zag (ofA ma q) mu i (Zab ids.length q ma i) (ZA ids.length q ma mu i) need:=fun i h0 h1=>by rw[kO];exact if_pos ⟨h0,h1⟩
 have nD:∀i:Int,wf i=ZO (ofA ma q) mu i (Zab ids.length q ma i) (ZA ids.length q ma mu i) (ks i).toNat i need:=fun i=>by rw[AI]
 have dC:Zad q->ZaQ l mask must=(ZT ks wf ids.length).map (ZdP ids keys)∧∀a∈ZT ks wf ids.length,Zo ids.length a=true∧a.label<(keys.length:Int):=fun hs=>
  Zus (by omega) ids keys (by rw[hD,cQ]) (by rw[hD,dr]) (by rw[hD,hq]) hs ks wf (by rw[kN,il,hnd];exact ox) (fun i h0 h1=>by rw[kO];exact if_neg (fun e=>by omega)) (fun i h1=>by rw[kO];exact if_neg (fun e=>by omega)) (by rw[kN,il,hnd];exact fun i _ _=>nD i)
 obtain⟨doc,jX⟩:=Qe (ZaQ l mask must);rw[jX]at dC ⊢;have lK:=Qh (ZwA F wb A c l (hW.upd u0 Qo) (by omega));have m0:∀W,Upd No wb W->W.cell? ⟨w.heap.size,0,none⟩=some (Qi ma):=fun W u=>by have:=(bM.upd u id).cell 0;simpa using this
 have qi:=Qh (fun(W:I0) (A:OA) (c:Nat) (u:Upd No wb W) (ho:W.ownsRow wb.heap.size 58 4 (.slice A l.length c) l.length (ZN l))=>d7▸ZxK W wb.heap.size A c l ⟨w.heap.size,0,none⟩ ma ho (by omega) (m0 W u) (by show w.heap.size<wb.heap.size;omega));have AS:=Qh (fun(W:I0) (A:OA) (c:Nat) (h:Walk (fun i=>wb.heap.size<=i) W A D)=>dr▸cQ▸Zww _ W A c D h (by omega));have Ch:=Qh (fun(W:I0) (A:OA) (c:Nat) (F0 F1 F2:Iw) (h:Walk F0 W A D) (A1 A2:OA) (c1 c2:Nat) (hA:Ints F1 W A1 ids) (hB:Ints F2 W A2 keys)=>hq▸Zwy F0 F1 F2 W A c D h A1 A2 c1 c2 ids keys hA hB nj nR hne (by omega) cR gC);have rV:=Qh dC;have qo:=Qh ox;have sm:=Qh nD;have U0:=Qh u0;have tZ:Upd No wb wb:=Il _ _;clear hW u0 bM dC ox nD kO AI d7 hD cQ dr nj nR hne hq hnd jX;go_enter Tryz.func100,Tryz.ntmps100;go_wp2_with fail;refine(lK.out).mono ?_;rintro e w1 ⟨A1,c1,rfl,cn,hu1⟩;have pY:Upd No wb w1:=hu1;go_wp2_with fail;refine(qi.out w1 A1 c1 pY cn).mono ?_;rintro e w2 ⟨rfl,bZ,hu2⟩;have de:=Qh (hu1.then_ hu2 (fun i e=> .inr (cn.lt i e).1));have eP:=Qh bZ;clear hu1 pY hu2 cn bZ ag kN il lK qi;go_wp2_with fail;refine(AS.out w2 A1 c1 eP.out).mono ?_;rintro e w3 ⟨I1,d1,I2,d2,rfl,hi1,hi2,hu3⟩;have iY:=de.out.trans hu3;obtain⟨w4,cW⟩:=Qe (w3.alloc (.cells #[.slice I1 ids.length d1,.slice I2 keys.length d2] 208));have u4:Upd No w3 w4:=by rw[<-cW];exact(Il No w3).alloc _
 have bN:Blk w4 w3.heap.size 208 [.slice I1 ids.length d1,.slice I2 keys.length d2]:=by rw[<-cW];exact Im w3 _ _
 obtain⟨s0,s1⟩:=bN.c2;have yP:=Qh (hi1.upd u4 Qo);have sK:=Qh (hi2.upd u4 Qo);have ms:=Qh (Ch.out w4 A1 c1 _ _ _ (Recs.upd eP.out (hu3.trans u4) Qo) I1 I2 d1 d2 yP.out sK.out);have dl:=Qh (iY.trans u4);have BN:=Qh bN;clear hi1 hi2 hu3 iY u4 bN AS Ch de eP;go_wp2_with fail;refine(ms.out).mono ?_;rintro e w5 ⟨G,g,K,rfl,hK,kT,hu5⟩;have cF:=Qh (dl.out.trans hu5);have AP:=Qh kT;have hr:=kT.right;have oI:=kT.sorted;have HR:=Qh hr;have nr:=Qh oI;have za:=Qh (rV.out oI);have M0:∀W,Upd No w5 W->W.cell? ⟨w.heap.size,0,none⟩=some (Qi ma):=fun W u=>m0 W (cF.out.trans u)
 have N0:∀W,Upd No w5 W->W.cell? ⟨w3.heap.size,0,none⟩=some (.slice I1 ids.length d1):=fun W u=>by have:=(BN.out.upd (hu5.trans u) id).cell 0;simpa using this
 have N1:∀W,Upd No w5 W->W.cell? ⟨w3.heap.size,1,none⟩=some (.slice I2 keys.length d2):=fun W u=>by have:=(BN.out.upd (hu5.trans u) id).cell 1;simpa using this
 have Fk:=Qh (fun(W:I0) (u:Upd No w5 W) (a:HArc) (ha:Zo ids.length a=true∧a.label<(keys.length:Int))=>(by
  have h:=(ZQ _ _).1 ha.1;exact Zwz _ _ W I1 I2 d1 d2 ids keys (yP.out.upd (hu5.trans u) Qo) (sK.out.upd (hu5.trans u) Qo) a h.1 h.2.1 h.2.2.1 h.2.2.2.1 h.2.2.2.2.2.2.1 ha.2:CN 173 #[.agg #[.slice I1 ids.length d1,.slice I2 keys.length d2],.agg a.cells.toArray] W (.agg (ZdP ids keys a).cells.toArray)))
 have Cf:=Qh (fun(W:I0) (u:Upd No w5 W) (i:Int)=>Zyn W G (some ⟨g,0,none⟩) ids.length K q (kT.no u) (by omega) ma mu i);have zN:=Qh (fun(W:I0) (u:Upd No w5 W) (B C:OA) (n:Nat) (hn:n<ids.length) (h:LoopI W B C ids.length (Zab ids.length q ma n) (ZA ids.length q ma mu n))=>Zrv W G (some ⟨g,0,none⟩) B C ids.length K q (kT.no u) (by omega) ma mu _ _ h (ZnE (by omega) hr ma mu (n:Int) (by omega) (by omega)) (n:Int) need);have Bj:=Qh (fun(W:I0) (u:Upd No w5 W) (B C:OA) (n m:Nat) (hn:n<ids.length) (hm:m<=1000000) (h:LoopI W B C ids.length (Zab ids.length q ma n) (ZA ids.length q ma mu n))=>ZxE W G (some ⟨g,0,none⟩) B C ids.length K q (kT.no u) (by omega) ma mu _ _ h (ZnE (by omega) hr ma mu (n:Int) (by omega) (by omega)) (n:Int) m hm need);have FD:Upd No w5 w5:=Il _ _;clear kT hu5 hr oI cW s0 s1 yP sK BN m0 ms dl tZ;go_wp2
 go_loopg [11,40] ids.length (fun gk way i wr=>∃(n:Nat) (A5:OA) (c5:Nat) (ws:List HArc),n+gk=ids.length∧i= Qi n∧way= .slice A5 ws.length c5∧Hid (ZT ks wf n=ws)∧Hid (A5=none↔ws=[])∧Hid (ws.length<=1000000)∧
  wr.ownsRow w5.heap.size 119 4 (.slice A5 ws.length c5) ws.length (Za4 ws)∧Upd No w5 wr)
 case atStart=>exact⟨0,none,0,[],by omega,rfl,rfl,Qh rfl,Qh ⟨fun _=>rfl,fun _=>rfl⟩,Qh (by simp),Ik _ _ _ _,Il _ _⟩
 case round=>
  obtain⟨n,A5,c5,ws,aI,rfl,rfl,oM,pe,vF,ae,hu⟩:=hrel;have i1:(0:Int)<=(n:Int):=Qn _
  by_cases hlt:n<ids.length
  ·have i2:(n:Int)<(ids.length:Int):=by omega
   obtain⟨kk,bJ⟩:=Qe (Zag (ofA ma q) mu (n:Int) (Zab ids.length q ma (n:Int)) (ZA ids.length q ma mu (n:Int)) need);obtain⟨wk,jB⟩:=Qe (ZO (ofA ma q) mu (n:Int) (Zab ids.length q ma (n:Int)) (ZA ids.length q ma mu (n:Int)) kk.toNat (n:Int) need);have mF:=Qh (show ks (n:Int)=kk by rw[qo.out _ i1 i2,bJ]);have BY:=Qh (show wf (n:Int)=wk by rw[sm.out,mF.out,jB]);have kD:0<=kk∧kk<=1000000:=by rw[<-bJ];exact Zsk (by omega) HR.out ma mu need i1 i2
   have oC:=Qh (fun(h:0<kk)=>(by rw[<-jB,<-bJ];exact Zr4 HR.out nr.out ma mu need i1 i2 (by rw[bJ];exact h):(wk.length:Int)=kk));have zV:=Qh (fun(W:I0) (u:Upd No w5 W) (B C:OA) (h:LoopI W B C ids.length (Zab ids.length q ma n) (ZA ids.length q ma mu n))=>bJ▸zN.out W u B C n hlt h)
   have ta:=Qh (fun(W:I0) (u:Upd No w5 W) (B C:OA) (h:LoopI W B C ids.length (Zab ids.length q ma n) (ZA ids.length q ma mu n))=>(by
    have h2:=Bj.out W u B C n kk.toNat hlt (by omega) h;rw[Int.toNat_of_nonneg kD.1,jB]at h2;exact h2:Calls Tryz.prog 172 #[.agg #[.pointer (some ⟨g,0,none⟩),Qi ma,Qi mu,.slice B ids.length ids.length,.slice C ids.length ids.length],Qi n,Qi kk,.bool need] W (Zm5 W wk)))
   have z9:=Qh (Cf.out wr hu (n:Int));have Ac:=Qh kD;clear bJ jB kD;go_wp2_with fail;refine(z9.out).mono ?_;rintro e w6 ⟨B,C,rfl,qc,hu6⟩;obtain⟨wl,dV⟩:=Qe (w6.alloc (.cells #[.pointer (some ⟨g,0,none⟩),Qi ma,Qi mu,.slice B ids.length ids.length,.slice C ids.length ids.length] 213));have ul:Upd No w6 wl:=by rw[<-dV];exact(Il No w6).alloc _
   have bL:Blk wl w6.heap.size 213 [.pointer (some ⟨g,0,none⟩),Qi ma,Qi mu,.slice B ids.length ids.length,.slice C ids.length ids.length]:=by rw[<-dV];exact Im w6 _ _
   have l0:∀W,Upd No wl W->W.cell? ⟨w6.heap.size,0,none⟩=some (.pointer (some ⟨g,0,none⟩)):=fun W u=>by have:=(bL.upd u id).cell 0;simpa using this
   have l1:∀W,Upd No wl W->W.cell? ⟨w6.heap.size,1,none⟩=some (Qi ma):=fun W u=>by have:=(bL.upd u id).cell 1;simpa using this
   have l2:∀W,Upd No wl W->W.cell? ⟨w6.heap.size,2,none⟩=some (Qi mu):=fun W u=>by have:=(bL.upd u id).cell 2;simpa using this
   have l3:∀W,Upd No wl W->W.cell? ⟨w6.heap.size,3,none⟩=some (.slice B ids.length ids.length):=fun W u=>by have:=(bL.upd u id).cell 3;simpa using this
   have l4:∀W,Upd No wl W->W.cell? ⟨w6.heap.size,4,none⟩=some (.slice C ids.length ids.length):=fun W u=>by have:=(bL.upd u id).cell 4;simpa using this
   have AN:Upd No wl wl:=Il _ _;have eq:=Qh (qc.upd ul);have nV:=Qh ((hu.trans hu6).trans ul);have sN:=Qh (zV.out wl nV.out B C eq.out);have pf:=Qh (fun(W:I0) (u:Upd No wl W)=>ta.out W (nV.out.trans u) B C (eq.out.upd u));have oS:=Qh (Za ae ((hu6.trans ul)) Qo);clear qc hu6 ul bL z9 zV ta ae;go_wp2_with fail;refine Ck sN.out fun w8 dj=>?_;have kF:=Qh (nV.out.trans dj);have sI:=Qh (Za oS.out dj Qo);clear sN oS dV
   by_cases h0:0<kk
   ·have d0:decide (0<kk)=true:=Qt h0
    by_cases hA:A5=none
    ·subst hA;have HZ:=Qh (pe.out.1 rfl);have qH:=Qh (pf.out w8 dj);go_wp2_with fail;refine(qH.out).mono ?_;rintro e w9 ⟨A9,c9,rfl,jt,aL⟩;have ja:(0:Int)<(wk.length:Int):=by have:=oC.out h0;omega
     have jg:¬A9=none:=fun e=>by
      subst e;rcases jt.2 with ⟨_,h0⟩|⟨g9,_,_,h0,_⟩
      ·omega
      ·cases h0
     have fM:=Qh (ZK jt (show w5.heap.size<=w8.heap.size from kF.out.size));have eZ:=Qh (kF.out.trans aL)
     have kC:=Qh (show ZT ks wf (n+1)=wk by
      show(if (decide (0<ks (n:Int))&&(ZT ks wf n==[]||decide (ks (n:Int)<((ZT ks wf n).length:Int))))=true then wf (n:Int) else ZT ks wf n)=_
      rw[oM.out,mF.out,BY.out];exact if_pos (by rw[Qt h0,HZ.out];rfl))
     have lq:=Qh (show A9=none↔wk=[] from⟨fun e=>absurd e jg,fun e=>by rw[e]at ja;simp at ja⟩);clear jt aL ja jg;go_wp2;go_roundg (gk-1);exact⟨n+1,A9,c9,wk,by omega,by go_num,rfl,kC,lq,Qh (by have:=oC.out h0;have:=Ac.out.2;omega),fM.out,eZ.out⟩;omega
    ·have DJ:A5.isNone=false:=by cases A5 with|none=>exact absurd rfl hA|some _=>rfl
     by_cases hk:kk<(ws.length:Int)
     ·have d1:decide (kk<(ws.length:Int))=true:=Qt hk;have qH:=Qh (pf.out w8 dj);go_wp2_with fail;refine(qH.out).mono ?_;rintro e w9 ⟨A9,c9,rfl,jt,aL⟩;have ja:(0:Int)<(wk.length:Int):=by have:=oC.out h0;omega
      have jg:¬A9=none:=fun e=>by
       subst e;rcases jt.2 with ⟨_,h0⟩|⟨g9,_,_,h0,_⟩
       ·omega
       ·cases h0
      have fM:=Qh (ZK jt (show w5.heap.size<=w8.heap.size from kF.out.size));have eZ:=Qh (kF.out.trans aL)
      have kC:=Qh (show ZT ks wf (n+1)=wk by
       show(if (decide (0<ks (n:Int))&&(ZT ks wf n==[]||decide (ks (n:Int)<((ZT ks wf n).length:Int))))=true then wf (n:Int) else ZT ks wf n)=_
       rw[oM.out,mF.out,BY.out];exact if_pos (by rw[Qt h0,Qt hk];simp))
      have lq:=Qh (show A9=none↔wk=[] from⟨fun e=>absurd e jg,fun e=>by rw[e]at ja;simp at ja⟩);clear jt aL ja jg;go_wp2;go_roundg (gk-1);exact⟨n+1,A9,c9,wk,by omega,by go_num,rfl,kC,lq,Qh (by have:=oC.out h0;have:=Ac.out.2;omega),fM.out,eZ.out⟩;omega
     ·have d1:decide (kk<(ws.length:Int))=false:=Qf hk
      have kC:=Qh (show ZT ks wf (n+1)=ws by
       show(if (decide (0<ks (n:Int))&&(ZT ks wf n==[]||decide (ks (n:Int)<((ZT ks wf n).length:Int))))=true then wf (n:Int) else ZT ks wf n)=_
       rw[oM.out,mF.out,d0,d1];have hw0:¬ws=[]:=fun e=>hA (pe.out.2 e)
       rw[if_neg (by simpa using hw0)])
      go_wp2;go_roundg (gk-1);exact⟨n+1,A5,c5,ws,by omega,by go_num,rfl,kC,pe,vF,sI.out,kF.out⟩;omega
   ·have d0:decide (0<kk)=false:=Qf h0
    have kC:=Qh (show ZT ks wf (n+1)=ws by
     show(if (decide (0<ks (n:Int))&&(ZT ks wf n==[]||decide (ks (n:Int)<((ZT ks wf n).length:Int))))=true then wf (n:Int) else ZT ks wf n)=_
     rw[oM.out,mF.out,d0];exact if_neg (by simp))
    go_wp2;go_roundg (gk-1);exact⟨n+1,A5,c5,ws,by omega,by go_num,rfl,kC,pe,vF,sI.out,kF.out⟩;omega
  ·obtain rfl:n=ids.length:=by omega
   have jX:doc=ws.map (ZdP ids keys):=by rw[za.out.1,oM.out]
   have cH:∀a∈ws,Zo ids.length a=true∧a.label<(keys.length:Int):=by have:=za.out.2;rw[oM.out]at this;exact this
   have nY:=Qh jX;have D3:=Qh cH;have wF:w.heap.size<=w5.heap.size:=(U0.out.trans cF.out).size;clear jX cH oM Cf zN Bj za rV qo sm
   by_cases hA:A5=none
   ·subst hA;have hw0:=pe.out.1 rfl;have wE:=Qh (show doc=[] by rw[nY.out,hw0];rfl);go_wp2;go_ret2;rw[wE.out];exact⟨none,0,rfl,Ik _ _ _ _,(U0.out.trans cF.out).trans hu⟩
   ·have DJ:A5.isNone=false:=by cases A5 with|none=>exact absurd rfl hA|some _=>rfl
    have hw0:¬ws=[]:=fun e=>hA (pe.out.2 e)
    obtain⟨wo,gU⟩:∃wo,wo=wr:=⟨_,rfl⟩;subst gU;have HY:=Qh (Zff ae);have ES:=Qh (show doc.length=ws.length by rw[nY.out,Hw]);have oo:=Qh hw0;have jk:=Qh hu;clear ae aI hA hw0;go_wp2
    go_loopg [15,76] ws.length (fun gk out i wr=>∃(k:Nat) (A6:OA) (c6:Nat) (xs:List Edge),k+gk=ws.length∧i= Qi k∧out= .slice A6 xs.length c6∧Hid (xs++(ws.drop k).map (ZdP ids keys)=doc)∧Hid (xs.length=k)∧
     wr.ownsRow wo.heap.size 58 4 (.slice A6 xs.length c6) xs.length (ZN xs)∧Upd No wo wr)
    case atStart=>exact⟨0,none,0,[],by omega,rfl,rfl,Qh (by rw[nY.out];rfl),Qh rfl,Ik _ _ _ _,Il _ _⟩
    case round=>
     obtain⟨k,A6,c6,xs,aI,rfl,rfl,cZ,dX,ae,hu2⟩:=hrel
     by_cases hlt:k<ws.length
     ·obtain⟨ax,rfl,q0,q1,q2,q3⟩:=(HY.out.upd hu2 Qo).at_ hlt;obtain⟨x,eR⟩:=Qe (ws[k]);have ju:=Ge hlt;have vV:=D3.out _ (Hg hlt);rw[eR]at q0 q1 q2 q3 ju vV;have HX:=Qh (show(xs++[ZdP ids keys x])++(ws.drop (k+1)).map (ZdP ids keys)=doc by rw[<-cZ.out,ju];simp);have i1:(0:Int)<=(k:Int):=Qn _;have i2:(k:Int)<(ws.length:Int):=by omega
      obtain⟨wx,aJ⟩:=Qe (wr.alloc (.cells #[Qi x.f,Qi x.t,Qi x.kind,Qi x.label] 119));have ux:Upd No wr wx:=by rw[<-aJ];exact(Il No wr).alloc _
      have bo:Blk wx wr.heap.size 119 [Qi x.f,Qi x.t,Qi x.kind,Qi x.label]:=by rw[<-aJ];exact Im wr _ _
      have D9:Upd No w5 wx:=jk.out.trans (hu2.trans ux);obtain⟨g0,g1,g2,g3⟩:=bo.c4;have HC:=Qh (Fk.out wx D9 x vV);have HO:=Qh (Za ae ux Qo);have a9:=Qh (hu2.trans ux);have FI:ws.length<=1000000:=vF.out;generalize ZdP ids keys x=y at HC HX;unfold HArc.cells Edge.cells at HC;clear ju eR vV ux bo ae cZ;go_wp2_with fail;refine Ck HC.out fun w7 aq=>?_;have iS:=Za HO.out aq Qo;have bI:=Qh (a9.out.trans aq);have FW:=(a9.out.trans aq).size;have eB:=Qh (fun i e=>(iS.lt i e).1);have HL:=Qh (ZbF xs);clear aq HC HO;go_wp2_with (at_builtin;refine ZbG rfl rfl ZbY (v:= .slice A6 xs.length c6) (n:=xs.length) (xs:=ZN xs) (cells:=[Qi y.f,Qi y.t,Qi y.k,Qi y.key]) (by rfl) rfl iS rfl rfl (by have:=dX.out;omega) (by have:=dX.out;omega) (by omega) ?_;intro g8 c8 w8 sO dj Ft Fs);go_roundg (gk-1);exact⟨k+1,some ⟨g8,0,none⟩,c8,xs++[y],by omega,by go_num,by simp,HX,Qh (by rw[Gt,dX.out];rfl),by simpa[ZN,Edge.cells]using sO,bI.out.then_ dj fun i e=> .inr (eB.out i e)⟩;omega
     ·obtain rfl:k=ws.length:=by omega
      have mY:xs=doc:=by have:=cZ.out;rw[G9]at this;simpa using this
      have hl0:¬doc.length=0:=by rw[ES.out];exact fun e=>oo.out (Gd e)
      have Bx:=Qh mY;have DA:=Qh hl0;clear mY hl0 cZ;go_wp2;go_ret2;refine⟨A6,c6,?_,?_,(U0.out.trans cF.out).trans (jk.out.trans hu2)⟩
      ·rw[if_neg DA.out,<-Bx.out];rfl
      ·rw[<-Bx.out];exact ZK ae (Nat.le_trans wF jk.out.size)
/- Closed walks:the answers that the document gives. -/
def ea:Edge:=⟨1,2,1,5⟩
def eb:Edge:=⟨2,1,3,5⟩
section
variable {F:Iw} {w:I0} {A:OA} {c:Nat} {l d:List Edge} {mask must:Int}
end
/- Closed walks,the document's:the ids from which so many steps lead to one. -/
def ZxO(F:Iw)(w:I0)(v:Iz)(l:Iv):Prop:=∃B c,v= .slice B l.length c∧Ints F w B l
structure RowsOk (F:Nat->Prop) (w:World) (vs:List Value) (f:Nat->List Int):Prop where
 ok:∀(j:Nat) (h:j<vs.length),ZxO F w vs[j] (f j)
structure RowsAt (w:World) (A:OA) (n:Nat) (f:Nat->List Int):Prop where
 at_:∀j,j<n->∃ad B c,A=some ad∧w.cell? (ad.add j)=some (.slice B (f j).length c)∧Ints (fun _=>True) w B (f j)
