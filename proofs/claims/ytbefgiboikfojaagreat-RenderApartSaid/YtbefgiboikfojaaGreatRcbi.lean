/- Closed walks: the first of the shortest. -/
import Derived.Test.YtbefgiboikfojaaGreatRcbh
namespace Go.Proofs.YtbefgiboikfojaaGreat
open Go.RowKit
set_option linter.unusedVariables false
set_option linter.unusedSimpArgs false
set_option maxRecDepth 100000
set_option maxHeartbeats 16000000
def ToldC(w:Gy)(d:List Edge)(e:Ending)(w':Gy):Prop:=
 ∃A c,e= .returned (.tuple #[.slice A d.length c,Qi (if d.length=0 then 3 else 0)])∧w'.ownsRow w.heap.size 94 4 (.slice A d.length c) d.length (Zi d)∧Upd No w w'
theorem Zqo(F:Gt)(w:Gy)(A:OA)(c:Nat)(l:List Edge)(mask must:Int)(hW:Walk F w A l)(hl:l.length<=2000):
  Calls Tryz.prog 43 #[.slice A l.length c,Qi mask,Qi must] w (ToldC w (ZaL l mask must)):=by
 obtain⟨ma,jR⟩:=Qe (bits .and .i64 mask 14);obtain⟨mu,jX⟩:=Qe (bits .and .i64 must 14);obtain⟨wb,ah⟩:=Qe ((w.alloc (.cells #[Qi mask] 3)).setCell ⟨w.heap.size,0,none⟩ (Qi ma));have u0:Upd No w wb:=by rw[<-ah];exact((Gg No w).alloc _).then_ ((Gg (One w.heap.size) _).setOne 0 _) (fun i e=> .inr (by unfold One at e;omega))
 have ci:wb.heap.size=w.heap.size+1:=by rw[<-ah];simp
 have bM:Blk wb w.heap.size 3 [Qi ma]:=by rw[<-ah];exact(Gh w 3 [Qi mask]).set_ 0 (Qi ma)
 have qT:∀(w:Gy) (a:OA) (n c:Nat),(binOp .eql 125 (.slice a n c) (.slice none 0 0)).run Tryz.prog w= .ok (.bool a.isNone) w:=fun w a n c=>Lib.run_eql_slice_nil w _ _ a n c 0 0 Tryz.underlying125
 have rg:(mu != 0)=Zae must:=by rw[<-jX];exact Zup must
 obtain⟨need,cn⟩:=Qe (Zae must);rw[cn]at rg;obtain⟨D,hD⟩:=Qe (Zaa l mask);have wT:D.length<=2000:=by rw[<-hD];exact Nat.le_trans (E3 _ _) hl
 have jJ:ZaY l ma=D:=by rw[<-jR,Zp2,hD]
 obtain⟨ids,cC⟩:=Qe (ZaS D);obtain⟨keys,cS⟩:=Qe (ZbE D);have mO:ids.Pairwise (·<·):=by rw[<-cC];exact ZbX _
 have mt:keys.Pairwise (·<·):=by rw[<-cS];exact ZbX _
 have dp:ids.length<=4096:=by
  have h1:=ZfJ (Zcp D);rw[Zid]at h1;have h2:(ZaS D).length<=2*D.length:=h1;rw[cC]at h2;omega
 have fL:keys.length<=100000:=by
  have h1:=ZfJ (D.map Edge.key);rw[F6]at h1;have h2:(ZbE D).length<=D.length:=h1;rw[cS]at h2;omega
 have hne:D≠[]->ids≠[]∧keys≠[]:=by
  intro h;obtain⟨e,m,rfl⟩:=List.exists_cons_of_ne_nil h;have h1:=(Zie (D:=e::m) (e:=e) Fc).1;have h2:=ZgT (D:=e::m) (e:=e) Fc;rw[cC]at h1;rw[cS]at h2;exact⟨fun e2=>(by rw[e2]at h1;cases h1),fun e2=>(by rw[e2]at h2;cases h2)⟩
 obtain⟨q,hq⟩:=Qe (ZcQ ids keys ids.length [] D);obtain⟨ks,ep⟩:∃ks:Int->Int,ks=fun i=>if 0<=i∧i<(ids.length:Int) then Zal (ofA ma q) mu i (Zag ids.length q ma i) (Zy ids.length q ma mu i) need else 0:=⟨_,rfl⟩
 obtain⟨wf,yf⟩:∃wf:Int->List HArc,wf=fun i=>ZN (ofA ma q) mu i (Zag ids.length q ma i) (Zy ids.length q ma mu i) (ks i).toNat i need:=⟨_,rfl⟩
 have nu:∀i:Int,0<=i->i<(ids.length:Int)->ks i=Zal (ofA ma q) mu i (Zag ids.length q ma i) (Zy ids.length q ma mu i) need:=fun i h0 h1=>by rw[ep];exact if_pos ⟨h0,h1⟩
 have nI:∀i:Int,wf i=ZN (ofA ma q) mu i (Zag ids.length q ma i) (Zy ids.length q ma mu i) (ks i).toNat i need:=fun i=>by rw[yf]
 have mA:Zai q->ZaL l mask must=(ZV ks wf ids.length).map (ZdD ids keys)∧∀a∈ZV ks wf ids.length,Zs ids.length a=true∧a.label<(keys.length:Int):=fun hs=>
  ZsL (by omega) ids keys (by rw[hD,cC]) (by rw[hD,cS]) (by rw[hD,hq]) hs ks wf (by rw[jR,jX,cn];exact nu) (fun i h0 h1=>by rw[ep];exact if_neg (fun e=>by omega)) (fun i h1=>by rw[ep];exact if_neg (fun e=>by omega)) (by rw[jR,jX,cn];exact fun i _ _=>nI i)
 obtain⟨doc,eP⟩:=Qe (ZaL l mask must);rw[eP]at mA ⊢;have oI:=Qh (ZuI F wb A c l (hW.upd u0 Qo) (by omega));have m0:∀W,Upd No wb W->W.cell? ⟨w.heap.size,0,none⟩=some (Qi ma):=fun W u=>by have:=(bM.upd u id).cell 0;simpa using this
 have pQ:=Qh (fun(W:Gy) (A:OA) (c:Nat) (u:Upd No wb W) (ho:W.ownsRow wb.heap.size 94 4 (.slice A l.length c) l.length (Zi l))=>jJ▸ZvS W wb.heap.size A c l ⟨w.heap.size,0,none⟩ ma ho (by omega) (m0 W u) (by show w.heap.size<wb.heap.size;omega));have zP:=Qh (fun(W:Gy) (A:OA) (c:Nat) (h:Walk (fun i=>wb.heap.size<=i) W A D)=>cS▸cC▸ZuE _ W A c D h (by omega));have zk:=Qh (fun(W:Gy) (A:OA) (c:Nat) (F0 F1 F2:Gt) (h:Walk F0 W A D) (A1 A2:OA) (c1 c2:Nat) (hA:Ints F1 W A1 ids) (hB:Ints F2 W A2 keys)=>hq▸ZuG F0 F1 F2 W A c D h A1 A2 c1 c2 ids keys hA hB mO mt hne (by omega) dp fL);have ql:=Qh mA;have rr:=Qh nu;have qw:=Qh nI;have U0:=Qh u0;have lO:Upd No wb wb:=Gg _ _;clear hW u0 bM mA nu nI ep yf jJ hD cC cS mO mt hne hq cn eP;go_enter Tryz.func43,Tryz.ntmps43;go_wp2_with fail;refine(oI.out).mono ?_;rintro e w1 ⟨A1,c1,rfl,aW,hu1⟩;have qF:Upd No wb w1:=hu1;go_wp2_with fail;refine(pQ.out w1 A1 c1 qF aW).mono ?_;rintro e w2 ⟨rfl,cH,hu2⟩;have bC:=Qh (hu1.then_ hu2 (fun i e=> .inr (aW.lt i e).1));have dX:=Qh cH;clear hu1 qF hu2 aW cH ah jR jX oI pQ;go_wp2_with fail;refine(zP.out w2 A1 c1 dX.out).mono ?_;rintro e w3 ⟨I1,d1,I2,d2,rfl,hi1,hi2,hu3⟩;have rB:=bC.out.trans hu3;obtain⟨w4,eq⟩:=Qe (w3.alloc (.cells #[.slice I1 ids.length d1,.slice I2 keys.length d2] 120));have u4:Upd No w3 w4:=by rw[<-eq];exact(Gg No w3).alloc _
 have bN:Blk w4 w3.heap.size 120 [.slice I1 ids.length d1,.slice I2 keys.length d2]:=by rw[<-eq];exact Gh w3 _ _
 obtain⟨s0,s1⟩:=bN.c2;have xx:=Qh (hi1.upd u4 Qo);have vH:=Qh (hi2.upd u4 Qo);have iL:=Qh (zk.out w4 A1 c1 _ _ _ (Recs.upd dX.out (hu3.trans u4) Qo) I1 I2 d1 d2 xx.out vH.out);have cN:=Qh (rB.trans u4);have BN:=Qh bN;clear hi1 hi2 hu3 rB u4 bN zP zk bC dX;go_wp2_with fail;refine(iL.out).mono ?_;rintro e w5 ⟨G,g,K,rfl,hK,eX,hu5⟩;have ff:=Qh (cN.out.trans hu5);have Ag:=Qh eX;have hr:=eX.right;have qh:=eX.sorted;have HR:=Qh hr;have vB:=Qh qh;have ww:=Qh (ql.out qh);have M0:∀W,Upd No w5 W->W.cell? ⟨w.heap.size,0,none⟩=some (Qi ma):=fun W u=>m0 W (ff.out.trans u)
 have N0:∀W,Upd No w5 W->W.cell? ⟨w3.heap.size,0,none⟩=some (.slice I1 ids.length d1):=fun W u=>by have:=(BN.out.upd (hu5.trans u) id).cell 0;simpa using this
 have N1:∀W,Upd No w5 W->W.cell? ⟨w3.heap.size,1,none⟩=some (.slice I2 keys.length d2):=fun W u=>by have:=(BN.out.upd (hu5.trans u) id).cell 1;simpa using this
 have Da:=Qh (fun(W:Gy) (u:Upd No w5 W) (a:HArc) (ha:Zs ids.length a=true∧a.label<(keys.length:Int))=>(by
  have h:=(Z0 _ _).1 ha.1;exact ZuH _ _ W I1 I2 d1 d2 ids keys (xx.out.upd (hu5.trans u) Qo) (vH.out.upd (hu5.trans u) Qo) a h.1 h.2.1 h.2.2.1 h.2.2.2.1 h.2.2.2.2.2.2.1 ha.2:CN 74 #[.agg #[.slice I1 ids.length d1,.slice I2 keys.length d2],.agg a.cells.toArray] W (.agg (ZdD ids keys a).cells.toArray)))
 have y9:=Qh (fun(W:Gy) (u:Upd No w5 W) (i:Int)=>Zww W G (some ⟨g,0,none⟩) ids.length K q (eX.no u) (by omega) ma mu i);have z8:=Qh (fun(W:Gy) (u:Upd No w5 W) (B C:OA) (n:Nat) (hn:n<ids.length) (h:LoopI W B C ids.length (Zag ids.length q ma n) (Zy ids.length q ma mu n))=>Zql W G (some ⟨g,0,none⟩) B C ids.length K q (eX.no u) (by omega) ma mu _ _ h (Zne (by omega) hr ma mu (n:Int) (by omega) (by omega)) (n:Int) need);have pU:=Qh (fun(W:Gy) (u:Upd No w5 W) (B C:OA) (n m:Nat) (hn:n<ids.length) (hm:m<=1000000) (h:LoopI W B C ids.length (Zag ids.length q ma n) (Zy ids.length q ma mu n))=>ZvP W G (some ⟨g,0,none⟩) B C ids.length K q (eX.no u) (by omega) ma mu _ _ h (Zne (by omega) hr ma mu (n:Int) (by omega) (by omega)) (n:Int) m hm need);have D0:Upd No w5 w5:=Gg _ _;clear eX hu5 hr qh eq s0 s1 xx vH BN m0 iL cN lO;go_wp2
 go_loopg [11,40] ids.length (fun gk way i wr=>∃(n:Nat) (A5:OA) (c5:Nat) (ws:List HArc),n+gk=ids.length∧i= Qi n∧way= .slice A5 ws.length c5∧Hid (ZV ks wf n=ws)∧Hid (A5=none↔ws=[])∧Hid (ws.length<=1000000)∧
  wr.ownsRow w5.heap.size 132 4 (.slice A5 ws.length c5) ws.length (ZbT ws)∧Upd No w5 wr)
 case atStart=>exact⟨0,none,0,[],by omega,rfl,rfl,Qh rfl,Qh ⟨fun _=>rfl,fun _=>rfl⟩,Qh (by simp),Gf _ _ _ _,Gg _ _⟩
 case round=>
  obtain⟨n,A5,c5,ws,aK,rfl,rfl,mK,oE,wG,ae,hu⟩:=hrel;have i1:(0:Int)<=(n:Int):=Qn _
  by_cases hlt:n<ids.length
  ·have i2:(n:Int)<(ids.length:Int):=by omega
   obtain⟨kk,bG⟩:=Qe (Zal (ofA ma q) mu (n:Int) (Zag ids.length q ma (n:Int)) (Zy ids.length q ma mu (n:Int)) need);obtain⟨wk,rN⟩:=Qe (ZN (ofA ma q) mu (n:Int) (Zag ids.length q ma (n:Int)) (Zy ids.length q ma mu (n:Int)) kk.toNat (n:Int) need);have j4:=Qh (show ks (n:Int)=kk by rw[rr.out _ i1 i2,bG]);have zF:=Qh (show wf (n:Int)=wk by rw[qw.out,j4.out,rN]);have e9:0<=kk∧kk<=1000000:=by rw[<-bG];exact ZqQ (by omega) HR.out ma mu need i1 i2
   have rL:=Qh (fun(h:0<kk)=>(by rw[<-rN,<-bG];exact ZqG HR.out vB.out ma mu need i1 i2 (by rw[bG];exact h):(wk.length:Int)=kk));have xL:=Qh (fun(W:Gy) (u:Upd No w5 W) (B C:OA) (h:LoopI W B C ids.length (Zag ids.length q ma n) (Zy ids.length q ma mu n))=>bG▸z8.out W u B C n hlt h)
   have se:=Qh (fun(W:Gy) (u:Upd No w5 W) (B C:OA) (h:LoopI W B C ids.length (Zag ids.length q ma n) (Zy ids.length q ma mu n))=>(by
    have h2:=pU.out W u B C n kk.toNat hlt (by omega) h;rw[Int.toNat_of_nonneg e9.1,rN]at h2;exact h2:Calls Tryz.prog 73 #[.agg #[.pointer (some ⟨g,0,none⟩),Qi ma,Qi mu,.slice B ids.length ids.length,.slice C ids.length ids.length],Qi n,Qi kk,.bool need] W (ZmF W wk)))
   have sI:=Qh (y9.out wr hu (n:Int));have zl:=Qh e9;clear bG rN e9;go_wp2_with fail;refine(sI.out).mono ?_;rintro e w6 ⟨B,C,rfl,zI,hu6⟩;obtain⟨wl,ix⟩:=Qe (w6.alloc (.cells #[.pointer (some ⟨g,0,none⟩),Qi ma,Qi mu,.slice B ids.length ids.length,.slice C ids.length ids.length] 127));have ul:Upd No w6 wl:=by rw[<-ix];exact(Gg No w6).alloc _
   have bL:Blk wl w6.heap.size 127 [.pointer (some ⟨g,0,none⟩),Qi ma,Qi mu,.slice B ids.length ids.length,.slice C ids.length ids.length]:=by rw[<-ix];exact Gh w6 _ _
   have l0:∀W,Upd No wl W->W.cell? ⟨w6.heap.size,0,none⟩=some (.pointer (some ⟨g,0,none⟩)):=fun W u=>by have:=(bL.upd u id).cell 0;simpa using this
   have l1:∀W,Upd No wl W->W.cell? ⟨w6.heap.size,1,none⟩=some (Qi ma):=fun W u=>by have:=(bL.upd u id).cell 1;simpa using this
   have l2:∀W,Upd No wl W->W.cell? ⟨w6.heap.size,2,none⟩=some (Qi mu):=fun W u=>by have:=(bL.upd u id).cell 2;simpa using this
   have l3:∀W,Upd No wl W->W.cell? ⟨w6.heap.size,3,none⟩=some (.slice B ids.length ids.length):=fun W u=>by have:=(bL.upd u id).cell 3;simpa using this
   have l4:∀W,Upd No wl W->W.cell? ⟨w6.heap.size,4,none⟩=some (.slice C ids.length ids.length):=fun W u=>by have:=(bL.upd u id).cell 4;simpa using this
   have zu:Upd No wl wl:=Gg _ _;have oW:=Qh (zI.upd ul);have nL:=Qh ((hu.trans hu6).trans ul);have zM:=Qh (xL.out wl nL.out B C oW.out);have xG:=Qh (fun(W:Gy) (u:Upd No wl W)=>se.out W (nL.out.trans u) B C (oW.out.upd u));have gd:=Qh (Za ae ((hu6.trans ul)) Qo);clear zI hu6 ul bL sI xL se ae;go_wp2_with fail;refine Ck zM.out fun w8 hu8=>?_;have oR:=Qh (nL.out.trans hu8);have pX:=Qh (Za gd.out hu8 Qo);clear zM gd ix
   by_cases h0:0<kk
   ·have d0:decide (0<kk)=true:=Qt h0
    by_cases hA:A5=none
    ·subst hA;have HZ:=Qh (oE.out.1 rfl);have tJ:=Qh (xG.out w8 hu8);go_wp2_with fail;refine(tJ.out).mono ?_;rintro e w9 ⟨A9,c9,rfl,nJ,aI⟩;have kd:(0:Int)<(wk.length:Int):=by have:=rL.out h0;omega
     have o4:¬A9=none:=fun e=>by
      subst e;rcases nJ.2 with ⟨_,h0⟩|⟨g9,_,_,h0,_⟩
      ·omega
      ·cases h0
     have ir:=Qh (Zz nJ (show w5.heap.size<=w8.heap.size from oR.out.size));have cY:=Qh (oR.out.trans aI)
     have m8:=Qh (show ZV ks wf (n+1)=wk by
      show(if (decide (0<ks (n:Int))&&(ZV ks wf n==[]||decide (ks (n:Int)<((ZV ks wf n).length:Int))))=true then wf (n:Int) else ZV ks wf n)=_
      rw[mK.out,j4.out,zF.out];exact if_pos (by rw[Qt h0,HZ.out];rfl))
     have pV:=Qh (show A9=none↔wk=[] from⟨fun e=>absurd e o4,fun e=>by rw[e]at kd;simp at kd⟩);clear nJ aI kd o4;go_wp2;go_roundg (gk-1);exact⟨n+1,A9,c9,wk,by omega,by go_num,rfl,m8,pV,Qh (by have:=rL.out h0;have:=zl.out.2;omega),ir.out,cY.out⟩;omega
    ·have Cm:A5.isNone=false:=by cases A5 with|none=>exact absurd rfl hA|some _=>rfl
     by_cases hk:kk<(ws.length:Int)
     ·have d1:decide (kk<(ws.length:Int))=true:=Qt hk;have tJ:=Qh (xG.out w8 hu8);go_wp2_with fail;refine(tJ.out).mono ?_;rintro e w9 ⟨A9,c9,rfl,nJ,aI⟩;have kd:(0:Int)<(wk.length:Int):=by have:=rL.out h0;omega
      have o4:¬A9=none:=fun e=>by
       subst e;rcases nJ.2 with ⟨_,h0⟩|⟨g9,_,_,h0,_⟩
       ·omega
       ·cases h0
      have ir:=Qh (Zz nJ (show w5.heap.size<=w8.heap.size from oR.out.size));have cY:=Qh (oR.out.trans aI)
      have m8:=Qh (show ZV ks wf (n+1)=wk by
       show(if (decide (0<ks (n:Int))&&(ZV ks wf n==[]||decide (ks (n:Int)<((ZV ks wf n).length:Int))))=true then wf (n:Int) else ZV ks wf n)=_
       rw[mK.out,j4.out,zF.out];exact if_pos (by rw[Qt h0,Qt hk];simp))
      have pV:=Qh (show A9=none↔wk=[] from⟨fun e=>absurd e o4,fun e=>by rw[e]at kd;simp at kd⟩);clear nJ aI kd o4;go_wp2;go_roundg (gk-1);exact⟨n+1,A9,c9,wk,by omega,by go_num,rfl,m8,pV,Qh (by have:=rL.out h0;have:=zl.out.2;omega),ir.out,cY.out⟩;omega
     ·have d1:decide (kk<(ws.length:Int))=false:=Qf hk
      have m8:=Qh (show ZV ks wf (n+1)=ws by
       show(if (decide (0<ks (n:Int))&&(ZV ks wf n==[]||decide (ks (n:Int)<((ZV ks wf n).length:Int))))=true then wf (n:Int) else ZV ks wf n)=_
       rw[mK.out,j4.out,d0,d1];have oG:¬ws=[]:=fun e=>hA (oE.out.2 e)
       rw[if_neg (by simpa using oG)])
      go_wp2;go_roundg (gk-1);exact⟨n+1,A5,c5,ws,by omega,by go_num,rfl,m8,oE,wG,pX.out,oR.out⟩;omega
   ·have d0:decide (0<kk)=false:=Qf h0
    have m8:=Qh (show ZV ks wf (n+1)=ws by
     show(if (decide (0<ks (n:Int))&&(ZV ks wf n==[]||decide (ks (n:Int)<((ZV ks wf n).length:Int))))=true then wf (n:Int) else ZV ks wf n)=_
     rw[mK.out,j4.out,d0];exact if_neg (by simp))
    go_wp2;go_roundg (gk-1);exact⟨n+1,A5,c5,ws,by omega,by go_num,rfl,m8,oE,wG,pX.out,oR.out⟩;omega
  ·obtain rfl:n=ids.length:=by omega
   have eP:doc=ws.map (ZdD ids keys):=by rw[ww.out.1,mK.out]
   have fQ:∀a∈ws,Zs ids.length a=true∧a.label<(keys.length:Int):=by have:=ww.out.2;rw[mK.out]at this;exact this
   have iH:=Qh eP;have AT:=Qh fQ;have wZ:w.heap.size<=w5.heap.size:=(U0.out.trans ff.out).size;clear eP fQ mK y9 z8 pU ww ql rr qw
   by_cases hA:A5=none
   ·subst hA;have oG:=oE.out.1 rfl;have rD:=Qh (show doc=[] by rw[iH.out,oG];rfl);go_wp2;go_ret2;rw[rD.out];exact⟨none,0,rfl,Gf _ _ _ _,(U0.out.trans ff.out).trans hu⟩
   ·have Cm:A5.isNone=false:=by cases A5 with|none=>exact absurd rfl hA|some _=>rfl
    have oG:¬ws=[]:=fun e=>hA (oE.out.2 e)
    obtain⟨wo,dR⟩:∃wo,wo=wr:=⟨_,rfl⟩;subst dR;have HY:=Qh (Zhc ae);have AC:=Qh (show doc.length=ws.length by rw[iH.out,F6]);have BF:=Qh oG;have fU:=Qh hu;clear ae aK hA oG;go_wp2
    go_loopg [15,76] ws.length (fun gk out i wr=>∃(k:Nat) (A6:OA) (c6:Nat) (xs:List Edge),k+gk=ws.length∧i= Qi k∧out= .slice A6 xs.length c6∧Hid (xs++(ws.drop k).map (ZdD ids keys)=doc)∧Hid (xs.length=k)∧
     wr.ownsRow wo.heap.size 94 4 (.slice A6 xs.length c6) xs.length (Zi xs)∧Upd No wo wr)
    case atStart=>exact⟨0,none,0,[],by omega,rfl,rfl,Qh (by rw[iH.out];rfl),Qh rfl,Gf _ _ _ _,Gg _ _⟩
    case round=>
     obtain⟨k,A6,c6,xs,aK,rfl,rfl,aV,ie,ae,hu2⟩:=hrel
     by_cases hlt:k<ws.length
     ·obtain⟨ax,rfl,q0,q1,q2,q3⟩:=(HY.out.upd hu2 Qo).at_ hlt;obtain⟨x,dE⟩:=Qe (ws[k]);have db:=Ev hlt;have qA:=AT.out _ (Fr hlt);rw[dE]at q0 q1 q2 q3 db qA;have HX:=Qh (show(xs++[ZdD ids keys x])++(ws.drop (k+1)).map (ZdD ids keys)=doc by rw[<-aV.out,db];simp);have i1:(0:Int)<=(k:Int):=Qn _;have i2:(k:Int)<(ws.length:Int):=by omega
      obtain⟨wx,aJ⟩:=Qe (wr.alloc (.cells #[Qi x.f,Qi x.t,Qi x.kind,Qi x.label] 132));have ux:Upd No wr wx:=by rw[<-aJ];exact(Gg No wr).alloc _
      have bo:Blk wx wr.heap.size 132 [Qi x.f,Qi x.t,Qi x.kind,Qi x.label]:=by rw[<-aJ];exact Gh wr _ _
      have mm:Upd No w5 wx:=fU.out.trans (hu2.trans ux);obtain⟨g0,g1,g2,g3⟩:=bo.c4;have HC:=Qh (Da.out wx mm x qA);have HO:=Qh (Za ae ux Qo);have aX:=Qh (hu2.trans ux);have r9:ws.length<=1000000:=wG.out;generalize ZdD ids keys x=y at HC HX;unfold HArc.cells Edge.cells at HC;clear db dE qA ux bo ae aV;go_wp2_with fail;refine Ck HC.out fun w7 hu7=>?_;have ii:=Za HO.out hu7 Qo;have mI:=Qh (aX.out.trans hu7);have Er:=(aX.out.trans hu7).size;have eQ:=Qh (fun i e=>(ii.lt i e).1);have HL:=Qh (Zaf xs);clear hu7 HC HO;go_wp2_with (at_builtin;refine ZX rfl rfl ZQ (v:= .slice A6 xs.length c6) (n:=xs.length) (xs:=Zi xs) (cells:=[Qi y.f,Qi y.t,Qi y.k,Qi y.key]) (by rfl) rfl ii rfl rfl (by have:=ie.out;omega) (by have:=ie.out;omega) (by omega) ?_;intro g8 c8 w8 dN hu8 vy mH);go_roundg (gk-1);exact⟨k+1,some ⟨g8,0,none⟩,c8,xs++[y],by omega,by go_num,by simp,HX,Qh (by rw[Fb,ie.out];rfl),by simpa[Zi,Edge.cells]using dN,mI.out.then_ hu8 fun i e=> .inr (eQ.out i e)⟩;omega
     ·obtain rfl:k=ws.length:=by omega
      have mh:xs=doc:=by have:=aV.out;rw[Fq]at this;simpa using this
      have iW:¬doc.length=0:=by rw[AC.out];exact fun e=>BF.out (Et e)
      have zp:=Qh mh;have Cr:=Qh iW;clear mh iW aV;go_wp2;go_ret2;refine⟨A6,c6,?_,?_,(U0.out.trans ff.out).trans (fU.out.trans hu2)⟩
      ·rw[if_neg Cr.out,<-zp.out];rfl
      ·rw[<-zp.out];exact Zz ae (Nat.le_trans wZ fU.out.size)
/- Closed walks:the answers that the document gives. -/
def ea:Edge:=⟨1,2,1,5⟩
def eb:Edge:=⟨2,1,3,5⟩
section
variable {F:Gt} {w:Gy} {A:OA} {c:Nat} {l d:List Edge} {mask must:Int}
end
/- Closed walks,the document's:edges in order,and their ids. -/
theorem Zgy{w:Gy}{base:Nat}{A:OA}{c:Nat}{l:List Edge}(ho:w.ownsRow base 94 4 (.slice A l.length c) l.length (Zi l)):Walk (Own (.slice A l.length c)) w A l:=
 Recs.of_own (rows:=l.map Edge.cells) Zao (by omega) ho
theorem Zu7(F:Gt)(w:Gy)(A:OA)(c:Nat)(l:List Edge)(h:Walk F w A l)(hl:l.length<=100000):
  Calls Tryz.prog 89 #[.slice A l.length c] w (Zhf w (Zcv [] l)):=by
 have HA:=Qh h;obtain⟨R,hR⟩:=Qe (Zcv [] l);rw[hR];have HR:=Qh hR;clear h hR;go_enter Tryz.func89,Tryz.ntmps89;go_wp2
 go_loopg [3,8] l.length (fun gk s i wr=>∃(k:Nat) (A5:OA) (c5:Nat) (xs:List Edge),k+gk=l.length∧i= Qi k∧s= .slice A5 xs.length c5∧Hid (Zcv xs (l.drop k)=R)∧xs.length<=k∧
  wr.ownsRow w.heap.size 94 4 (.slice A5 xs.length c5) xs.length (Zi xs)∧Upd No w wr)
 case atStart=>exact⟨0,none,0,[],by omega,rfl,rfl,HR,by simp,Gf _ _ _ _,Gg _ _⟩
 case round=>
  obtain⟨k,A5,c5,xs,aK,rfl,rfl,hs,hxl,ae,hu⟩:=hrel
  by_cases hlt:k<l.length
  ·obtain⟨ax,rfl,q0,q1,q2,q3⟩:=(HA.out.upd hu Qo).at_ hlt;obtain⟨x,hx⟩:=Qe (l[k]);have db:=Ev hlt;rw[hx]at q0 q1 q2 q3 db;have HS:=Qh (show Zcv (Zca x xs) (l.drop (k+1))=R by rw[<-hs.out,db];rfl);have i1:(0:Int)<=(k:Int):=Qn _;have i2:(k:Int)<(l.length:Int):=by omega
   have eU:=ZkP x xs;obtain⟨wx,aJ⟩:=Qe (wr.alloc (.cells #[Qi x.f,Qi x.t,Qi x.k,Qi x.key] 94));have ux:Upd No wr wx:=by rw[<-aJ];exact(Gg No wr).alloc _
   have bo:Blk wx wr.heap.size 94 [Qi x.f,Qi x.t,Qi x.k,Qi x.key]:=by rw[<-aJ];exact Gh wr _ _
   obtain⟨g0,g1,g2,g3⟩:=bo.c4;have HC:=Qh (Zrd x xs▸Zvd _ wx A5 c5 xs x (Zgy (Za ae ux Qo)) (by omega));have aX:=Qh (hu.trans ux);unfold Edge.cells at HC;clear hs db hx ux bo ae;go_wp2_with fail;refine(HC.out).mono ?_;rintro e w2 ⟨A6,c6,rfl,gV,hu6⟩;have ec:=Qh (Zz gV aX.out.size);have eu:=Qh (aX.out.trans hu6);clear gV hu6 HC;go_wp2;go_roundg (gk-1);exact⟨k+1,A6,c6,_,by omega,by go_num,rfl,HS,by omega,ec.out,eu.out⟩;omega
  ·obtain rfl:k=l.length:=by omega
   have o6:xs=R:=by have:=hs.out;rw[Fq]at this;exact this
   have tp:=Qh o6;clear o6 hs;go_wp2;go_ret;rw[<-tp.out];exact⟨A5,c5,rfl,ae,hu⟩
theorem Zv8(F:Gt)(w:Gy)(A:OA)(c:Nat)(l:List Edge)(h:Walk F w A l)(hl:l.length<=100000):
  Calls Tryz.prog 91 #[.slice A l.length c] w (Zfn w (Zb6 [] l)):=by
 have HA:=Qh h;obtain⟨R,hR⟩:=Qe (Zb6 [] l);rw[hR];have HR:=Qh hR;clear h hR;go_enter Tryz.func91,Tryz.ntmps91;go_wp2
 go_loopg [3,8] l.length (fun gk s i wr=>∃(k:Nat) (A5:OA) (c5:Nat) (xs:Gv),k+gk=l.length∧i= Qi k∧s= .slice A5 xs.length c5∧Hid (Zb6 xs (l.drop k)=R)∧xs.length<=2*k∧
  wr.ownsRow w.heap.size 3 1 (.slice A5 xs.length c5) xs.length (xs.map (Value.int .i64))∧Upd No w wr)
 case atStart=>exact⟨0,none,0,[],by omega,rfl,rfl,HR,by simp,Gf _ _ _ _,Gg _ _⟩
 case round=>
  obtain⟨k,A5,c5,xs,aK,rfl,rfl,hs,hxl,ae,hu⟩:=hrel
  by_cases hlt:k<l.length
  ·obtain⟨ax,rfl,q0,q1,q2,q3⟩:=(HA.out.upd hu Qo).at_ hlt;obtain⟨x,hx⟩:=Qe (l[k]);have db:=Ev hlt;rw[hx]at q0 q1 q2 q3 db;have HS:=Qh (show Zb6 (Zg x.t (Zg x.f xs)) (l.drop (k+1))=R by rw[<-hs.out,db];rfl);have i1:(0:Int)<=(k:Int):=Qn _;have i2:(k:Int)<(l.length:Int):=by omega
   have cV:=Zq x.f xs;have eE:=Zq x.t (Zg x.f xs);obtain⟨wx,aJ⟩:=Qe (wr.alloc (.cells #[Qi x.f,Qi x.t,Qi x.k,Qi x.key] 94));have ux:Upd No wr wx:=by rw[<-aJ];exact(Gg No wr).alloc _
   have bo:Blk wx wr.heap.size 94 [Qi x.f,Qi x.t,Qi x.k,Qi x.key]:=by rw[<-aJ];exact Gh wr _ _
   have g0:∀W,Upd No wx W->W.cell? ⟨wr.heap.size,0,none⟩=some (Qi x.f):=fun W u=>by have:=(bo.upd u id).cell 0;simpa using this
   have g1:∀W,Upd No wx W->W.cell? ⟨wr.heap.size,1,none⟩=some (Qi x.t):=fun W u=>by have:=(bo.upd u id).cell 1;simpa using this
   have HP:=Qh (fun(W:Gy) (u:Upd No wx W)=>ZlF _ W A5 c5 xs x.f (Ints.of_owned (Za ae (ux.trans u) Qo)) (by omega));have rS:=Qh (fun(W:Gy) (A:OA) (c:Nat) (ho:Ints (fun _=>True) W A (Zg x.f xs))=>ZlF _ W A c (Zg x.f xs) x.t ho (by omega));have aX:=Qh (hu.trans ux);clear hs db hx ux bo ae;go_wp2_with fail;refine wpS (fun W'=>Upd No wx W') ?_ fun jH=>?_
   ·(first|exact(Gg No _).drew|exact jH.trans hu6|exact jH.trans hu8)
   (iterate 3 refine wpF ?_);refine wpK 4 rfl ?_;refine wpK 5 rfl ?_;refine wpZ 3 rfl fun K hK=>?_;go_simp
   (first
  |(go_at_call 96;refine(HP.out _ jH).mono ?_;rintro e w6 ⟨A6,c6,rfl,gV,hu6⟩;have AN:wx.heap.size<=w6.heap.size:=Nat.le_trans (Upd.size jH) hu6.size))
   try (go_wp2_with fail)
   refine hK.out _ _ ?_ fun jH=>?_
   ·(first|exact(Gg No _).drew|exact jH.trans hu6|exact jH.trans hu8)
   try simp only[Qa]
   refine wpZ 6 rfl fun K hK=>?_;go_simp
   (first
  |(go_at_call 96;refine(rS.out _ A6 c6 ((Ints.of_owned gV).weak (fun _ _ _=>trivial))).mono ?_;rintro e w8 ⟨A8,c8,rfl,zG,hu8⟩))
   try (go_wp2_with fail)
   refine hK.out _ _ ?_ fun jH=>?_
   ·(first|exact(Gg No _).drew|exact jH.trans hu6|exact jH.trans hu8)
   try simp only[Qa]
   refine wpK 7 rfl ?_;refine wpD (Gd ?_);have Dm:=Qh (Zz zG (Nat.le_trans aX.out.size AN));have Br:=Qh (aX.out.trans jH);clear zG gV hu6 hu8 jH HP rS;go_wp2;go_roundg (gk-1);exact⟨k+1,A8,c8,_,by omega,by go_num,rfl,HS,by omega,Dm.out,Br.out⟩;omega
  ·obtain rfl:k=l.length:=by omega
   have o6:xs=R:=by have:=hs.out;rw[Fq]at this;exact this
   have tp:=Qh o6;clear o6 hs;go_wp2;go_ret;rw[<-tp.out];exact⟨A5,c5,rfl,ae,hu⟩
/- Closed walks,the document's:the ids from which so many steps lead to one. -/
theorem Zj6:SlT Tryz.prog 151 57 1 24:=SlT.mk_ Tryz.underlying151 (z:= .slice none 0 0) (by kernel_rfl) rfl (by omega)
theorem Zex{a n c i:Nat}(e:Own (.slice (some ⟨a,0,none⟩) n c) i):a=i:=by simpa[Own,Value.ownBlock]using e
def RowOk(F:Gt)(w:Gy)(v:Gz)(l:Gv):Prop:=∃B c,v= .slice B l.length c∧Ints F w B l
theorem RowOk.upd{F S:Gt}{w w':Gy}{v:Gz}{l:Gv}(h:RowOk F w v l)(u:Upd S w w')(hn:∀i,F i->¬S i):RowOk F w' v l:=by
 obtain⟨B,c,e,h⟩:=h;exact⟨B,c,e,h.upd u hn⟩
theorem RowOk.weak{F G:Gt}{w:Gy}{v:Gz}{l:Gv}(h:RowOk F w v l)(hg:∀i,i<w.heap.size->F i->G i):RowOk G w v l:=by
 obtain⟨B,c,e,h⟩:=h;exact⟨B,c,e,h.weak hg⟩
structure RowsOk (F:Nat->Prop) (w:World) (vs:List Value) (f:Nat->List Int):Prop where
 ok:∀(j:Nat) (h:j<vs.length),RowOk F w vs[j] (f j)
theorem RowsOk.upd{F S:Gt}{w w':Gy}{vs:Gl}{f:Nat->Gv}(h:RowsOk F w vs f)(u:Upd S w w')(hn:∀i,F i->¬S i):RowsOk F w' vs f:=⟨fun j hj=>(h.ok j hj).upd u hn⟩
theorem RowsOk.weak{F G:Gt}{w:Gy}{vs:Gl}{f:Nat->Gv}(h:RowsOk F w vs f)(hg:∀i,i<w.heap.size->F i->G i):RowsOk G w vs f:=⟨fun j hj=>(h.ok j hj).weak hg⟩
theorem RowsOk.app{F:Gt}{w:Gy}{vs:Gl}{f:Nat->Gv}{v:Gz}(h:RowsOk F w vs f)(k:RowOk F w v (f vs.length)):RowsOk F w (vs++[v]) f:=⟨fun j hj=>by
 rw[Fb,Ez]at hj
 by_cases h1:j<vs.length
 ·rw[List.getElem_append_left h1];exact h.ok j h1
 ·have h2:j=vs.length:=by omega
  subst h2;rw[List.getElem_append_right (Nat.le_refl _)]
  simpa using k⟩
structure RowsAt (w:World) (A:OA) (n:Nat) (f:Nat->List Int):Prop where
 at_:∀j,j<n->∃ad B c,A=some ad∧w.cell? (ad.add j)=some (.slice B (f j).length c)∧Ints (fun _=>True) w B (f j)
theorem RowsAt.upd{w w':Gy}{A:OA}{n:Nat}{f:Nat->Gv}(h:RowsAt w A n f)(u:Upd No w w'):RowsAt w' A n f:=⟨fun j hj=>by
 obtain⟨ad,B,c,e,h1,h2⟩:=h.at_ j hj;exact⟨ad,B,c,e,u.keepNo h1,h2.upd u Qo⟩⟩
theorem Zen{w:Gy}{base:Nat}{A:OA}{n c:Nat}{vs:Gl}{F:Gt}{f:Nat->Gv}(ho:w.ownsRow base 57 1 (.slice A n c) n vs)(hv:vs.length=n)(h:RowsOk F w vs f):RowsAt w A n f:=⟨fun j hj=>by
 obtain⟨g,cur,rfl,mF,hB,eA,cO,iM,il⟩:=ZjF ho (by omega);obtain⟨B,c',e,hi⟩:=h.ok j (by omega);refine⟨_,B,c',rfl,?_,hi.weak (fun _ _ _=>trivial)⟩;rw[ZjK,Nat.zero_add,hB.cell];have h1:(cur.take (n*1))[j]? =some (.slice B (f j).length c'):=by rw[iM,Qg (by omega),e]
 rw[List.getElem?_take]at h1
 split at h1
 ·exact h1
 ·cases h1⟩
structure BackAt (w:World) (v:Value) (steps:Nat) (f:Nat->List Int×List Int):Prop where
 is_:∃A1 c1 A2 c2,v= .agg #[.slice A1 (steps+1) c1,.slice A2 (steps+1) c2]∧RowsAt w A1 (steps+1) (fun j=>(f j).1)∧RowsAt w A2 (steps+1) (fun j=>(f j).2)
theorem Zj9(must:Int)(l:List Edge)(tgt:Int):∀n,(Zk must l tgt n).1.length<=2*l.length+1∧(Zk must l tgt n).2.length<=2*l.length+1:=by
 have h:∀(pa pn:Gv) (m:List Edge) (a b:Gv),(Zas must pa pn a b m).1.length<=a.length+2*m.length∧(Zas must pa pn a b m).2.length<=b.length+2*m.length:=by
  intro pa pn m
  induction m with
  |nil=>intro a b;simp[Zas]
  |cons e m ih=>
   intro a b;have h1:=ih (Zc2 pa a e) (Zc1 must pa pn b e)
   have h2:(Zc2 pa a e).length<=a.length+1:=by
    unfold Zc2
    split
    ·exact Zq _ _
    ·omega
   have h3:∀x:Gv,(if (decide (e.t∈pa)&&Zl must e.k)=true then Zg e.f x else x).length<=x.length+1:=by
    intro x
    split
    ·exact Zq _ _
    ·omega
   have h4:(Zc1 must pa pn b e).length<=b.length+2:=by
    unfold Zc1;have:=h3 b
    split
    ·have:=Zq e.f (if (decide (e.t∈pa)&&Zl must e.k)=true then Zg e.f b else b);omega
    ·omega
   show(Zas must pa pn (Zc2 pa a e) (Zc1 must pa pn b e) m).1.length<=_∧(Zas must pa pn (Zc2 pa a e) (Zc1 must pa pn b e) m).2.length<=_
   simp only[Fs];omega
 intro n
 cases n with
 |zero=>exact⟨by show[tgt].length<=_;simp,by show([]:Gv).length<=_;simp⟩
 |succ n=>
  have:=h (Zk must l tgt n).1 (Zk must l tgt n).2 l [] [];simp only[Fz]at this
  show(Zas must (Zk must l tgt n).1 (Zk must l tgt n).2 [] [] l).1.length<=_∧(Zas must (Zk must l tgt n).1 (Zk must l tgt n).2 [] [] l).2.length<=_
  omega
/- Closed walks,the document's:the search is walked. -/
def Zeu(g:Nat)(A1 A2:OA):Nat->Prop:=fun i=>(¬Own (.slice A1 0 0) i∧¬Own (.slice A2 0 0) i)∧(i≠g∧g<i+4)
theorem Zap(w:Gy)(F:Gt)(A:OA)(c:Nat)(l:Gv)(a:Int)(h:Ints F w A l)(hl:l.length<=4398046511103){v:Bool}(hv:decide (a∈l)=v):
  CN 94 #[.slice A l.length c,Qi a] w (.bool v):=by
 subst hv;refine(Zsk w F A c l a h hl).mono ?_;rintro e w' ⟨rfl,rfl⟩;exact⟨rfl,Gg _ _⟩
theorem Zby(w:Gy)(mask kind:Int){v:Bool}(hv:Zl mask kind=v):CN 92 #[Qi mask,Qi kind] w (.bool v):=by
 subst hv;exact Zpt w mask kind
theorem ZiF(G:Gt)(base:Nat)(w:Gy)(A:OA)(c:Nat)(l:Gv)(n:Int)(h:Ints G w A l)(hl:l.length<=100000000)(hb:base<=w.heap.size):
  Calls Tryz.prog 96 #[.slice A l.length c,Qi n] w fun e w'=>∃A' c',e= .returned (.slice A' (Zg n l).length c')∧Ints (fun i=>base<=i) w' A' (Zg n l)∧Upd No w w':=by
 refine(ZlF G w A c l n h hl).mono ?_;rintro e w' ⟨A',c',rfl,ho,hu⟩;exact⟨A',c',rfl,(Ints.of_owned ho).weak (fun i _ h=>by omega),hu⟩
theorem Zdf{pa a:Gv}{e:Edge}{c1:Bool}(h1:decide (e.t∈pa)=c1):Zc2 pa a e=if c1=true then Zg e.f a else a:=by subst h1;rfl
theorem Zde{must:Int}{pa pn b:Gv}{e:Edge}{c1 c2 c3:Bool}(h1:decide (e.t∈pa)=c1)(h2:Zl must e.k=c2)(h3:decide (e.t∈pn)=c3):
  Zc1 must pa pn b e=if c3=true then Zg e.f (if (c1&&c2)=true then Zg e.f b else b) else (if (c1&&c2)=true then Zg e.f b else b):=by subst h1 h2 h3;rfl
theorem Zt2(F:Gt)(w:Gy)(A:OA)(c:Nat)(l:List Edge)(must tgt:Int)(steps:Nat)(h:Walk F w A l)(hl:l.length<=10000)(hs:steps<=100000):
  Calls Tryz.prog 93 #[.slice A l.length c,Qi must,Qi tgt,Qi (steps:Int)] w fun e w'=>∃v,e= .returned v∧BackAt w' v steps (Zk must l tgt)∧Upd No w w':=by
 obtain⟨wb,ah⟩:∃wb,((((w.alloc (.cells #[.slice none 0 0,.slice none 0 0] 153)).alloc (.cells #[Qi tgt] 3)).alloc (.cells #[.slice (some ⟨w.heap.size+1,0,none⟩) 1 1] 57)).alloc (.cells #[.slice none 0 0] 57)).alloc
  (.cells #[.slice (some ⟨w.heap.size+1+1,0,none⟩) 1 1,.slice (some ⟨w.heap.size+1+1+1,0,none⟩) 1 1] 153)=wb:=⟨_,rfl⟩
 have u0:Upd No w wb:=by rw[<-ah];exact(((((Gg No w).alloc _).alloc _).alloc _).alloc _).alloc _
 have bR:Blk wb w.heap.size 153 [.slice none 0 0,.slice none 0 0]:=by rw[<-ah];exact((((Gh w _ _).alloc _).alloc _).alloc _).alloc _
 have bX:Blk wb (w.heap.size+1) 3 [Qi tgt]:=by
  rw[<-ah];have:=(((Gh (w.alloc (.cells #[.slice none 0 0,.slice none 0 0] 153)) 3 [Qi tgt]).alloc (.cells #[.slice (some ⟨w.heap.size+1,0,none⟩) 1 1] 57)).alloc (.cells #[.slice none 0 0] 57)).alloc (.cells #[.slice (some ⟨w.heap.size+1+1,0,none⟩) 1 1,.slice (some ⟨w.heap.size+1+1+1,0,none⟩) 1 1] 153)
  simpa using this
 have b1:Blk wb (w.heap.size+1+1) 57 [.slice (some ⟨w.heap.size+1,0,none⟩) 1 1]:=by
  rw[<-ah];have:=((Gh ((w.alloc (.cells #[.slice none 0 0,.slice none 0 0] 153)).alloc (.cells #[Qi tgt] 3)) 57 [.slice (some ⟨w.heap.size+1,0,none⟩) 1 1]).alloc (.cells #[.slice none 0 0] 57)).alloc (.cells #[.slice (some ⟨w.heap.size+1+1,0,none⟩) 1 1,.slice (some ⟨w.heap.size+1+1+1,0,none⟩) 1 1] 153)
  simpa using this
 have b2:Blk wb (w.heap.size+1+1+1) 57 [.slice none 0 0]:=by
  rw[<-ah];have:=(Gh (((w.alloc (.cells #[.slice none 0 0,.slice none 0 0] 153)).alloc (.cells #[Qi tgt] 3)).alloc (.cells #[.slice (some ⟨w.heap.size+1,0,none⟩) 1 1] 57)) 57 [.slice none 0 0]).alloc (.cells #[.slice (some ⟨w.heap.size+1+1,0,none⟩) 1 1,.slice (some ⟨w.heap.size+1+1+1,0,none⟩) 1 1] 153)
  simpa using this
 have bB:Blk wb (w.heap.size+1+1+1+1) 153 [.slice (some ⟨w.heap.size+1+1,0,none⟩) 1 1,.slice (some ⟨w.heap.size+1+1+1,0,none⟩) 1 1]:=by
  rw[<-ah];have:=Gh ((((w.alloc (.cells #[.slice none 0 0,.slice none 0 0] 153)).alloc (.cells #[Qi tgt] 3)).alloc (.cells #[.slice (some ⟨w.heap.size+1,0,none⟩) 1 1] 57)).alloc (.cells #[.slice none 0 0] 57)) 153 [.slice (some ⟨w.heap.size+1+1,0,none⟩) 1 1,.slice (some ⟨w.heap.size+1+1+1,0,none⟩) 1 1]
  simpa using this
 have aW:wb.ownsRow (w.heap.size+1) 57 1 (.slice (some ⟨w.heap.size+1+1,0,none⟩) 1 1) 1 [.slice (some ⟨w.heap.size+1,0,none⟩) 1 1]:=ZdB b1 (by omega) (by omega) rfl rfl (by decide) rfl;have bi:wb.ownsRow (w.heap.size+1) 57 1 (.slice (some ⟨w.heap.size+1+1+1,0,none⟩) 1 1) 1 [.slice none 0 0]:=ZdB b2 (by omega) (by omega) rfl rfl (by decide) rfl
 have yR:RowsOk (Zeu (w.heap.size+1+1+1+1) (some ⟨w.heap.size+1+1,0,none⟩) (some ⟨w.heap.size+1+1+1,0,none⟩)) wb [.slice (some ⟨w.heap.size+1,0,none⟩) 1 1] (fun j=>(Zk must l tgt j).1):=⟨fun j hj=>by
  have:j=0:=by simpa using hj
  subst this;exact⟨_,_,rfl,(Zg9 (xs:=[tgt]) bX).weak (fun i _ e=>⟨⟨fun e2=>by have:=Zex e2;omega,fun e2=>by have:=Zex e2;omega⟩,⟨by omega,by omega⟩⟩)⟩⟩
 have yT:RowsOk (Zeu (w.heap.size+1+1+1+1) (some ⟨w.heap.size+1+1,0,none⟩) (some ⟨w.heap.size+1+1+1,0,none⟩)) wb [.slice none 0 0] (fun j=>(Zk must l tgt j).2):=⟨fun j hj=>by
  have:j=0:=by simpa using hj
  subst this;exact⟨none,0,rfl,fun h=>absurd rfl h⟩⟩
 have HW:=Qh (fun(W:Gy) (u:Upd No w W)=>h.upd u Qo);have f8:=Qh (Zj9 must l tgt);have U0:=Qh u0;have BB:=Qh bB;have BR:=Qh bR;have dW:=Qh aW;have d7:=Qh bi;have jS:=Qh yR;have aP:=Qh yT;clear h u0 bR bX b1 b2 bB aW bi yR yT;go_enter Tryz.func93,Tryz.ntmps93;go_wp2;clear ah
 go_loopg [10] steps (fun gk i wr=>∃(n:Nat) (A1:OA) (c1:Nat) (vs1:Gl) (A2:OA) (c2:Nat) (vs2:Gl),n+gk=steps∧i= Qi ((n:Int)+1)∧Hid (vs1.length=n+1∧vs2.length=n+1)∧
  Hid (Blk wr (w.heap.size+1+1+1+1) 153 [.slice A1 (n+1) c1,.slice A2 (n+1) c2])∧Hid (Blk wr w.heap.size 153 [.slice none 0 0,.slice none 0 0])∧
  Hid (wr.ownsRow (w.heap.size+1) 57 1 (.slice A1 (n+1) c1) (n+1) vs1)∧Hid (wr.ownsRow (w.heap.size+1) 57 1 (.slice A2 (n+1) c2) (n+1) vs2)∧
  Hid (∀i,Own (.slice A1 0 0) i->¬Own (.slice A2 0 0) i∧i≠w.heap.size+1+1+1+1)∧Hid (∀i,Own (.slice A2 0 0) i->i≠w.heap.size+1+1+1+1)∧
  Hid (RowsOk (Zeu (w.heap.size+1+1+1+1) A1 A2) wr vs1 (fun j=>(Zk must l tgt j).1))∧Hid (RowsOk (Zeu (w.heap.size+1+1+1+1) A1 A2) wr vs2 (fun j=>(Zk must l tgt j).2))∧Upd No w wr)
 case atStart=>exact⟨0,_,1,_,_,1,_,by omega,by first|rfl|go_num,Qh ⟨rfl,rfl⟩,BB,BR,dW,d7,Qh (fun i e=>⟨fun e2=>by have:=Zex e;have:=Zex e2;omega,by have:=Zex e;omega⟩),Qh (fun i e=>by have:=Zex e;omega),jS,aP,U0.out⟩
 case round=>
  obtain⟨n,A1,c1,vs1,A2,c2,vs2,aK,rfl,gP,BN,BRR,dW,d7,HD,iF,jS,aP,hu⟩:=hrel;obtain⟨wo,dR⟩:∃wo,wo=wr:=⟨_,rfl⟩;subst dR;obtain⟨g0,e7⟩:∃g0,g0=gk:=⟨_,rfl⟩;subst e7
  by_cases hlt:n<steps
  ·have e0:decide ((n:Int)+1<=(steps:Int))=true:=Qt (by omega);obtain⟨ad1,P,cp,rfl,y1,hP⟩:=(Zen dW.out gP.out.1 jS.out).at_ n (by omega);obtain⟨ad2,Q,cq,rfl,y2,hQ⟩:=(Zen d7.out gP.out.2 aP.out).at_ n (by omega);have cF:=f8.out n;obtain⟨pa,jV⟩:=Qe ((Zk must l tgt n).1);obtain⟨pn,hpn⟩:=Qe ((Zk must l tgt n).2);obtain⟨RR,gh⟩:=Qe (Zk must l tgt (n+1));have o7:Zas must pa pn [] [] l=RR:=by rw[<-gh,<-jV,<-hpn];rfl
   rw[jV]at y1 hP cF;rw[hpn]at y2 hQ cF;have ee:=Qh cF;have zn:=Qh gh;have vY:=Qh o7;have eW:=Qh (fun(W:Gy) (u:Upd No wo W)=>hP.upd u Qo);have CX:=Qh (fun(W:Gy) (u:Upd No wo W)=>hQ.upd u Qo);have i1:(0:Int)<=(n:Int):=Qn _;have i2:(n:Int)<(n:Int)+1:=by omega
   have i4:((n+1:Nat):Int)=(n:Int)+1:=by omega
   have i3:IntKind.i64.wrap ((n:Int)+1-1)=(n:Int):=by rw[show(n:Int)+1-1=(n:Int) by omega];exact IntWalk.i64_in _ (by omega)
   have i5:IntKind.i64.wrap (n:Int)=(n:Int):=IntWalk.i64_in _ (by omega);have BL:=Qh BN.out.lt;have fU:=Qh hu;clear cF jV hpn gh o7 hP hQ;go_wp2
   go_loopg [11,12,27] l.length (fun gj sa sb i wr=>∃(k:Nat) (A5:OA) (c5:Nat) (a:Gv) (A6:OA) (c6:Nat) (b:Gv),k+gj=l.length∧i= Qi k∧sa= .slice A5 a.length c5∧sb= .slice A6 b.length c6∧
    Hid (Zas must pa pn a b (l.drop k)=RR)∧Hid (a.length<=k∧b.length<=2*k)∧Ints (fun i=>wo.heap.size<=i) wr A5 a∧Ints (fun i=>wo.heap.size<=i) wr A6 b∧Upd No wo wr)
   case atStart=>exact⟨0,none,0,[],none,0,[],by omega,rfl,rfl,rfl,vY,Qh ⟨by simp,by simp⟩,fun h=>absurd rfl h,fun h=>absurd rfl h,Gg _ _⟩
   case round=>
    obtain⟨k,A5,c5,a,A6,c6,b,iK,rfl,rfl,rfl,qX,gD,n8,hib,bI⟩:=hrel
    by_cases hk:k<l.length
    ·obtain⟨ax,rfl,q0,q1,q2,q3⟩:=(HW.out wr (fU.out.trans bI)).at_ hk;obtain⟨x,dE⟩:=Qe (l[k]);have db:=Ev hk;rw[dE]at q0 q1 q2 q3 db;have HS:=Qh (show Zas must pa pn (Zc2 pa a x) (Zc1 must pa pn b x) (l.drop (k+1))=RR by rw[<-qX.out,db];rfl);have j1:(0:Int)<=(k:Int):=Qn _;have j2:(k:Int)<(l.length:Int):=by omega
     obtain⟨wx,aJ⟩:=Qe (wr.alloc (.cells #[Qi x.f,Qi x.t,Qi x.k,Qi x.key] 94));have ux:Upd No wr wx:=by rw[<-aJ];exact(Gg No wr).alloc _
     have bo:Blk wx wr.heap.size 94 [Qi x.f,Qi x.t,Qi x.k,Qi x.key]:=by rw[<-aJ];exact Gh wr _ _
     have mm:=bI.trans ux;have bw:=BN.out.upd mm id;have g0':∀W,Upd No wx W->W.cell? ⟨wr.heap.size,0,none⟩=some (Qi x.f):=fun W u=>by have:=(bo.upd u id).cell 0;simpa using this
     have g1:∀W,Upd No wx W->W.cell? ⟨wr.heap.size,1,none⟩=some (Qi x.t):=fun W u=>by have:=(bo.upd u id).cell 1;simpa using this
     have g2:∀W,Upd No wx W->W.cell? ⟨wr.heap.size,2,none⟩=some (Qi x.k):=fun W u=>by have:=(bo.upd u id).cell 2;simpa using this
     have k0:∀W,Upd No wx W->W.cell? ⟨w.heap.size+1+1+1+1,0,none⟩=some (.slice (some ad1) (n+1) c1):=fun W u=>by have:=(bw.upd u id).cell 0;simpa using this
     have k1:∀W,Upd No wx W->W.cell? ⟨w.heap.size+1+1+1+1,1,none⟩=some (.slice (some ad2) (n+1) c2):=fun W u=>by have:=(bw.upd u id).cell 1;simpa using this
     have r1:∀W,Upd No wx W->W.cell? (ad1.add n)=some (.slice P pa.length cp):=fun W u=>(mm.trans u).keepNo y1
     have r2:∀W,Upd No wx W->W.cell? (ad2.add n)=some (.slice Q pn.length cq):=fun W u=>(mm.trans u).keepNo y2
     have HQ:=Qh (fun(W:Gy) (u:Upd No wx W)=>CX.out W (mm.trans u));have df:=Qh mm;have xM:Upd No wx wx:=Gg _ _;have zd:=Qh (n8.upd ux Qo);have wA:=Qh (hib.upd ux Qo);have mE:=Qh (fun(W:Gy) (v:Bool) (hv:Zl must x.k=v)=>Zby W must x.k hv);clear db dE ux bo bw n8 hib mm
     cases hta:decide (x.t∈pa)
     ·have mN:=Qh (fun(W:Gy) (u:Upd No wx W)=>Zap W _ P cp pa x.t (eW.out W (df.out.trans u)) (by have:=ee.out;omega) hta);have iI:=Qh hta;obtain⟨bk,rz⟩:=Qe (Zl must x.k);have eG:=Qh rz;clear rz;clear hta;go_wp2;clear aJ q0 q1 q2 q3;refine wpS (fun W'=>Upd No wx W') ?_ fun jH=>?_
      ·(first|exact(Gg No _).drew|exact jH.trans hu4)
      (iterate 8 refine wpF ?_);refine wpZ 8 rfl fun K hK=>?_;go_simp
      (first
  |(go_at_call 94;refine Ck (mN.out _ jH) fun w4 hu4=>?_))
      try (go_wp2_with fail)
      refine hK.out _ _ ?_ fun jH=>?_
      ·(first|exact(Gg No _).drew|exact jH.trans hu4)
      try simp only[Qa]
      refine wpD (Gd ?_);have H4:=Qh jH;have yh:=Qh (zd.out.upd H4.out Qo);have kM:=Qh (wA.out.upd H4.out Qo);have dA:=jH;clear jH hu4
      cases htn:decide (x.t∈pn)
      ·have dQ:=Qh (fun(W:Gy) (u:Upd No wx W)=>Zap W _ Q cq pn x.t (HQ.out W u) (by have:=ee.out;omega) htn);have aD:=Qh (show Zas must pa pn a b (l.drop (k+1))=RR by have:=HS.out;rw[Zdf iI.out,Zde iI.out eG.out htn]at this;exact this);clear htn;go_wp2;refine wpS (fun W'=>Upd No wx W') ?_ fun jH=>?_
       ·(first|exact(Upd.drew H4.out)|exact jH.trans aI)
       (iterate 8 refine wpF ?_);refine wpZ 8 rfl fun K hK=>?_;go_simp
       (first
  |(go_at_call 94;refine Ck (dQ.out _ jH) fun w9 aI=>?_;have bD:Upd No w4 w9:=Upd.of_drew aI))
       try (go_wp2_with fail)
       refine hK.out _ _ ?_ fun jH=>?_
       ·(first|exact(Upd.drew H4.out)|exact jH.trans aI)
       try simp only[Qa]
       refine wpD (Gd ?_);have cY:=Qh jH;have dV:=Qh (Ints.upd yh.out bD Qo);have jG:=Qh (Ints.upd kM.out bD Qo);clear jH aI bD;go_wp2;go_roundg (gk-1);exact⟨k+1,A5,c5,a,A6,c6,b,by omega,by go_num,rfl,rfl,aD,Qh (by have:=gD.out;have:=Zq x.f a;have:=Zq x.f b;refine⟨?_,?_⟩<;>omega),dV.out,jG.out,df.out.trans cY.out⟩;omega
      ·have dQ:=Qh (fun(W:Gy) (u:Upd No wx W)=>Zap W _ Q cq pn x.t (HQ.out W u) (by have:=ee.out;omega) htn);have aD:=Qh (show Zas must pa pn a (Zg x.f b) (l.drop (k+1))=RR by have:=HS.out;rw[Zdf iI.out,Zde iI.out eG.out htn]at this;exact this);have np:=Qh (fun(W:Gy) (u:Upd No w4 W)=>ZiF _ wo.heap.size W A6 c6 b x.f (Ints.upd kM.out u Qo) (by have:=gD.out;have:=Zq x.f b;omega) (Nat.le_trans df.out.size (Nat.le_trans (Upd.size H4.out) u.size)));clear htn;go_wp2;refine wpS (fun W'=>Upd No wx W') ?_ fun jH=>?_
       ·(first|exact(Upd.drew H4.out)|exact jH.trans aI)
       (iterate 8 refine wpF ?_);refine wpZ 8 rfl fun K hK=>?_;go_simp
       (first
  |(go_at_call 94;refine Ck (dQ.out _ jH) fun w9 aI=>?_;have bD:Upd No w4 w9:=Upd.of_drew aI))
       try (go_wp2_with fail)
       refine hK.out _ _ ?_ fun jH=>?_
       ·(first|exact(Upd.drew H4.out)|exact jH.trans aI)
       try simp only[Qa]
       refine wpD (Gd ?_);have cY:=Qh jH;have dV:=Qh (Ints.upd yh.out bD Qo);have qV:=jH;clear jH aI;go_wp2_with fail;refine(np.out w9 bD).mono ?_;rintro e w10 ⟨A10,c10,rfl,fz,dS⟩;have fJ:=Qh (dV.out.upd dS Qo);have fg:=Qh fz;have jm:=Qh (cY.out.trans dS);clear fz dS qV;go_wp2;go_roundg (gk-1);exact⟨k+1,A5,c5,a,A10,c10,Zg x.f b,by omega,by go_num,rfl,rfl,aD,Qh (by have:=gD.out;have:=Zq x.f a;have:=Zq x.f b;have:=Zq x.f b;refine⟨?_,?_⟩<;>omega),fJ.out,fg.out,df.out.trans jm.out⟩;omega
     ·have mN:=Qh (fun(W:Gy) (u:Upd No wx W)=>Zap W _ P cp pa x.t (eW.out W (df.out.trans u)) (by have:=ee.out;omega) hta);have oQ:=Qh (fun(W:Gy) (u:Upd No wx W)=>ZiF _ wo.heap.size W A5 c5 a x.f (zd.out.upd u Qo) (by have:=gD.out;omega) (Nat.le_trans df.out.size u.size));have Bt:=Qh (fun(W:Gy) (u:Upd No wx W)=>ZiF _ wo.heap.size W A6 c6 b x.f (wA.out.upd u Qo) (by have:=gD.out;omega) (Nat.le_trans df.out.size u.size));have iI:=Qh hta;clear hta;go_wp2;clear aJ q0 q1 q2 q3;refine wpS (fun W'=>Upd No wx W') ?_ fun jH=>?_
      ·(first|exact(Gg No _).drew|exact jH.trans hu4)
      (iterate 8 refine wpF ?_);refine wpZ 8 rfl fun K hK=>?_;go_simp
      (first
  |(go_at_call 94;refine Ck (mN.out _ jH) fun w4 hu4=>?_))
      try (go_wp2_with fail)
      refine hK.out _ _ ?_ fun jH=>?_
      ·(first|exact(Gg No _).drew|exact jH.trans hu4)
      try simp only[Qa]
      refine wpD (Gd ?_);have dA:Upd No wx w4:=jH;clear jH hu4;go_wp2_with fail;refine(oQ.out w4 dA).mono ?_;rintro e w5 ⟨A7,c7,rfl,sD,hu5⟩;have nM:=dA.trans hu5
      cases hbk:Zl must x.k
      ·have fE:=Qh (mE.out w5 false hbk);have eG:=Qh hbk;clear hbk;go_wp2_with fail;refine Ck fE.out fun w6 hu6=>?_;have oA:=nM.trans hu6;have H6:=Qh oA;have yX:=Qh (sD.upd hu6 Qo);have hb6:=Qh (wA.out.upd oA Qo);clear sD hu5 hu6 dA nM
       cases htn:decide (x.t∈pn)
       ·have dQ:=Qh (fun(W:Gy) (u:Upd No wx W)=>Zap W _ Q cq pn x.t (HQ.out W u) (by have:=ee.out;omega) htn);have aD:=Qh (show Zas must pa pn (Zg x.f a) b (l.drop (k+1))=RR by have:=HS.out;rw[Zdf iI.out,Zde iI.out eG.out htn]at this;exact this);clear htn;go_wp2;refine wpS (fun W'=>Upd No wx W') ?_ fun jH=>?_
        ·(first|exact(Upd.drew H6.out)|exact jH.trans aI)
        (iterate 8 refine wpF ?_);refine wpZ 8 rfl fun K hK=>?_;go_simp
        (first
  |(go_at_call 94;refine Ck (dQ.out _ jH) fun w9 aI=>?_;have bD:Upd No w6 w9:=Upd.of_drew aI))
        try (go_wp2_with fail)
        refine hK.out _ _ ?_ fun jH=>?_
        ·(first|exact(Upd.drew H6.out)|exact jH.trans aI)
        try simp only[Qa]
        refine wpD (Gd ?_);have cY:=Qh jH;have dV:=Qh (Ints.upd yX.out bD Qo);have jG:=Qh (Ints.upd hb6.out bD Qo);clear jH aI bD;go_wp2;go_roundg (gk-1);exact⟨k+1,A7,c7,(Zg x.f a),A6,c6,b,by omega,by go_num,rfl,rfl,aD,Qh (by have:=gD.out;have:=Zq x.f a;have:=Zq x.f b;refine⟨?_,?_⟩<;>omega),dV.out,jG.out,df.out.trans cY.out⟩;omega
       ·have dQ:=Qh (fun(W:Gy) (u:Upd No wx W)=>Zap W _ Q cq pn x.t (HQ.out W u) (by have:=ee.out;omega) htn);have aD:=Qh (show Zas must pa pn (Zg x.f a) (Zg x.f b) (l.drop (k+1))=RR by have:=HS.out;rw[Zdf iI.out,Zde iI.out eG.out htn]at this;exact this);have np:=Qh (fun(W:Gy) (u:Upd No w6 W)=>ZiF _ wo.heap.size W A6 c6 b x.f (Ints.upd hb6.out u Qo) (by have:=gD.out;have:=Zq x.f b;omega) (Nat.le_trans df.out.size (Nat.le_trans (Upd.size H6.out) u.size)));clear htn;go_wp2;refine wpS (fun W'=>Upd No wx W') ?_ fun jH=>?_
        ·(first|exact(Upd.drew H6.out)|exact jH.trans aI)
        (iterate 8 refine wpF ?_);refine wpZ 8 rfl fun K hK=>?_;go_simp
        (first
  |(go_at_call 94;refine Ck (dQ.out _ jH) fun w9 aI=>?_;have bD:Upd No w6 w9:=Upd.of_drew aI))
        try (go_wp2_with fail)
        refine hK.out _ _ ?_ fun jH=>?_
        ·(first|exact(Upd.drew H6.out)|exact jH.trans aI)
        try simp only[Qa]
        refine wpD (Gd ?_);have cY:=Qh jH;have dV:=Qh (Ints.upd yX.out bD Qo);have qV:=jH;clear jH aI;go_wp2_with fail;refine(np.out w9 bD).mono ?_;rintro e w10 ⟨A10,c10,rfl,fz,dS⟩;have fJ:=Qh (dV.out.upd dS Qo);have fg:=Qh fz;have jm:=Qh (cY.out.trans dS);clear fz dS qV;go_wp2;go_roundg (gk-1);exact⟨k+1,A7,c7,(Zg x.f a),A10,c10,Zg x.f b,by omega,by go_num,rfl,rfl,aD,Qh (by have:=gD.out;have:=Zq x.f a;have:=Zq x.f b;have:=Zq x.f b;refine⟨?_,?_⟩<;>omega),fJ.out,fg.out,df.out.trans jm.out⟩;omega
      ·have fE:=Qh (mE.out w5 true hbk);have eG:=Qh hbk;clear hbk;go_wp2_with fail;refine Ck fE.out fun w6 hu6=>?_;have oA:=nM.trans hu6;go_wp2_with fail;refine(Bt.out w6 oA).mono ?_;rintro e w7 ⟨A8,c8,rfl,yH,hu7⟩;have Dy:=oA.trans hu7;have H7:=Qh Dy;have zw:=Qh (sD.upd (hu6.trans hu7) Qo);have fh:=Qh yH;clear sD yH hu5 hu6 hu7 dA nM oA
       cases htn:decide (x.t∈pn)
       ·have dQ:=Qh (fun(W:Gy) (u:Upd No wx W)=>Zap W _ Q cq pn x.t (HQ.out W u) (by have:=ee.out;omega) htn);have aD:=Qh (show Zas must pa pn (Zg x.f a) (Zg x.f b) (l.drop (k+1))=RR by have:=HS.out;rw[Zdf iI.out,Zde iI.out eG.out htn]at this;exact this);clear htn;go_wp2;refine wpS (fun W'=>Upd No wx W') ?_ fun jH=>?_
        ·(first|exact(Upd.drew H7.out)|exact jH.trans aI)
        (iterate 8 refine wpF ?_);refine wpZ 8 rfl fun K hK=>?_;go_simp
        (first
  |(go_at_call 94;refine Ck (dQ.out _ jH) fun w9 aI=>?_;have bD:Upd No w7 w9:=Upd.of_drew aI))
        try (go_wp2_with fail)
        refine hK.out _ _ ?_ fun jH=>?_
        ·(first|exact(Upd.drew H7.out)|exact jH.trans aI)
        try simp only[Qa]
        refine wpD (Gd ?_);have cY:=Qh jH;have dV:=Qh (Ints.upd zw.out bD Qo);have jG:=Qh (Ints.upd fh.out bD Qo);clear jH aI bD;go_wp2;go_roundg (gk-1);exact⟨k+1,A7,c7,(Zg x.f a),A8,c8,(Zg x.f b),by omega,by go_num,rfl,rfl,aD,Qh (by have:=gD.out;have:=Zq x.f a;have:=Zq x.f b;refine⟨?_,?_⟩<;>omega),dV.out,jG.out,df.out.trans cY.out⟩;omega
       ·have dQ:=Qh (fun(W:Gy) (u:Upd No wx W)=>Zap W _ Q cq pn x.t (HQ.out W u) (by have:=ee.out;omega) htn);have aD:=Qh (show Zas must pa pn (Zg x.f a) (Zg x.f (Zg x.f b)) (l.drop (k+1))=RR by have:=HS.out;rw[Zdf iI.out,Zde iI.out eG.out htn]at this;exact this);have np:=Qh (fun(W:Gy) (u:Upd No w7 W)=>ZiF _ wo.heap.size W A8 c8 (Zg x.f b) x.f (Ints.upd fh.out u Qo) (by have:=gD.out;have:=Zq x.f b;omega) (Nat.le_trans df.out.size (Nat.le_trans (Upd.size H7.out) u.size)));clear htn;go_wp2;refine wpS (fun W'=>Upd No wx W') ?_ fun jH=>?_
        ·(first|exact(Upd.drew H7.out)|exact jH.trans aI)
        (iterate 8 refine wpF ?_);refine wpZ 8 rfl fun K hK=>?_;go_simp
        (first
  |(go_at_call 94;refine Ck (dQ.out _ jH) fun w9 aI=>?_;have bD:Upd No w7 w9:=Upd.of_drew aI))
        try (go_wp2_with fail)
        refine hK.out _ _ ?_ fun jH=>?_
        ·(first|exact(Upd.drew H7.out)|exact jH.trans aI)
        try simp only[Qa]
        refine wpD (Gd ?_);have cY:=Qh jH;have dV:=Qh (Ints.upd zw.out bD Qo);have qV:=jH;clear jH aI;go_wp2_with fail;refine(np.out w9 bD).mono ?_;rintro e w10 ⟨A10,c10,rfl,fz,dS⟩;have fJ:=Qh (dV.out.upd dS Qo);have fg:=Qh fz;have jm:=Qh (cY.out.trans dS);clear fz dS qV;go_wp2;go_roundg (gk-1);exact⟨k+1,A7,c7,(Zg x.f a),A10,c10,Zg x.f (Zg x.f b),by omega,by go_num,rfl,rfl,aD,Qh (by have:=gD.out;have:=Zq x.f a;have:=Zq x.f b;have:=Zq x.f (Zg x.f b);refine⟨?_,?_⟩<;>omega),fJ.out,fg.out,df.out.trans jm.out⟩;omega
    ·obtain rfl:k=l.length:=by omega
     have tW:(a,b)=RR:=by have:=qX.out;rw[Fq]at this;exact this
     have pm:(Zk must l tgt (n+1)).1=a:=by rw[zn.out,<-tW]
     have pc:(Zk must l tgt (n+1)).2=b:=by rw[zn.out,<-tW]
     have qY:=Qh pm;have qy:=Qh pc;obtain⟨we,Cn⟩:∃we,we=wr:=⟨_,rfl⟩;subst Cn;have kh:∀i,Own (.slice (some ad1) (n+1) c1) i->w.heap.size+1<=i∧i<wo.heap.size:=fun i e=>dW.out.lt i e
     have vW:∀i,Own (.slice (some ad2) (n+1) c2) i->w.heap.size+1<=i∧i<wo.heap.size:=fun i e=>d7.out.lt i e
     have Au:=bI.size;have BNe:=Qh (BN.out.upd bI id);have BRe:=Qh (BRR.out.upd bI id);have vq:=Qh (Za dW.out bI Qo);have wW:=Qh (Za d7.out bI Qo);have tt:=Qh (RowsOk.weak (G:=fun i=>Zeu (w.heap.size+1+1+1+1) (some ad1) (some ad2) i∧i<we.heap.size) (jS.out.upd bI Qo) (fun i hi h=>⟨h,hi⟩));have tC:=Qh (RowsOk.weak (G:=fun i=>Zeu (w.heap.size+1+1+1+1) (some ad1) (some ad2) i∧i<we.heap.size) (aP.out.upd bI Qo) (fun i hi h=>⟨h,hi⟩))
     have hF:∀i,i<we.heap.size->wo.heap.size<=i->Zeu (w.heap.size+1+1+1+1) (some ad1) (some ad2) i∧i<we.heap.size:=fun i hi h=>
      ⟨⟨⟨fun e=>by have:=(kh i (Zb e)).2;omega,fun e=>by have:=(vW i (Zb e)).2;omega⟩,⟨by have:=BL.out;omega,by have:=BL.out;omega⟩⟩,hi⟩
     have sm:=Qh (n8.weak hF);have b8:=Qh (hib.weak hF);have AJ:=Qh (fU.out.trans bI);have aU:=Qh kh;have bU:=Qh vW;obtain⟨c0,c1'⟩:=BNe.out.c2;clear tW pm pc kh vW hF n8 hib bI y1 y2
     go_wp2_with (at_builtin;(first
      |(refine Zgk rfl rfl Zj6 (v:= .slice (some ad1) (n+1) c1) (n:=n+1) (m:=1) (xs:=vs1) (news:=[.slice A5 a.length c5]) rfl rfl (Za vq.out ((Gg No _).alloc _) Qo) (Zhg rfl rfl) (by simp[Value.oneCell']) (by omega) (by omega) (by have:=BNe.out.lt;simp;omega) ?_
        intro v4 w4 ar hu4 cQ;obtain⟨A4,c4,rfl⟩:=ZaQ ar;have U4:Upd (Own (.slice (some ad1) (n+1) c1)) we w4:=((Gg _ we).alloc _).trans hu4;have rF:=U4.size;have bN4:=BNe.out.upd U4 (fun e=>(HD.out _ (Zb e)).2 rfl);have nn:=Qh (BRe.out.upd U4 (fun e=>by have:=(aU.out _ e).1;omega));have dy:=Qh (Za wW.out U4 (fun i e e2=>(HD.out i (Zb e2)).1 (Zb e)));have wE:=Qh (tt.out.upd U4 (fun i h e=>h.1.1.1 (Zb e)));have uw:=Qh (tC.out.upd U4 (fun i h e=>h.1.1.1 (Zb e)));have Bq:=Qh (sm.out.upd U4 (fun i h e=>h.1.1.1 (Zb e)));have Dh:=Qh (b8.out.upd U4 (fun i h e=>h.1.1.1 (Zb e)));have cN:=Qh (AJ.out.then_ U4 (fun i e=> .inr (by have:=(aU.out i e).1;omega)))
        have iL:=Qh (fun i (e:Own (.slice A4 (n+1+1) c4) i)=>(show(w.heap.size+1<=i∧i<w4.heap.size)∧(Own (.slice (some ad1) 0 0) i∨we.heap.size<=i) from⟨ar.lt i e,by
         rcases cQ with e3|⟨j,e3,e4⟩
         ·exact .inl (Zb (n:=n+1) (c:=c1) (by unfold Own at e ⊢;rw[<-e3];exact e))
         ·have:i=j:=by unfold Own at e;rw[e3]at e;injection e with e;exact e.symm
          simp at e4;exact .inr (by omega)⟩))
        obtain⟨k0,k1⟩:=bN4.c2;have fr0:=bN4.free 0;have sz:=Qh bN4;have ej:=Qh ar;clear bN4 U4 hu4 cQ ar c0 c1')
      |(refine Zgk rfl rfl Zj6 (v:= .slice (some ad2) (n+1) c2) (n:=n+1) (m:=1) (xs:=vs2) (news:=[.slice A6 b.length c6]) rfl rfl (Za (Za dy.out ((Gg (One (w.heap.size+1+1+1+1)) w4).setOne 0 _) (fun i e e2=>iF.out i (Zb e) e2)) ((Gg No _).alloc _) Qo) (Zhg (by simp) rfl) (by simp[Value.oneCell']) (by omega) (by omega) (by have:=sz.out.lt;simp;omega) ?_
        intro v6 w6 av hu6 dC;obtain⟨A7,c7,rfl⟩:=ZaQ av;have U5:=(Gg (One (w.heap.size+1+1+1+1)) w4).setOne 0 (.slice A4 (n+1+1) c4);have U6:Upd (Own (.slice (some ad2) (n+1) c2)) (w4.setCell ⟨w.heap.size+1+1+1+1,0,none⟩ (.slice A4 (n+1+1) c4)) w6:=((Gg _ _).alloc _).trans hu6;have vX:=U6.size;simp only[World.size_setCell]at vX;have bN6:=(sz.out.set_ 0 (.slice A4 (n+1+1) c4)).upd U6 (fun e=>iF.out _ (Zb e) rfl);have mC:=Qh ((nn.out.upd U5 (by unfold One;omega)).upd U6 (fun e=>by have:=(bU.out _ e).1;omega));have fZ:=fun i (e:Own (.slice A4 (n+1+1) c4) i)=>(show¬Own (.slice (some ad2) 0 0) i∧i≠w.heap.size+1+1+1+1 from(iL.out i e).2.elim (fun h=>HD.out i h) (fun h=>⟨fun e2=>by have:=(bU.out i (Zb e2)).2;omega,by have:=BL.out;omega⟩))
        have cL:=Qh (Za (Za ej.out U5 (fun i e e2=>(fZ i e).2 e2)) U6 (fun i e e2=>(fZ i e).1 (Zb e2)));have sN:=Qh ((wE.out.upd U5 (fun i h e=>h.1.2.1 e)).upd U6 (fun i h e=>h.1.1.2 (Zb e)));have wP:=Qh ((uw.out.upd U5 (fun i h e=>h.1.2.1 e)).upd U6 (fun i h e=>h.1.1.2 (Zb e)));have sI:=Qh ((Bq.out.upd U5 (fun i h e=>h.1.2.1 e)).upd U6 (fun i h e=>h.1.1.2 (Zb e)));have fE:=Qh ((Dh.out.upd U5 (fun i h e=>h.1.2.1 e)).upd U6 (fun i h e=>h.1.1.2 (Zb e)));have eu:=Qh ((cN.out.then_ U5 (fun i e=> .inr (by unfold One at e;omega))).then_ U6 (fun i e=> .inr (by have:=(bU.out i e).1;omega)))
        have dr:=Qh (fun i (e:Own (.slice A7 (n+1+1) c7) i)=>(show Own (.slice (some ad2) 0 0) i∨w4.heap.size<=i from by
         rcases dC with e3|⟨j,e3,e4⟩
         ·exact .inl (Zb (n:=n+1) (c:=c2) (by unfold Own at e ⊢;rw[<-e3];exact e))
         ·have:i=j:=by unfold Own at e;rw[e3]at e;injection e with e;exact e.symm
          simp at e4;exact .inr (by omega)))
        have mR:=Qh fZ;have k0:=bN6.cell 0;have k1:=bN6.cell 1;have fr1:=bN6.free 1;simp only[List.set_cons_zero,Qz,Qs]at k0 k1;have uY:=Qh bN6;have cM:=Qh av;clear bN6 U6 U5 hu6 dC av fZ)))
     go_roundg (g0-1)
     case measure=>omega
     case rel=>
      have U7:=(Gg (One (w.heap.size+1+1+1+1)) w6).setOne 1 (.slice A7 (n+1+1) c7);have b7:=uY.out.set_ 1 (.slice A7 (n+1+1) c7);simp only[List.set_cons_zero,List.set_cons_succ]at b7;have zt:∀i,Own (.slice A7 0 0) i->i≠w.heap.size+1+1+1+1:=fun i e=>(dr.out i (Zb e)).elim (fun h=>iF.out i h) (fun h=>by have:=BL.out;omega)
      have Dk:∀i,Own (.slice A4 0 0) i->¬Own (.slice A7 0 0) i:=fun i e e2=>(dr.out i (Zb e2)).elim (fun h=>(mR.out i (Zb e)).1 h) (fun h=>by have:=(iL.out i (Zb e)).1.2;omega)
      have yl:∀i,Zeu (w.heap.size+1+1+1+1) (some ad1) (some ad2) i∧i<we.heap.size->Zeu (w.heap.size+1+1+1+1) A4 A7 i:=fun i h=>
       ⟨⟨fun e=>(iL.out i (Zb e)).2.elim (fun e2=>h.1.1.1 e2) (fun e2=>by omega),fun e=>(dr.out i (Zb e)).elim (fun e2=>h.1.1.2 e2) (fun e2=>by omega)⟩,h.1.2⟩
      refine⟨n+1,A4,c4,vs1++[.slice A5 a.length c5],A7,c7,vs2++[.slice A6 b.length c6],by omega,by go_num,Qh ⟨by rw[Fb,gP.out.1];rfl,by rw[Fb,gP.out.2];rfl⟩,Qh b7,Qh (mC.out.upd U7 (by unfold One;omega)),Qh (Za cL.out U7 (fun i e e2=>(mR.out i e).2 e2)),Qh (Za cM.out U7 (fun i e e2=>zt i (Zb e) e2)),Qh (fun i e=>⟨Dk i e,(mR.out i (Zb e)).2⟩),Qh zt,Qh ?_,Qh ?_,eu.out.then_ U7 (fun i e=> .inr (by unfold One at e;omega))⟩
      ·refine(RowsOk.weak (RowsOk.app (sN.out.upd U7 (fun i h e=>h.1.2.1 e)) ⟨A5,c5,?_,?_⟩) (fun i _ h=>yl i h))
       ·rw[gP.out.1,qY.out]
       ·simp only[gP.out.1,qY.out];exact sI.out.upd U7 (fun i h e=>h.1.2.1 e)
      ·refine(RowsOk.weak (RowsOk.app (wP.out.upd U7 (fun i h e=>h.1.2.1 e)) ⟨A6,c6,?_,?_⟩) (fun i _ h=>yl i h))
       ·rw[gP.out.2,qy.out]
       ·simp only[gP.out.2,qy.out];exact fE.out.upd U7 (fun i h e=>h.1.2.1 e)
  ·obtain rfl:n=steps:=by omega
   have e0:decide ((n:Int)+1<=(n:Int))=false:=Qf (by omega);obtain⟨m0,m1⟩:=BN.out.c2;obtain⟨s0,s1⟩:=BRR.out.c2;obtain⟨t0,t1⟩:=BRR.out.f2;have HU:=Qh hu;clear hu;go_wp2;have b9:=(BRR.out.set_ 0 (.slice A1 (n+1) c1)).set_ 1 (.slice A2 (n+1) c2);simp only[List.set_cons_zero,List.set_cons_succ]at b9;have US:=((Gg (One w.heap.size) wo).setOne 0 (.slice A1 (n+1) c1)).setOne 1 (.slice A2 (n+1) c2);have co:∀i,Own (.slice A1 (n+1) c1) i->¬One w.heap.size i:=fun i e e2=>by have:=(dW.out.lt i e).1;unfold One at e2;omega
   have aN:∀i,Own (.slice A2 (n+1) c2) i->¬One w.heap.size i:=fun i e e2=>by have:=(d7.out.lt i e).1;unfold One at e2;omega
   refine bodyPost_ret (results_cell_row (p:=8) rfl _ _ _ _ _ _ _ rfl b9 Tryz.underlying153 rfl (by kernel_rfl)) rfl ⟨_,rfl,⟨A1,c1,A2,c2,rfl,?_,?_⟩,HU.out.then_ US fun k e=> .inr (by unfold One at e;omega)⟩
   ·exact Zen (Za dW.out US co) gP.out.1 (jS.out.upd US (fun i h e=>by have:=h.2.2;unfold One at e;omega))
   ·exact Zen (Za d7.out US aN) gP.out.2 (aP.out.upd US (fun i h e=>by have:=h.2.2;unfold One at e;omega))
