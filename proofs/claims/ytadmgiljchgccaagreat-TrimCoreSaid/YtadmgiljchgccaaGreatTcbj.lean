/- Components of a digraph: what the search has in memory; a node is met. -/
import Derived.Test.YtadmgiljchgccaaGreatTcbh
namespace Go.Proofs.YtadmgiljchgccaaGreat
open Go.RowKit
set_option linter.unusedVariables false
set_option linter.unusedSimpArgs false
set_option maxRecDepth 100000
set_option maxHeartbeats 8000000
def ZcB(k:IntKind)(N:Nat)(f:Nat->Nat):Ip:=(List.range N).map fun i=>Value.int k (f i:Int)
theorem ZbH(k:IntKind)(N:Nat)(f:Nat->Nat):(ZcB k N f).length=N:=by unfold ZcB;simp
theorem ZbQ(k:IntKind){N:Nat}(f:Nat->Nat){x:Nat}(hx:x<N):(ZcB k N f)[x]? =some (.int k (f x:Int)):=by
 unfold ZcB;rw[List.getElem?_map,List.getElem?_range hx];rfl
theorem ZfV(k:IntKind){N:Nat}(f:Nat->Nat)(x v:Nat):(ZcB k N f).set x (.int k (v:Int))=ZcB k N (upd f x v):=by
 apply List.ext_getElem?
 intro j;rw[List.getElem?_set];unfold ZcB
 by_cases hj:j<N
 ·rw[List.getElem?_map,List.getElem?_map,List.getElem?_range hj]
  by_cases e:x=j
  ·subst e;rw[if_pos rfl,if_pos (by simpa using hj)];simp[upd]
  ·rw[if_neg e];simp[upd,Ne.symm e]
 ·rw[List.getElem?_map,List.getElem?_map,List.getElem?_eq_none (by simpa using hj)]
  split
  ·rename_i e;rw[if_neg (by simpa[e]using hj)];rfl
  ·rfl
structure TourW (w:World) (t gw gl go gs gb N:Nat) (fv:Value) (FS FB:Nat->Prop) (s:TS):Prop where
 blk:Blk w t 175 [fv,.slice (some ⟨gw,0,none⟩) N N,.slice (some ⟨gl,0,none⟩) N N,.pointer (some ⟨gs,0,none⟩),.pointer (some ⟨gb,0,none⟩),.int .i32 (s.clock:Int),.slice (some ⟨go,0,none⟩) N N]
 wh:Blk w gw 21 (ZcB .i32 N s.when)
 lo:Blk w gl 21 (ZcB .i32 N s.low)
 ou:Blk w go 3 (ZcB .i64 N s.out)
 st:Sta w FS gs (N:Int) (s.wait.map fun x:Nat=>(x:Int))
 br:BRow w FB gb N (fun i=>decide (i∈s.wait))
 ne:(t≠gw∧t≠gl∧t≠go)∧(gw≠gl∧gw≠go∧gl≠go)∧¬FB t∧¬FB gw∧¬FB gl∧¬FB go
 sn:∀i,FS i->i≠t∧i≠gw∧i≠gl∧i≠go∧¬FB i
def FT(t gw gl go:Nat)(FS FB:Iw):Nat->Prop:=fun i=>i=t∨i=gw∨i=gl∨i=go∨FS i∨FB i
theorem TourW.upd{w w':I0}{t gw gl go gs gb N:Nat}{fv:Iz}{FS FB S:Iw}{s:TS}(h:TourW w t gw gl go gs gb N fv FS FB s)(k:Upd S w w')(hn:∀i,FT t gw gl go FS FB i->¬S i):TourW w' t gw gl go gs gb N fv FS FB s:=
 ⟨h.blk.upd k (hn _ (Or.inl rfl)),h.wh.upd k (hn _ (Or.inr (Or.inl rfl))),h.lo.upd k (hn _ (Or.inr (Or.inr (Or.inl rfl)))),h.ou.upd k (hn _ (Or.inr (Or.inr (Or.inr (Or.inl rfl))))),
  h.st.upd k (fun i hi=>hn _ (Or.inr (Or.inr (Or.inr (Or.inr (Or.inl hi)))))),h.br.upd k (fun i hi=>hn _ (Or.inr (Or.inr (Or.inr (Or.inr (Or.inr hi)))))),h.ne,h.sn⟩
theorem TourW.lt{w:I0}{t gw gl go gs gb N:Nat}{fv:Iz}{FS FB:Iw}{s:TS}(h:TourW w t gw gl go gs gb N fv FS FB s):∀i,FT t gw gl go FS FB i->i<w.heap.size:=by
 intro i hi;rcases hi with rfl|rfl|rfl|rfl|hi|hi
 ·exact h.blk.lt
 ·exact h.wh.lt
 ·exact h.lo.lt
 ·exact h.ou.lt
 ·exact h.st.lt i hi
 ·obtain⟨_,_,_,_,_,hl,_⟩:=h.br;exact hl i hi
/- Components of a digraph:a node is met (scc.tour.meet). -/
def ZpH(w0:I0)(z0 N:Nat)(pg pm:Addr)(nx:Nat->Iu):Prop:=
 ∀(W:I0) (i:Nat),i<N->Upd (fun j=>z0<=j) w0 W->Calls Tryz.prog 130 #[Qi (i:Int),.pointer (some pg),.pointer (some pm)] W (Zcs W ((nx i).map fun x:Nat=>(x:Int)))
theorem ZtY(w0 w:I0)(z0 t gw gl go gs gb N x:Nat)(pg pm:Addr)(nx:Nat->Iu)(FS FB:Iw)(s:TS)
  (HN:ZpH w0 z0 N pg pm nx) (hu:Upd (fun j=>z0<=j) w0 w) (hz:∀i,FT t gw gl go FS FB i->z0<=i)
  (H:TourW w t gw gl go gs gb N (.func (.func 130) #[] #[.pointer (some pg),.pointer (some pm)]) FS FB s) (hx:x<N) (hN:N<=4096) (hf:s.wait.length<N) (lQ:x∉s.wait) (hc:s.clock<N):
  Calls Tryz.prog 186 #[.pointer (some ⟨t,0,none⟩),Qi (x:Int)] w fun e w'=>
   ∃FS' A c,e= .returned (.agg #[Qi (x:Int),.slice A (nx x).length c])∧(∀i,FS' i->FS i∨w.heap.size<=i)∧
    TourW w' t gw gl go gs gb N (.func (.func 130) #[] #[.pointer (some pg),.pointer (some pm)]) FS' FB (s.meet nx x)∧Ints (fun i=>w.heap.size<=i∧¬FT t gw gl go FS' FB i) w' A ((nx x).map fun y:Nat=>(y:Int))∧(nx x).length<=c∧Upd (FT t gw gl go FS FB) w w':=by
 obtain⟨v,hv⟩:=Qe w.heap.size;obtain⟨wa,nn⟩:=Qe (w.alloc (.cells #[Qi 0,.slice none 0 0] 233));have ua:Upd No w wa:=by rw[<-nn];exact(Il No w).alloc _
 have bV:Blk wa v 233 [Qi 0,.slice none 0 0]:=by rw[<-nn,<-hv];exact Im w _ _
 have HA:=Qh (H.upd ua Qo);have c5:=HA.out.blk.cell 5;have f5:=HA.out.blk.free 5;simp only[Qz,Qs]at c5;have w5:IntKind.i32.wrap ((s.clock:Int)+1)=(s.clock:Int)+1:=IntWalk.i32_in _ (by omega);have yf:=HA.out.blk.set_ 5 (.int .i32 ((s.clock:Int)+1));simp only[List.set_cons_zero,List.set_cons_succ]at yf;have mg:Upd (One t) wa (wa.setCell ⟨t,5,none⟩ (.int .i32 ((s.clock:Int)+1))):=(Il (One t) wa).setOne 5 _;have hne:=HA.out.ne;have ze:=Qh (HA.out.wh.upd mg (fun e=>hne.1.1 e.symm));have ss:=Qh (HA.out.lo.upd mg (fun e=>hne.1.2.1 e.symm));have AE:=Qh (HA.out.ou.upd mg (fun e=>hne.1.2.2 e.symm));have zo:=Qh (HA.out.st.upd mg (fun i hi e=>(HA.out.sn i hi).1 e));have fV:=Qh (HA.out.br.upd mg (fun i hi e=>hne.2.2.1 (show FB t from e▸hi)));have BI:=Qh (bV.upd mg (fun e=>by have:=HA.out.lt t (Or.inl rfl);have h2:=bV.lt;have h3:=H.blk.lt;unfold One at e;omega));have UC:=Qh ((ua.mono (S:=No) (T:=FT t gw gl go FS FB) (fun _ _ e=>e.elim)).trans (mg.mono (fun i _ e=>Or.inl e)));have sD:=Qh yf;have fJ:=Qh hne;have gW:=Qh H.sn;have aG:=Qh H.lt;have kM:=Qh (show∀i,FT t gw gl go FS FB i->i≠v from fun i hi e=>by have:=H.lt i hi;omega);go_enter Tryz.func186,Tryz.ntmps186;go_wp2;obtain⟨wc,nT⟩:=Qe (wa.setCell ⟨t,5,none⟩ (.int .i32 ((s.clock:Int)+1)));rw[nT]at ze ss AE zo fV BI UC sD ⊢;clear nT yf mg c5 f5 nn ua bV;obtain⟨S,hS⟩:∃S:Nat->Prop,S=fun i=>i=gw∨i=gl:=⟨_,rfl⟩
 have tu:¬S t:=by rw[hS];intro e;rcases e with e|e;exact fJ.out.1.1 e;exact fJ.out.1.2.1 e
 have jW:=Qh (show∀i,S i↔i=gw∨i=gl by rw[hS];exact fun _=>Iff.rfl);clear hS;have t1:∀W,Upd S wc W->W.cell? ⟨t,1,none⟩=some (.slice (some ⟨gw,0,none⟩) N N):=fun W u=>(sD.out.upd u tu).cell 1
 have t2:∀W,Upd S wc W->W.cell? ⟨t,2,none⟩=some (.slice (some ⟨gl,0,none⟩) N N):=fun W u=>(sD.out.upd u tu).cell 2
 have t5:∀W,Upd S wc W->W.cell? ⟨t,5,none⟩=some (.int .i32 ((s.clock:Int)+1)):=fun W u=>(sD.out.upd u tu).cell 5
 have iX:Upd S wc wc:=Il _ _;have x0:(0:Int)<=(x:Int):=Qn _;have x1:(x:Int)<(N:Int):=by omega
 have HX:=Qh hx;refine wpS (fun W'=>Upd S wc W') ?_ fun jH=>?_
 ·(first|exact iX.drew|exact az|exact aw|exact jH)
 (iterate 19 refine wpF ?_);refine wpZ 19 rfl fun K hK=>?_
 (first
  |(refine Zs rfl rfl (g:=gw) (i:=x) (v:= .int .i32 ((s.clock:Int)+1)) rfl rfl (ze.out.drew) (by kernel_rfl) (by rw[ZbH];exact HX.out) rfl ?_;intro w6 bQ hu6;have aw:Upd S wc w6:=jH.trans (hu6.mono (fun i _ e=>(jW.out i).2 (Or.inl e)));have xT:=Qh bQ;have mX:=Qh (ss.out.upd hu6.of_drew (fun e=>fJ.out.2.1.1 e.symm)))
  |(refine Zs rfl rfl (g:=gl) (i:=x) (v:= .int .i32 ((s.clock:Int)+1)) rfl rfl mX.out (by kernel_rfl) (by rw[ZbH];exact HX.out) rfl ?_;intro w7 a8 aq;have az:Upd S wc w7:=jH.trans (aq.mono (fun i _ e=>(jW.out i).2 (Or.inr e)));have jE:=Qh a8;have zT:=Qh (xT.out.upd aq (fun e=>fJ.out.2.1.1 e))))
 refine hK.out _ _ ?_ fun jH=>?_
 ·(first|exact iX.drew|exact az|exact aw|exact jH)
 try simp only[Qa]
 refine wpK 20 rfl ?_;refine wpZ 21 rfl fun K hK=>?_
 (first
  |(refine Zs rfl rfl (g:=gw) (i:=x) (v:= .int .i32 ((s.clock:Int)+1)) rfl rfl (ze.out.drew) (by kernel_rfl) (by rw[ZbH];exact HX.out) rfl ?_;intro w6 bQ hu6;have aw:Upd S wc w6:=jH.trans (hu6.mono (fun i _ e=>(jW.out i).2 (Or.inl e)));have xT:=Qh bQ;have mX:=Qh (ss.out.upd hu6.of_drew (fun e=>fJ.out.2.1.1 e.symm)))
  |(refine Zs rfl rfl (g:=gl) (i:=x) (v:= .int .i32 ((s.clock:Int)+1)) rfl rfl mX.out (by kernel_rfl) (by rw[ZbH];exact HX.out) rfl ?_;intro w7 a8 aq;have az:Upd S wc w7:=jH.trans (aq.mono (fun i _ e=>(jW.out i).2 (Or.inr e)));have jE:=Qh a8;have zT:=Qh (xT.out.upd aq (fun e=>fJ.out.2.1.1 e))))
 refine hK.out _ _ ?_ fun jH=>?_
 ·(first|exact iX.drew|exact az|exact aw|exact jH)
 try simp only[Qa]
 refine wpD (Ii ?_);have vw:=sD.out.upd jH tu;have px:=Qh (AE.out.upd jH (fun e=>by rcases(jW.out _).1 e with e|e;exact fJ.out.2.1.2.1 e.symm;exact fJ.out.2.1.2.2 e.symm));have Ce:=zo.out.upd jH (fun i hi e=>by have:=gW.out i hi;rcases(jW.out _).1 e with e|e;exact this.2.1 e;exact this.2.2.1 e);have cP:=Qh (fV.out.upd jH (fun i hi e=>by rcases(jW.out _).1 e with e|e;exact fJ.out.2.2.2.1 (e▸hi);exact fJ.out.2.2.2.2.1 (e▸hi)));have uL:=Qh (BI.out.upd jH (fun e=>by rcases(jW.out _).1 e with e|e;exact kM.out gw (Or.inr (Or.inl rfl)) e.symm;exact kM.out gl (Or.inr (Or.inr (Or.inl rfl))) e.symm));have U7:=Qh (UC.out.trans (jH.mono (fun i _ e=>by rcases(jW.out _).1 e with e|e;exact Or.inr (Or.inl e);exact Or.inr (Or.inr (Or.inl e)))));have g3:=vw.cell 3;simp only[Qz,Qs]at g3;have zP:=Qh vw;clear t1 t2 t5 iX bQ hu6 aw a8 aq az jH vw x0 x1;have CP:=Qh (ZwZ w7 FS gs (N:Int) _ (x:Int) Ce (by omega) (by omega) (by rw[Hw];omega));clear Ce;go_wp2_with fail;refine(CP.out).mono ?_;rintro e w8 ⟨rfl,FS',mJ,zC,dj⟩;have vP:=zP.out.upd dj (fun e=>(gW.out t e).1 rfl);have g4:=vP.cell 4;simp only[Qz,Qs]at g4;have Cm:=Qh vP;have qJ:=Qh (cP.out.upd dj (fun i hi e=>(gW.out i e).2.2.2.2 hi));have Cp:=Qh (uL.out.upd dj (fun e=>kM.out v (Or.inr (Or.inr (Or.inr (Or.inr (Or.inl e))))) rfl))
 have Cj:=Qh (zT.out.upd dj (fun e=>(gW.out gw e).2.1 rfl));have AW:=Qh (jE.out.upd dj (fun e=>(gW.out gl e).2.2.1 rfl));have py:=Qh (px.out.upd dj (fun e=>(gW.out go e).2.2.2.1 rfl));have U8:=Qh (U7.out.trans (dj.mono (fun i _ e=>Or.inr (Or.inr (Or.inr (Or.inr (Or.inl e)))))));have sN:=Qh zC;have lE:=Qh U7.out.size;have Cb:=Qh mJ;have wU:=Qh uL.out.lt
 have nG:=Qh (show∀i,FS' i->i≠t∧i≠gw∧i≠gl∧i≠go∧¬FB i∧i≠v from fun i hi=>by
  rcases Cb.out i hi with h|h
  ·have h2:=gW.out i h;exact⟨h2.1,h2.2.1,h2.2.2.1,h2.2.2.2.1,h2.2.2.2.2,kM.out i (Or.inr (Or.inr (Or.inr (Or.inr (Or.inl h)))))⟩
  ·have k:∀j,FT t gw gl go FS FB j->i≠j:=fun j hj e=>by have:=aG.out j hj;have:=lE.out;omega
   exact⟨k t (Or.inl rfl),k gw (Or.inr (Or.inl rfl)),k gl (Or.inr (Or.inr (Or.inl rfl))),k go (Or.inr (Or.inr (Or.inr (Or.inl rfl)))),fun e=>k i (Or.inr (Or.inr (Or.inr (Or.inr (Or.inr e))))) rfl,fun e=>by have:=wU.out;omega⟩)
 clear g3 vP zC dj mJ zP cP uL px;have CB:=Qh (ZwC w8 FB gb N _ qJ.out x HX.out true);obtain⟨bo,gS⟩:=Qe ((decide (x∈s.wait) != true));rw[gS]at CB;clear gS;go_wp2_with fail;refine(CB.out).mono ?_;rintro e w9 ⟨rfl,Af,aL⟩;have oP:=Cm.out.upd aL fJ.out.2.2.1;have g0:=oP.cell 0;simp only[Qz]at g0;have m8:=Qh oP;have Ca:=Qh (Cp.out.upd aL (fun e=>kM.out v (Or.inr (Or.inr (Or.inr (Or.inr (Or.inr e))))) rfl));have fH:=Qh (Cj.out.upd aL fJ.out.2.2.2.1);have zO:=Qh (AW.out.upd aL fJ.out.2.2.2.2.1);have fM:=Qh (py.out.upd aL fJ.out.2.2.2.2.2);have AF:=Qh (sN.out.upd aL (fun i hi e=>(nG.out i hi).2.2.2.2.1 e));have U9:=Qh (U8.out.trans (aL.mono (fun i _ e=>Or.inr (Or.inr (Or.inr (Or.inr (Or.inr e)))))));have kC:=Qh Af;have CN:=Qh (HN w9 x HX.out (hu.trans (U9.out.mono (fun i _ h=>hz i h))));clear oP Af aL g4 Cm Cp Cj AW py sN U8 CB;go_wp2_with fail;refine(CN.out).mono ?_;rintro e w10 ⟨A,c,rfl,lp,nO⟩;simp only[Hw]at lp ⊢;have ll:=Ca.out.upd nO id;obtain⟨v0,v1⟩:=ll.c2;obtain⟨q0,q1⟩:=ll.f2;have xj:=Qh ll;have uF:Hid (Ints (fun i=>w9.heap.size<=i) w10 A ((nx x).map fun y:Nat=>(y:Int))):=Qh (Ints.of_owned (by rw[Hw];exact lp));have iv:=Qh nO
 have D5:=Qh (show(nx x).length<=c from by
  rcases Nat.eq_zero_or_pos (nx x).length with e|e
  ·omega
  ·obtain⟨_,_,_,_,_,bG,_⟩:=Zbz lp e;exact bG)
 clear lp nO ll g0;go_wp2;have aS:=(xj.out.set_ 0 (Qi (x:Int))).set_ 1 (.slice A (nx x).length c);simp only[List.set_cons_zero,List.set_cons_succ]at aS;obtain⟨r0,r1⟩:=aS.c2;have u11:Upd (One v) w10 ((w10.setCell ⟨v,0,none⟩ (Qi (x:Int))).setCell ⟨v,1,none⟩ (.slice A (nx x).length c)):=((Il (One v) w10).setOne 0 _).setOne 1 _;have i7:∀i,FT t gw gl go FS FB i->¬One v i:=fun i hi e=>kM.out i hi e
 have e1:((s.clock+1:Nat):Int)=(s.clock:Int)+1:=by omega
 refine bodyPost_ret (v:= .agg #[Qi (x:Int),.slice A (nx x).length c]) (by simp[results,Tryz.results186,go_sem,r0,r1]) rfl ⟨FS',A,c,rfl,fun i hi=>?_,?_,?_,D5.out,?_⟩
 ·rcases Cb.out i hi with h|h
  ·exact Or.inl h
  ·right;have:=lE.out;omega
 ·refine⟨?_,?_,?_,?_,?_,?_,fJ.out,fun i hi=>?_⟩
  ·have:=(m8.out.upd iv.out id).upd u11 (i7 _ (Or.inl rfl));unfold TS.meet;rw[e1];exact this
  ·have:=(fH.out.upd iv.out id).upd u11 (i7 _ (Or.inr (Or.inl rfl)));rw[<-e1,ZfV]at this;exact this
  ·have:=(zO.out.upd iv.out id).upd u11 (i7 _ (Or.inr (Or.inr (Or.inl rfl))));rw[<-e1,ZfV]at this;exact this
  ·exact(fM.out.upd iv.out id).upd u11 (i7 _ (Or.inr (Or.inr (Or.inr (Or.inl rfl)))))
  ·exact(AF.out.upd iv.out Qo).upd u11 (fun i hi e=>(nG.out i hi).2.2.2.2.2 e)
  ·have:=(kC.out.upd iv.out Qo).upd u11 (fun i hi=>i7 i (Or.inr (Or.inr (Or.inr (Or.inr (Or.inr hi))))))
   have e2:ZeG (fun i=>decide (i∈s.wait)) x true=fun i=>decide (i∈(s.meet nx x).wait):=by
    funext i
    unfold ZeG TS.meet
    by_cases e:i=x<;>simp[e]
   rwa [e2]at this
  ·have:=nG.out i hi;exact⟨this.1,this.2.1,this.2.2.1,this.2.2.2.1,this.2.2.2.2.1⟩
 ·have h1:w.heap.size<=w9.heap.size:=U9.out.size;have h2:v<w9.heap.size:=Ca.out.lt
  have k:∀i,FT t gw gl go FS' FB i->i<w9.heap.size:=by
   intro i hi;rcases hi with rfl|rfl|rfl|rfl|hi|hi
   ·exact m8.out.lt
   ·exact fH.out.lt
   ·exact zO.out.lt
   ·exact fM.out.lt
   ·exact AF.out.lt i hi
   ·obtain⟨_,_,_,_,_,hl,_⟩:=kC.out;exact hl i hi
  exact Ints.weak (uF.out.upd u11 (fun i (hi:w9.heap.size<=i) (e:i=v)=>by omega)) (fun i _ (hi:w9.heap.size<=i)=>⟨by omega,fun hf=>by have:=k i hf;omega⟩)
 ·exact(U9.out.trans (iv.out.mono (fun _ _ e=>e.elim))).then_ u11 (fun i e=>Or.inr (by unfold One at e;omega))
/- Components of a digraph:a node ends (scc.tour.leave);slices.Min. -/
def Zc2:Int->Iv->Int
 |a,[]=>a
 |a,x::l=>Zc2 (min a x) l
theorem ZnQ:∀(l:Iv) (a:Int),Zc2 a l<=a∧∀x∈l,Zc2 a l<=x
 |[],a=>⟨Int.le_refl _,by simp⟩
 |y::l,a=>by
  obtain⟨h1,h2⟩:=ZnQ l (min a y);refine⟨?_,fun x hx=>?_⟩
  ·show Zc2 (min a y) l<=a;omega
  ·show Zc2 (min a y) l<=x
   rcases Ie.1 hx with rfl|hx
   ·omega
   ·exact h2 x hx
theorem Zmb:∀(l:Iv) (a:Int),Zc2 a l=a∨Zc2 a l∈l
 |[],a=>Or.inl rfl
 |y::l,a=>by
  show Zc2 (min a y) l=a∨Zc2 (min a y) l∈y::l
  rcases Zmb l (min a y)with h|h
  ·rw[h]
   by_cases hc:a<=y
   ·left;omega
   ·right;rw[show min a y=y by omega];simp
  ·exact Or.inr (Gk _ h)
theorem Zx3(w:I0)(F:Iw)(A:OA)(c:Nat)(x0:Int)(l:Iv)(h:Ints F w A (x0::l))(hl:l.length<=100000):
  CE 234 #[.slice A (x0::l).length c] w (Qi (Zc2 x0 l)):=by
 obtain⟨ad,hA,_,_,q0⟩:=h.at_ (k:=0) (by simp);subst hA;have q0':w.cell? (ad.add 0)=some (Qi x0):=q0;rw[show ad.add 0=ad by simp[Addr.add]]at q0';obtain⟨n,hn⟩:=Qe ((x0::l).length);have hn1:n=l.length+1:=by rw[<-hn];rfl
 rw[hn];have b1:decide ((n:Int)<1)=false:=Qf (by omega);have b2:(0:Int)<(n:Int):=by omega
 have CG:n<=100001:=by omega
 have Fz:1<=n:=by omega
 have HH:=Qh h;have HN:=Qh hn;clear h hn q0 hn1 hl;go_enter Tryz.func234,Tryz.ntmps234;go_wp2
 go_loopg [3,4] (n-1) (fun gk m i wr=>∃(k:Nat) (a:Int),k+gk=n∧1<=k∧i= Qi k∧m= Qi a∧Hid (Zc2 a ((x0::l).drop k)=Zc2 x0 l)∧w=wr)
 case atStart=>exact⟨1,x0,by omega,by omega,rfl,rfl,Qh rfl,rfl⟩
 case round=>
  obtain⟨k,a,aI,hk1,rfl,rfl,hs,rfl⟩:=hrel
  by_cases hlt:k<n
  ·have hlt2:k<(x0::l).length:=by rw[HN.out];exact hlt
   obtain⟨ad2,iG,_,_,q1⟩:=HH.out.at_ hlt2
   cases iG
   obtain⟨y,hy⟩:=Qe ((x0::l)[k]);have am:=hs.out;rw[Ge hlt2,hy]at am;rw[hy]at q1;obtain⟨M,hM⟩:=Qe (min a y);have HS:=Qh (show Zc2 M ((x0::l).drop (k+1))=Zc2 x0 l by rw[<-hM];exact am);have c1:(0:Int)<=(k:Int):=Qn _;have c2:(k:Int)<(n:Int):=by omega
   clear am hy;go_wp2;go_roundg (gk-1);exact⟨k+1,M,by omega,by omega,by go_num,rfl,HS,rfl⟩;omega
  ·obtain rfl:k=n:=by omega
   have HS:=Qh (show a=Zc2 x0 l by have:=hs.out;rwa [List.drop_eq_nil_of_le (by rw[HN.out];exact Nat.le_refl _)]at this);go_wp2;go_ret;exact⟨by rw[<-HS.out];rfl,rfl⟩
/- Components of a digraph:a node ends (scc.tour.leave). -/
theorem Zp2(w:I0)(t gw gl go gs gb N x:Nat)(fv:Iz)(FS FB:Iw)(s:TS)(H:TourW w t gw gl go gs gb N fv FS FB s)(hx:x<N)(hl:s.low x≠s.when x):
  CN 187 #[.pointer (some ⟨t,0,none⟩),Qi (x:Int)] w (.tuple #[]):=by
 have c1:∀W,Upd No w W->W.cell? ⟨t,1,none⟩=some (.slice (some ⟨gw,0,none⟩) N N):=fun W u=>(H.blk.upd u id).cell 1
 have c2:∀W,Upd No w W->W.cell? ⟨t,2,none⟩=some (.slice (some ⟨gl,0,none⟩) N N):=fun W u=>(H.blk.upd u id).cell 2
 have k1:∀W,Upd No w W->W.cell? ⟨gw,x,none⟩=some (.int .i32 (s.when x:Int)):=fun W u=>by rw[(H.wh.upd u id).cell];exact ZbQ _ _ hx
 have k2:∀W,Upd No w W->W.cell? ⟨gl,x,none⟩=some (.int .i32 (s.low x:Int)):=fun W u=>by rw[(H.lo.upd u id).cell];exact ZbQ _ _ hx
 obtain⟨a,ha⟩:=Qe (s.low x);obtain⟨b,hb⟩:=Qe (s.when x);rw[ha]at k2;rw[hb]at k1;have e1:((a:Int) != (b:Int))=true:=by rw[bne_iff_ne];omega
 have x0:(0:Int)<=(x:Int):=Qn _;have x1:(x:Int)<(N:Int):=by omega
 have hr:Upd No w w:=Il _ _;clear H ha hb hl;go_enter Tryz.func187,Tryz.ntmps187;go_wp2;refine wpS (fun W'=>Upd No w W') ?_ fun jH=>?_
 ·(first|exact hr.drew|exact jH)
 (iterate 15 refine wpF ?_);refine wpD (Ii ?_);have HH:=Qh jH;clear jH;go_wp2;refine bodyPost_ret (results_none rfl _ _ _) rfl ⟨rfl,HH.out⟩
def Zfp(P:Iu)(m:Nat)(f:Nat->Nat)(j:Nat):Nat->Nat:=fun i=>if i∈P.take j then m else f i
theorem Zqv{P:Iu}{m:Nat}{f:Nat->Nat}{j:Nat}(hj:j<P.length):Zfp P m f (j+1)=upd (Zfp P m f j) P[j] m:=by
 funext i
 show(if i∈P.take (j+1) then m else f i)=if i=P[j] then m else if i∈P.take j then m else f i
 rw[Gb hj];simp only[Ib,Gq]
 by_cases e:i=P[j]
 ·rw[if_pos (Or.inr e),if_pos e]
 ·rw[if_neg e]
  by_cases h:i∈P.take j
  ·rw[if_pos (Or.inl h),if_pos h]
  ·rw[if_neg h,if_neg (fun hh=>hh.elim h e)]
theorem ZvQ(w:I0)(t gw gl go gs gb N x:Nat)(fv:Iz)(FS FB:Iw)(s:TS)(top rest:Iu)(H:TourW w t gw gl go gs gb N fv FS FB s)(hx:x<N)(hl:s.low x=s.when x)
  (hs:s.wait=top++x::rest) (hn:x∉top) (hN:N<=4096) (ah:∀y∈s.wait,y<N) (hw:s.wait.length<=N) (hnd:s.wait.Nodup):
  Calls Tryz.prog 187 #[.pointer (some ⟨t,0,none⟩),Qi (x:Int)] w fun e w'=>e= .returned (.tuple #[])∧∃m out',m∈top++[x]∧(∀y∈top++[x],m<=y)∧(∀y,out' y=if y∈top++[x] then m else s.out y)∧
   TourW w' t gw gl go gs gb N fv FS FB ⟨s.way,s.when,s.low,rest,s.clock,out'⟩∧Upd (FT t gw gl go FS FB) w w':=by
 have c1:∀W,Upd No w W->W.cell? ⟨t,1,none⟩=some (.slice (some ⟨gw,0,none⟩) N N):=fun W u=>(H.blk.upd u id).cell 1
 have c2:∀W,Upd No w W->W.cell? ⟨t,2,none⟩=some (.slice (some ⟨gl,0,none⟩) N N):=fun W u=>(H.blk.upd u id).cell 2
 have k1:∀W,Upd No w W->W.cell? ⟨gw,x,none⟩=some (.int .i32 (s.when x:Int)):=fun W u=>by rw[(H.wh.upd u id).cell];exact ZbQ _ _ hx
 have k2:∀W,Upd No w W->W.cell? ⟨gl,x,none⟩=some (.int .i32 (s.low x:Int)):=fun W u=>by rw[(H.lo.upd u id).cell];exact ZbQ _ _ hx
 obtain⟨b,hb⟩:=Qe (s.when x);rw[hl,hb]at k2;rw[hb]at k1;have e1:((b:Int) != (b:Int))=false:=by simp
 have x0:(0:Int)<=(x:Int):=Qn _;have x1:(x:Int)<(N:Int):=by omega
 have hr:Upd No w w:=Il _ _
 have AT:TourW w t gw gl go gs gb N fv FS FB ⟨s.way,s.when,s.low,top.drop 0++x::rest,s.clock,s.out⟩:=by
  rw[List.drop_zero,<-hs];exact H
 have Dn:=Qh AT;clear AT;have HS:=Qh hs;have aG:=Qh H.lt;have HX:=Qh hx;have ez:=Qh ah;have oC:=Qh hw;have yV:=Qh hnd;have E7:=Qh hn;clear H hb hl hs ah hw hnd;go_enter Tryz.func187,Tryz.ntmps187;go_wp2
 go_quiet (fail)
 have hq:Upd No w (w.drewN nq):=(Il No w).drewN nq;generalize (w.drewN nq)=wq at*;have T0:=Qh (Dn.out.upd hq Qo);have U0:=Qh (hq.mono (T:=FT t gw gl go FS FB) (fun _ _ e=>e.elim));clear c1 c2 k1 k2 e1 hr hq;go_wp2
 go_loopg [4] top.length (fun gk part wr=>∃(k:Nat) (A:OA) (c:Nat),k+gk=top.length∧part= .slice A k c∧Hid (TourW wr t gw gl go gs gb N fv FS FB ⟨s.way,s.when,s.low,top.drop k++x::rest,s.clock,s.out⟩)∧Hid (wr.ownsRow w.heap.size 3 1 (.slice A k c) k ((top.take k).map fun y:Nat=>Value.int .i64 (y:Int)))∧Hid (Upd (FT t gw gl go FS FB) w wr))
 case atStart=>exact⟨0,none,0,by omega,rfl,T0,Qh (Ik _ _ _ _),U0⟩
 case round=>
  clear T0 U0;obtain⟨k,A,c,aI,rfl,hT,ae,hU⟩:=hrel;have hk:k<=top.length:=by omega
  obtain⟨y,ys,hy⟩:∃y ys,top.drop k++x::rest=y::ys:=by
   cases h:top.drop k with
   |nil=>exact⟨x,rest,rfl⟩
   |cons a l=>exact⟨a,l++x::rest,rfl⟩
  have cY:TourW wr t gw gl go gs gb N fv FS FB ⟨s.way,s.when,s.low,y::ys,s.clock,s.out⟩:=hy▸hT.out;have i8:(y::ys).Sublist s.wait:=by rw[<-hy,HS.out];exact(List.drop_sublist k top).append (List.Sublist.refl _)
  have ny:y<N:=ez.out y (i8.subset (Gv ..));have An:y∉ys:=(H3.1 (yV.out.sublist i8)).1;have au:(y::ys).length<=N:=Nat.le_trans i8.length_le oC.out;have CP:=Qh (Zx1 wr FS gs (N:Int) (y:Int) (ys.map fun z:Nat=>(z:Int)) cY.st (by rw[Hw];simp only[G1]at au;omega));have g3:=cY.blk.cell 3;have g4:=cY.blk.cell 4;simp only[Qz,Qs]at g3 g4;have oW:=Qh cY;have HY:=Qh hy;have lT:=Qh ny;have EK:=Qh An
  have gC:k<=4096:=by
   have:=oC.out;rw[HS.out,Gt]at this;omega
  clear cY hy i8 ny An au hT;go_wp2_with fail;refine(CP.out).mono ?_;rintro e w2 ⟨rfl,pP,hu2⟩;have xC:=oW.out.blk.upd hu2 (fun e=>(oW.out.sn t e).1 rfl);have q4:=xC.cell 4;simp only[Qz,Qs]at q4;have dR:=Qh (oW.out.br.upd hu2 (fun i hi e=>(oW.out.sn i e).2.2.2.2 hi));have CB:=Qh (ZwC w2 FB gb N _ dR.out y lT.out false);obtain⟨bo,gS⟩:=Qe ((decide (y∈(⟨s.way,s.when,s.low,y::ys,s.clock,s.out⟩:TS).wait) != false));rw[gS]at CB;clear gS;go_wp2_with fail;refine(CB.out).mono ?_;rintro e w3 ⟨rfl,tq,hu3⟩;have iY:Upd (FT t gw gl go FS FB) wr w3:=(hu2.mono (fun i _ e=>Or.inr (Or.inr (Or.inr (Or.inr (Or.inl e)))))).trans (hu3.mono (fun i _ e=>Or.inr (Or.inr (Or.inr (Or.inr (Or.inr e))))));have vq:∀i,Own (.slice A k c) i->¬FT t gw gl go FS FB i:=fun i e hf=>by have:=(ae.out.lt i e).1;have:=aG.out i hf;omega
  have eH:=Qh (Za ae.out iY vq)
  have fL:Hid (TourW w3 t gw gl go gs gb N fv FS FB ⟨s.way,s.when,s.low,ys,s.clock,s.out⟩):=Qh (by
   have a:=oW.out;have nb:=a.ne.2.2;refine⟨xC.upd hu3 nb.1,(a.wh.upd hu2 (fun e=>(a.sn gw e).2.1 rfl)).upd hu3 nb.2.1,(a.lo.upd hu2 (fun e=>(a.sn gl e).2.2.1 rfl)).upd hu3 nb.2.2.1,(a.ou.upd hu2 (fun e=>(a.sn go e).2.2.2.1 rfl)).upd hu3 nb.2.2.2,pP.upd hu3 (fun i hi e=>(a.sn i hi).2.2.2.2 e),?_,a.ne,a.sn⟩
   have e2:ZeG (fun i=>decide (i∈(⟨s.way,s.when,s.low,y::ys,s.clock,s.out⟩:TS).wait)) y false=fun i=>decide (i∈ys):=by
    funext i
    unfold ZeG
    by_cases e:i=y
    ·subst e;simp[EK.out]
    ·simp[e]
   rwa [e2]at tq)
  have bg:=Qh (hU.out.trans iY);have fp:w.heap.size<=w3.heap.size:=bg.out.size;have r9:=Qh vq;have oS:=Qh (fun i e=>ae.out.lt i e);clear g3 g4 q4 xC pP hu2 hu3 tq iY oW dR CP CB hU vq ae
  by_cases hkt:k<top.length
  ·have hd:top.drop k=top[k]::top.drop (k+1):=Ge hkt;have fE:=HY.out;rw[hd,List.cons_append]at fE;obtain⟨e1,e2⟩:=List.cons.inj fE;have jq:y≠x:=fun e=>E7.out (by rw[<-e,<-e1];exact Hg hkt)
   have eb:((y:Int)==(x:Int))=false:=by rw[beq_eq_false_iff_ne];omega
   have uq:=Qh (show(top.take (k+1)).map (fun z:Nat=>Value.int .i64 (z:Int))=(top.take k).map (fun z:Nat=>Value.int .i64 (z:Int))++[Qi (y:Int)] by rw[Gb hkt,Hu,e1];rfl);have nv:=Qh e2.symm;clear hd fE e1 e2 jq;go_wp2_with (at_builtin;refine ZbG rfl rfl Zgv (v:= .slice A k c) (cells:=[Qi (y:Int)]) (by rfl) rfl eH.out rfl rfl (by omega) (by omega) (by omega) ?_;intro g9 c9 w9 aO aL fI eG)
   have m8:Hid (TourW w9 t gw gl go gs gb N fv FS FB ⟨s.way,s.when,s.low,top.drop (k+1)++x::rest,s.clock,s.out⟩):=Qh (by
    have:=fL.out.upd aL (fun i hf e=>r9.out i e hf)
    rwa [nv.out]at this)
   have eZ:=Qh (bg.out.then_ aL (fun i e=>Or.inr (oS.out i e).1));have fM:=Qh (show w9.ownsRow w.heap.size 3 1 (.slice (some ⟨g9,0,none⟩) (k+1) c9) (k+1) ((top.take (k+1)).map fun y:Nat=>Value.int .i64 (y:Int)) by rw[uq.out];exact aO);clear aO aL fI eG;go_wp2;go_roundg (gk-1);exact⟨k+1,some ⟨g9,0,none⟩,c9,by omega,rfl,m8,fM,eZ⟩;omega
  ·have ln:k=top.length:=by omega
   have fE:=HY.out;rw[ln,G9,H8]at fE;obtain⟨e1,e2⟩:=List.cons.inj fE;have eb:((y:Int)==(x:Int))=true:=by rw[beq_iff_eq];omega
   have uq:=Qh (show(top++[x]).map (fun z:Nat=>Value.int .i64 (z:Int))=(top.take k).map (fun z:Nat=>Value.int .i64 (z:Int))++[Qi (y:Int)] by rw[ln,G7,Hu,e1];rfl);have nv:=Qh e2.symm;have sW:=Qh ln;clear fE e1 e2 ln;go_wp2_with (at_builtin;refine ZbG rfl rfl Zgv (v:= .slice A k c) (cells:=[Qi (y:Int)]) (by rfl) rfl eH.out rfl rfl (by omega) (by omega) (by omega) ?_;intro g9 c9 w9 aO aL fI eG)
   have oP:TourW w9 t gw gl go gs gb N fv FS FB ⟨s.way,s.when,s.low,rest,s.clock,s.out⟩:=by
    have:=fL.out.upd aL (fun i hf e=>r9.out i e hf)
    rwa [nv.out]at this
   have m8:=Qh oP;have eZ:=Qh (bg.out.then_ aL (fun i e=>Or.inr (oS.out i e).1))
   obtain⟨z0,zl,hz⟩:∃z0 zl,top++[x]=z0::zl:=by
    cases top with
    |nil=>exact⟨x,[],rfl⟩
    |cons a l=>exact⟨a,l++[x],rfl⟩
   have lD:zl.length=k:=by
    have:=congrArg List.length hz;rw[Gt,G1,sW.out]at*;simp at this;omega
   have yL:Ints (fun i=>w.heap.size<=i) w9 (some ⟨g9,0,none⟩) ((z0:Int)::zl.map fun z:Nat=>(z:Int)):=by
    have h1:=aO;rw[<-uq.out,hz]at h1;refine Ints.of_owned (c:=c9) ?_;simp only[G1,Hw,Id,List.map_map]at h1 ⊢;rw[lD];exact h1
   obtain⟨m,cd,bh,ic⟩:∃m:Nat,Zc2 (z0:Int) (zl.map fun z:Nat=>(z:Int))=(m:Int)∧m∈top++[x]∧∀y∈top++[x],m<=y:=by
    obtain⟨l1,l2⟩:=ZnQ (zl.map fun z:Nat=>(z:Int)) (z0:Int);rw[hz];rcases Zmb (zl.map fun z:Nat=>(z:Int)) (z0:Int)with h|h
    ·refine⟨z0,h,Gv ..,fun y hy=>?_⟩;rcases Ie.1 hy with rfl|hy
     ·exact Nat.le_refl _
     ·have:=l2 (y:Int) (Ih.2 ⟨y,hy,rfl⟩);omega
    ·obtain⟨m,hm,bB⟩:=Ih.1 h;refine⟨m,bB.symm,Gk _ hm,fun y hy=>?_⟩;rcases Ie.1 hy with rfl|hy
     ·omega
     ·have:=l2 (y:Int) (Ih.2 ⟨y,hy,rfl⟩);omega
   have mK:(((z0:Int)::zl.map fun z:Nat=>(z:Int)):Iv).length=k+1:=by simp[lD]
   have CM:=Qh (Zx3 w9 _ (some ⟨g9,0,none⟩) c9 (z0:Int) (zl.map fun z:Nat=>(z:Int)) yL (by rw[Hw,lD];omega));rw[mK,cd]at CM;have lq:=Qh yL;have Fi:=Qh bh;have lz:=Qh ic;have HZ:=Qh hz;have FQ:=Qh lD;have Ax:(z0::zl).length=k+1:=by rw[G1,lD]
   have Bw:=Qh Ax
   have mr:=Qh (show∀y∈z0::zl,y<N from fun y hy=>ez.out y (by
    rw[<-hz]at hy;rw[HS.out];rcases Ib.1 hy with h|h
    ·exact Gp _ h
    ·exact Gh _ (by rw[Gq.1 h];simp)))
   have H0:=Qh (show TourW w9 t gw gl go gs gb N fv FS FB ⟨s.way,s.when,s.low,rest,s.clock,Zfp (z0::zl) m s.out 0⟩ from by
    have e:Zfp (z0::zl) m s.out 0=s.out:=by funext i;simp[Zfp]
    rw[e];exact oP)
   clear aO aL fI eG oP m8 hz lD yL cd bh ic mK Ax uq nv HY fL eH bg;generalize gk=GK at*;go_wp2_with fail;refine(CM.out).mono ?_;rintro e w10 ⟨rfl,rfl⟩;go_wp2
   go_loopg [52] (k+1) (fun gj i wr=>∃j:Nat,j+gj=k+1∧i= Qi j∧Hid (TourW wr t gw gl go gs gb N fv FS FB ⟨s.way,s.when,s.low,rest,s.clock,Zfp (z0::zl) m s.out j⟩)∧Hid (Ints (fun i=>w.heap.size<=i) wr (some ⟨g9,0,none⟩) ((z0:Int)::zl.map fun z:Nat=>(z:Int)))∧Hid (Upd (FT t gw gl go FS FB) w wr))
   case atStart=>exact⟨0,by omega,rfl,H0,lq,eZ⟩
   case round=>
    clear H0 lq eZ;obtain⟨j,kP,rfl,hT,hI,hU⟩:=hrel
    by_cases hj:j<k+1
    ·have kK:j<(z0::zl).length:=by rw[Bw.out];exact hj
     have jd:j<((z0:Int)::zl.map fun z:Nat=>(z:Int)).length:=by simp only[G1,Hw]at kK ⊢;exact kK
     obtain⟨ad,hA,_,_,q0⟩:=hI.out.at_ jd;obtain⟨y',gO⟩:∃y',(z0::zl)[j]=y':=⟨_,rfl⟩
     have hq:((z0:Int)::zl.map fun z:Nat=>(z:Int))[j]=(y':Int):=by
      have:((z0:Int)::zl.map fun z:Nat=>(z:Int))=(z0::zl).map fun z:Nat=>(z:Int):=rfl
      simp only[this,G8,gO]
     rw[hq]at q0
     cases hA
     rw[show(⟨g9,0,none⟩:Addr).add j=⟨g9,j,none⟩ by unfold Addr.add;split<;>simp_all]at q0;have ny:y'<N:=mr.out y' (by rw[<-gO];exact Hg kK);have g6:=hT.out.blk.cell 6;simp only[Qz,Qs]at g6;have o1:wr.cell? ⟨go,y',none⟩=some (Qi (Zfp (z0::zl) m s.out j y':Int)):=by rw[hT.out.ou.cell];exact ZbQ _ _ ny
     have fz:=hT.out.ou.free y';have j0:(0:Int)<=(j:Int):=Qn _;have j1:(j:Int)<((k+1:Nat):Int):=by omega
     have y0:(0:Int)<=(y':Int):=Qn _;have y1:(y':Int)<(N:Int):=by omega
     have uS:Upd (One go) wr (wr.setCell ⟨go,y',none⟩ (Qi (m:Int))):=(Il (One go) wr).setOne y' _
     have Dg:=Qh (show TourW (wr.setCell ⟨go,y',none⟩ (Qi (m:Int))) t gw gl go gs gb N fv FS FB ⟨s.way,s.when,s.low,rest,s.clock,Zfp (z0::zl) m s.out (j+1)⟩ from by
      have a:=hT.out;refine⟨a.blk.upd uS (fun e=>a.ne.1.2.2 e),a.wh.upd uS (fun e=>a.ne.2.1.2.1 e),a.lo.upd uS (fun e=>a.ne.2.1.2.2 e),?_,a.st.upd uS (fun i hi e=>(a.sn i hi).2.2.2.1 e),a.br.upd uS (fun i hi e=>a.ne.2.2.2.2.2 (show FB go from e▸hi)),a.ne,a.sn⟩;have:=a.ou.set_ y' (Qi (m:Int));rw[ZfV]at this;rw[Zqv kK,gO];exact this)
     have sK:=Qh (hI.out.upd uS (fun i (hi:w.heap.size<=i) (e:i=go)=>by have:=aG.out go (Or.inr (Or.inr (Or.inr (Or.inl rfl))));omega));have de:=Qh (hU.out.trans (uS.mono (fun i _ e=>Or.inr (Or.inr (Or.inr (Or.inl e))))));clear hq gO uS hT hI hU;go_wp2;go_roundg (gk-1);exact⟨j+1,by omega,by go_num,Dg,sK,de⟩;omega
    ·obtain rfl:j=k+1:=by omega
     go_wp2;refine bodyPost_end (results_none rfl _ _ _) rfl ⟨rfl,m,Zfp (z0::zl) m s.out (k+1),Fi.out,lz.out,fun y=>?_,hT.out,hU.out⟩;unfold Zfp;rw[<-Bw.out,G7,HZ.out]
/- Components of a digraph:the nodes under way,in memory. -/
theorem ZsG{w:I0}{base size:Nat}{e:Iy}{A:OA}{c n:Nat}{xs ys:Ip}(h:w.ownsRow base e size (.slice A (n+1) c) (n+1) (xs++ys))(hy:ys.length=size):
  w.ownsRow base e size (.slice A n c) n xs:=by
 obtain⟨g,cur,rfl,hg,hb,bG,hl,hx,hc⟩:=Zbz h (by omega);have h1:=h.1;rw[Gt,hy,Nat.succ_mul]at h1;refine Zbh hb hg (by omega) hl ?_ hc (by omega);have h2:=congrArg (List.take (n*size)) hx;have hle:n*size<=(n+1)*size:=Nat.mul_le_mul_right _ (by omega);rw[List.take_take,Nat.min_eq_left hle,Gc (by omega),List.take_of_length_le (l:=xs) (by omega)]at h2;exact h2
theorem ZeL{w:I0}{base size:Nat}{e:Iy}{g c n:Nat}{xs:Ip}(h:w.ownsRow base e size (.slice (some ⟨g,0,none⟩) n c) n xs)(hn:0<n){i:Nat}(hi:i<xs.length):w.cell? ⟨g,i,none⟩=xs[i]?∧w.frozen? ⟨g,i,none⟩=false:=by
 obtain⟨g',cur,e1,hg,hb,bG,hl,hx,hc⟩:=Zbz h hn
 cases e1
 refine⟨?_,hb.free i⟩;rw[hb.cell,<-hx,List.getElem?_take,if_pos];rw[<-hx,Hm]at hi;omega
theorem ZuT{w:I0}{base size:Nat}{e:Iy}{g c n:Nat}{xs:Ip}(h:w.ownsRow base e size (.slice (some ⟨g,0,none⟩) n c) n xs)(hn:0<n)(i:Nat)(v:Iz):
  (w.setCell ⟨g,i,none⟩ v).ownsRow base e size (.slice (some ⟨g,0,none⟩) n c) n (xs.set i v):=by
 obtain⟨g',cur,e1,hg,hb,bG,hl,hx,hc⟩:=Zbz h hn
 cases e1
 refine Zbh (hb.set_ i v) hg bG (by rw[List.length_set];exact hl) ?_ hc (by rw[List.length_set];exact h.1);rw[<-hx,List.take_set]
structure VF where
 node:Nat
 l:List Nat
 A:Option Addr
 c:Nat
def VF.cells(f:VF):Ip:=[Qi (f.node:Int),.slice f.A f.l.length f.c]
def VF.fr(f:VF):Nat×Iu:=(f.node,f.l)
def ZcP(fs:List VF):Ip:=(fs.reverse.map VF.cells).flatten
theorem ZcO(f:VF)(fs:List VF):ZcP (f::fs)=ZcP fs++f.cells:=by unfold ZcP;simp
theorem Zbl:∀fs:List VF,(ZcP fs).length=fs.length*2
 |[]=>rfl
 |f::fs=>by rw[ZcO,Gt,Zbl fs,G1,Nat.succ_mul];rfl
theorem ZeI(f:VF)(fs:List VF):(ZcP (f::fs))[fs.length*2]? =some (Qi (f.node:Int))∧(ZcP (f::fs))[fs.length*2+1]? =some (.slice f.A f.l.length f.c):=by
 rw[ZcO];have:=Zbl fs
 constructor
 ·rw[List.getElem?_append_right (by omega),this,Nat.sub_self];rfl
 ·rw[List.getElem?_append_right (by omega),this,Nat.add_sub_cancel_left];rfl
theorem Zqd(f:VF)(fs:List VF)(l:Iu)(A:OA)(c:Nat):(ZcP (f::fs)).set (fs.length*2+1) (.slice A l.length c)=ZcP (⟨f.node,l,A,c⟩::fs):=by
 rw[ZcO,ZcO,List.set_append_right _ _ (by rw[Zbl];omega),Zbl,Nat.add_sub_cancel_left];rfl
def VFs(w:I0)(NB:Iw)(fs:List VF):Prop:=∀f∈fs,Ints NB w f.A (f.l.map fun x:Nat=>(x:Int))∧f.l.length<=f.c
theorem VFs.upd{w w':I0}{NB S:Iw}{fs:List VF}(h:VFs w NB fs)(k:Upd S w w')(hn:∀i,NB i->¬S i):VFs w' NB fs:=fun f hf=>⟨(h f hf).1.upd k hn,(h f hf).2⟩
/- Components of a digraph:all that is reached from a node is gone through (scc.tour.from). -/
def ZpJ(wb:Nat)(wr:I0)(t gw gl go gs gb N:Nat)(fv:Iz)(DC FB:Iw)(nx:Nat->Iu)(s0:TS)(gk:Nat)(A:OA)(n c:Nat):Prop:=
 ∃(s:TS) (fs:List VF) (FS':Iw),fs.length=n∧s.way=fs.map VF.fr∧wr.ownsRow wb 233 2 (.slice A n c) n (ZcP fs)∧
  VFs wr (fun i=>wb<=i∧¬FT t gw gl go FS' FB i∧¬Own (.slice A n c) i) fs∧(∀i,Own (.slice A n c) i->¬FT t gw gl go FS' FB i)∧
  TourW wr t gw gl go gs gb N fv FS' FB s∧FInv nx N s∧mu nx N s<=gk∧(∀i,FS' i->DC i∨wb<=i)∧(∀y,1<=s0.when y->1<=s.when y)
theorem Zh4{w w':I0}{t gw gl go gs gb N p m clock:Nat}{fv:Iz}{FS FB:Iw}{way way':List (Nat×Iu)}{when low out:Nat->Nat}{wait:Iu}(a:TourW w t gw gl go gs gb N fv FS FB ⟨way,when,low,wait,clock,out⟩)
  (hb:Blk w' gl 21 ((ZcB .i32 N low).set p (.int .i32 (m:Int)))) (u:Upd (One gl) w w'):TourW w' t gw gl go gs gb N fv FS FB ⟨way',when,upd low p m,wait,clock,out⟩:=by
 rw[ZfV]at hb;exact⟨a.blk.upd u (fun e=>a.ne.1.2.1 e),a.wh.upd u (fun e=>a.ne.2.1.1 e),hb,a.ou.upd u (fun e=>a.ne.2.1.2.2 e.symm),a.st.upd u (fun i hi e=>(a.sn i hi).2.2.1 e),a.br.upd u (fun i hi e=>a.ne.2.2.2.2.1 (show FB gl from e▸hi)),a.ne,a.sn⟩
theorem ZrV(a:Addr):a.add 0=a:=by
 rcases a with ⟨b,o,n⟩
 unfold Addr.add
 split<;>simp_all
theorem Zp4:SlT Tryz.prog 235 233 2 32:=SlT.mk_ Tryz.underlying235 (z:= .agg #[Qi 0,.slice none 0 0]) (by kernel_rfl) rfl (by omega)
theorem VFs.turn{w w':I0}{NB NB' S:Iw}{fs:List VF}(h:VFs w NB fs)(k:Upd S w w')(hS:∀i,NB i->¬S i)(hN:∀i,i<w.heap.size->NB i->NB' i):VFs w' NB' fs:=fun f hf=>
 ⟨Ints.weak ((Ints.lt' (h f hf).1 (fun _ e=>e)).upd k (fun i hi=>hS i hi.2)) (fun i _ hi=>hN i hi.1 hi.2),(h f hf).2⟩
def ZxN(wb:Nat)(wr W:I0)(t gw gl go gs gb N:Nat)(fv:Iz)(FS' FB:Iw)(g k c v:Nat)(fl:Iu)(fs:List VF)(s:TS):Prop:=
 ∃B c',W.ownsRow wb 233 2 (.slice (some ⟨g,0,none⟩) (k+1) c) (k+1) (ZcP (⟨v,fl,B,c'⟩::fs))∧VFs W (fun i=>wb<=i∧¬FT t gw gl go FS' FB i∧¬i=g) (⟨v,fl,B,c'⟩::fs)∧
  TourW W t gw gl go gs gb N fv FS' FB s∧Upd (One g) wr W
theorem FInv.wayLen{nx:Nat->Iu}{N:Nat}{s:TS}(h:FInv nx N s):s.way.length<=N:=by
 have h1:(s.way.map (·.1)).Nodup:=by
  rw[List.nodup_iff_pairwise_ne,List.pairwise_map];exact h.inv.path.imp fun hab e=>by rw[e]at hab;exact Nat.lt_irrefl _ hab
 have h2:=ZcW (s.way.map (·.1)) (List.range N) h1 fun y hy=>by
  obtain⟨f,hf,rfl⟩:=Ih.1 hy;exact Ic.2 (h.lt _ (h.inv.on f hf))
 rwa [Hw,List.length_range]at h2
theorem ZqI{nx:Nat->Iu}{N v y gk clock:Nat}{fl:Iu}{way:List (Nat×Iu)}{when low low' out:Nat->Nat}{wait:Iu}(h:mu nx N ⟨(v,y::fl)::way,when,low,wait,clock,out⟩<=gk):mu nx N ⟨(v,fl)::way,when,low',wait,clock,out⟩+1<=gk:=by
 refine Nat.le_trans (Nat.le_of_eq ?_) h;unfold mu;simp only[Id,List.sum_cons,G1];omega
theorem ZwV(w0 w:I0)(z0 t gw gl go gs gb N x:Nat)(pg pm:Addr)(nx:Nat->Iu)(FS FB:Iw)(s:TS)
  (HN:ZpH w0 z0 N pg pm nx) (hu:Upd (fun j=>z0<=j) w0 w) (hz:∀i,FT t gw gl go FS FB i->z0<=i) (tG:z0<=w.heap.size)
  (H:TourW w t gw gl go gs gb N (.func (.func 130) #[] #[.pointer (some pg),.pointer (some pm)]) FS FB s) (I:FInv nx N s) (dC:s.way=[]) (hx:x<N) (aZ:s.when x=0) (hN:N<=4096)
  (mM:∀i,i<N->∀y∈nx i,y<N):
  Calls Tryz.prog 134 #[.pointer (some ⟨t,0,none⟩),Qi (x:Int)] w fun e w'=>e= .returned (.tuple #[])∧
   ∃s' FS',(∀i,FS' i->FS i∨w.heap.size<=i)∧TourW w' t gw gl go gs gb N (.func (.func 130) #[] #[.pointer (some pg),.pointer (some pm)]) FS' FB s'∧FInv nx N s'∧s'.way=[]∧1<=s'.when x∧(∀y,1<=s.when y->1<=s'.when y)∧Upd (FT t gw gl go FS FB) w w':=by
 obtain⟨r1,r2,r3⟩:=I.room aZ hx;have CM:=Qh (ZtY w0 w z0 t gw gl go gs gb N x pg pm nx FS FB s HN hu hz H hx hN r1 r2 r3);have I1:=Qh (I.first dC aZ hx);clear r1 r2 r3 H;go_enter Tryz.func134,Tryz.ntmps134;go_wp2_with fail;refine(CM.out).mono ?_;rintro e w1 ⟨DI,A1,c1,rfl,Cw,jo,rF,oA,hu1⟩;obtain⟨w2,bZ⟩:=Qe (w1.alloc (.cells #[Qi (x:Int),.slice A1 (nx x).length c1] 233));have u2:Upd No w1 w2:=by rw[<-bZ];exact(Il No w1).alloc _
 have bW:Blk w2 w1.heap.size 233 [Qi (x:Int),.slice A1 (nx x).length c1]:=by rw[<-bZ];exact Im w1 _ _
 have H0:=Qh (show ZpJ w.heap.size w2 t gw gl go gs gb N (.func (.func 130) #[] #[.pointer (some pg),.pointer (some pm)]) FS FB nx (s.meet nx x) (mu nx N (s.meet nx x)) (some ⟨w1.heap.size,0,none⟩) 1 1 from by
  refine⟨s.meet nx x,[⟨x,nx x,A1,c1⟩],DI,rfl,?_,?_,?_,?_,?_,I1.out,Nat.le_refl _,Cw,fun y hy=>hy⟩
  ·show(x,nx x)::s.way=_
   rw[dC];rfl
  ·exact Zbh bW hu1.size (Nat.le_refl _) rfl rfl (by decide) rfl
  ·intro f hf;rw[Gq.1 hf];refine⟨Ints.weak ((rF.lt' (fun _ h=>h)).upd u2 Qo) (fun i _ hi=>⟨hi.2.1,hi.2.2,fun e=>?_⟩),oA⟩;have e':i=w1.heap.size:=(Option.some.inj e).symm;have:=hi.1;omega
  ·intro i e hi;have e':i=w1.heap.size:=(Option.some.inj e).symm;have:=jo.lt i hi;omega
  ·exact jo.upd u2 Qo)
 have de:=Qh (hu1.trans (u2.mono (fun _ _ e=>e.elim)));clear Cw jo rF hu1 oA u2 bW I1 CM dC;obtain⟨q,hq⟩:=Qe w1.heap.size;rw[hq]at H0;go_wp2
 go_loopg [4] (mu nx N (s.meet nx x)) (fun gk sl wr=>∃A n c,sl= .slice A n c∧Hid (ZpJ w.heap.size wr t gw gl go gs gb N (.func (.func 130) #[] #[.pointer (some pg),.pointer (some pm)]) FS FB nx (s.meet nx x) gk A n c)∧Hid (Upd (FT t gw gl go FS FB) w wr))
 case atStart=>exact⟨_,_,_,rfl,H0,de⟩
 case round=>
  clear H0 de;obtain⟨A,n,c,rfl,hF,hU⟩:=hrel;obtain⟨⟨way,when,low,wait,clock,out⟩,fs,FS',rfl,dC,ae,kd,hno,hT,hI,il,jh,gh⟩:=hF.out;rcases fs with _|⟨f,fs⟩
  ·go_wp2;refine bodyPost_end (results_none rfl _ _ _) rfl ⟨rfl,_,FS',jh,hT,hI,dC,gh x ?_,fun y hy=>gh y ?_,hU.out⟩
   ·show 1<=upd s.when x (s.clock+1) x
    rw[ZF];omega
   ·show 1<=upd s.when x (s.clock+1) y
    unfold upd
    split<;>omega
  ·obtain⟨g,cur,rfl,hg,hb,bG,hl,tp,hc⟩:=Zbz ae (by simp);rcases f with ⟨v,fl,fA,fc⟩
   obtain⟨k,hk⟩:=Qe fs.length;have c1:=ZeL ae (by simp) (i:=fs.length*2+1) (by rw[Zbl,G1];omega);have c0:=ZeL ae (by simp) (i:=fs.length*2) (by rw[Zbl,G1];omega);rw[(ZeI ..).2,hk]at c1;rw[(ZeI ..).1,hk]at c0;rw[G1,hk]at bG ⊢;have k0:(0:Int)<=(k:Int):=Qn _;have k1:(k:Int)<((k+1:Nat):Int):=by omega
   have ke:((k+1:Nat):Int)-1=(k:Int):=by omega
   have kp:(0:Int)<((k+1:Nat):Int):=by omega
   have kl:k+1<=c:=bG;have hc':c<=9223372036854775807:=Nat.le_trans hc (by decide);have kw:IntKind.i64.wrap (k:Int)=(k:Int):=IntWalk.i64_in _ (by omega);subst dC;have o8:v<N:=hI.lt v (hI.inv.on _ (Gv ..));rcases fl with _|⟨y,fl⟩
   ·have CL:Hid (Calls Tryz.prog 187 #[.pointer (some ⟨t,0,none⟩),Qi (v:Int)] wr fun e w'=>e= .returned (.tuple #[])∧∃wait' out',Upd (FT t gw gl go FS' FB) wr w'∧
      TourW w' t gw gl go gs gb N (.func (.func 130) #[] #[.pointer (some pg),.pointer (some pm)]) FS' FB ⟨fs.map VF.fr,when,low,wait',clock,out'⟩∧
      (∀p l way,fs.map VF.fr=(p,l)::way->FInv nx N ⟨(p,l)::way,when,upd low p (min (low p) (low v)),wait',clock,out'⟩)∧(fs=[]->FInv nx N ⟨[],when,low,wait',clock,out'⟩)):=by
     by_cases hlow:low v=when v
     ·obtain⟨top,rest,cA,rJ⟩:=hI.split;subst cA;refine Qh (Calls.mono (ZvQ wr t gw gl go gs gb N v _ FS' FB _ top rest hT o8 hlow rfl rJ hN hI.lt hI.len hI.nodup) ?_);rintro e w' ⟨rfl,m,out',cd,bh,ho,cY,mP⟩;have hr:=hI.root (out':=out') hlow ho cd bh;refine⟨rfl,rest,out',mP,⟨cY.1,cY.2,cY.3,cY.4,cY.5,cY.6,cY.7,cY.8⟩,fun p l way he=>?_,fun he=>?_⟩
      ·have e1:fs.map VF.fr=(p,l)::way:=he;rw[e1]at hr
       have e2:min (low p) (low v)=low p:=by
        have h2:=hI.inv;rw[Id,e1]at h2;exact h2.keep_low hlow
       rw[e2,Zr7];exact hr
      ·subst he;exact hr
     ·refine Qh (Calls.mono (Zp2 wr t gw gl go gs gb N v _ FS' FB _ hT o8 hlow) ?_);rintro e w' ⟨rfl,mP⟩;have cY:=hT.upd mP Qo;refine⟨rfl,wait,out,mP.mono (fun _ _ e=>e.elim),⟨cY.1,cY.2,cY.3,cY.4,cY.5,cY.6,cY.7,cY.8⟩,fun p l way he=>?_,fun he=>?_⟩
      ·have h2:=hI;rw[Id,he]at h2;exact h2.pop hlow
      ·subst he;exact absurd (hI.inv.sole rfl) hlow
    clear hF;go_wp2_with fail;refine(CL.out).mono ?_;rintro e w3 ⟨rfl,wait',out',hu3,mI,Bz,Aq⟩;have yw:=hno g rfl;have b3:=hb.upd hu3 yw;have aQ:w3.ownsRow w.heap.size 233 2 (.slice (some ⟨g,0,none⟩) (k+1) c) (k+1) (ZcP (⟨v,[],fA,fc⟩::fs)):=Zbh b3 hg bG hl (by rw[<-tp,G1,hk]) hc (by rw[Zbl,G1,hk]);have d0:=ZeL aQ (by omega) (i:=k*2) (by rw[Zbl,G1];omega);rw[<-hk,(ZeI ..).1,hk]at d0;have mV:=Qh (VFs.upd (fs:=fs) (fun f hf=>kd f (Gk _ hf)) hu3 (fun i hi=>hi.2.1));have eH:=Qh (ZsG (xs:=ZcP fs) (ys:=VF.cells ⟨v,[],fA,fc⟩) (by rw[ZcO]at aQ;exact aQ) rfl);have fL:=Qh mI
    have bg:=Qh (hU.out.then_ hu3 (fun i e=>by
     rcases e with h|h|h|h|h|h
     ·exact Or.inl (Or.inl h)
     ·exact Or.inl (Or.inr (Or.inl h))
     ·exact Or.inl (Or.inr (Or.inr (Or.inl h)))
     ·exact Or.inl (Or.inr (Or.inr (Or.inr (Or.inl h))))
     ·exact(jh i h).imp (fun h=>Or.inr (Or.inr (Or.inr (Or.inr (Or.inl h))))) id
     ·exact Or.inl (Or.inr (Or.inr (Or.inr (Or.inr (Or.inr h)))))))
    have qw:mu nx N ⟨fs.map VF.fr,when,low,wait',clock,out'⟩+1<=gk:=by
     refine Nat.le_trans (Nat.le_of_eq ?_) il;unfold mu;simp only[Id,List.sum_cons,VF.fr,Hv];omega
    have d8:=Qh hno;clear ae b3 aQ mI hu3 kd c0 c1 CL;rcases fs with _|⟨⟨p,pl,pA,pc⟩,fs⟩
    ·obtain rfl:k=0:=hk.symm;have xX:=Qh (Aq rfl);clear Bz Aq;go_wp2;go_roundg (gk-1);exact⟨_,_,_,rfl,Qh ⟨_,[],FS',rfl,rfl,eH.out,mV.out,d8.out,fL.out,xX.out,by omega,jh,gh⟩,bg⟩;omega
    ·obtain⟨k,rfl⟩:∃k',k=k'+1:=⟨fs.length,hk.symm⟩;have th:=Qh (Bz p pl _ rfl);have bJ:fs.length=k:=by simpa using hk
     have e0:=ZeL eH.out (by omega) (i:=k*2) (by rw[Zbl,G1];omega);rw[<-bJ,(ZeI ..).1,bJ]at e0;have AR:p<N:=th.out.lt p (th.out.inv.on _ (Gv ..));have S2:∀W,Upd (One gl) w3 W->W.cell? ⟨t,2,none⟩=some (.slice (some ⟨gl,0,none⟩) N N):=fun W u=>(fL.out.blk.upd u (fun e=>fL.out.ne.1.2.1 e)).cell 2
     have l1:w3.cell? ⟨gl,p,none⟩=some (.int .i32 (low p:Int)):=by rw[fL.out.lo.cell];exact ZbQ _ _ AR
     have l2:w3.cell? ⟨gl,v,none⟩=some (.int .i32 (low v:Int)):=by rw[fL.out.lo.cell];exact ZbQ _ _ o8
     have p0:(0:Int)<=(p:Int):=Qn _;have p1:(p:Int)<(N:Int):=by omega
     have v0:(0:Int)<=(v:Int):=Qn _;have v1:(v:Int)<(N:Int):=by omega
     have mr:=Qh AR;have mi:min (low p:Int) (low v:Int)=((min (low p) (low v):Nat):Int):=by omega
     go_wp2;refine wpS (fun W'=>Upd (One gl) w3 W') ?_ fun jH=>?_
     ·(first|exact(Il _ _).drew|exact jH|exact jH.trans hu6)
     (iterate 11 refine wpF ?_);refine wpK 12 rfl ?_;refine wpK 13 rfl ?_;refine wpK 14 rfl ?_;refine wpK 15 rfl ?_;refine wpK 16 rfl ?_;refine wpK 17 rfl ?_;refine wpR [11,18] ?_;refine wpC rfl (fun K hK=>?_) ?_
     ·go_simp;refine hK.out _ _ ?_ fun jH=>?_
      ·(first|exact(Il _ _).drew|exact jH|exact jH.trans hu6)
      try simp only[Qa]
      refine wpZ 18 rfl fun K hK=>?_;go_simp;refine hK.out _ _ ?_ fun jH=>?_
      ·(first|exact(Il _ _).drew|exact jH|exact jH.trans hu6)
      try simp only[Qa]
      refine wpZ 19 rfl fun K hK=>?_;go_simp
      (first
   |(skip))
      try (go_wp2_with fail)
      refine hK.out _ _ ?_ fun jH=>?_
      ·(first|exact(Il _ _).drew|exact jH|exact jH.trans hu6)
      try simp only[Qa]
      refine wpK 20 rfl ?_;refine wpZ 21 rfl fun K hK=>?_
      (first
   |(refine Zs rfl rfl (g:=gl) (i:=p) (v:= .int .i32 ((min (low p) (low v):Nat):Int)) rfl rfl (fL.out.lo.drew) (by kernel_rfl) (by rw[ZbH];exact mr.out) rfl ?_;intro w6 bQ hu6;have cG:=Qh bQ))
      refine hK.out _ _ ?_ fun jH=>?_
      ·(first|exact(Il _ _).drew|exact jH|exact jH.trans hu6)
      try simp only[Qa]
      refine wpD (Ii ?_);have pZ:=Qh (Zh4 fL.out (way':=(p,pl)::fs.map VF.fr) cG.out jH);have lx:=Qh (Za eH.out jH (fun i hi e=>d8.out i hi (Or.inr (Or.inr (Or.inl e)))));have pH:=Qh (mV.out.upd jH (fun i hi e=>hi.2.1 (Or.inr (Or.inr (Or.inl e)))));have eh:=Qh (bg.out.then_ jH (fun i e=>Or.inl (Or.inr (Or.inr (Or.inl e)))));clear jH bQ hu6 S2 l1 l2 e0 d0;go_wp2;go_roundg (gk-1);exact⟨_,_,_,rfl,Qh ⟨_,⟨p,pl,pA,pc⟩::fs,FS',hk,rfl,lx.out,pH.out,d8.out,pZ.out,th.out,Nat.le_sub_of_add_le qw,jh,gh⟩,eh⟩;omega
     refine wpC rfl (fun K hK=>?_) AllReadyH.nil;go_simp;refine hK.out _ _ ?_ fun jH=>?_
     ·(first|exact(Il _ _).drew|exact jH|exact jH.trans hu6)
     try simp only[Qa]
     refine wpZ 11 rfl fun K hK=>?_;go_simp;refine hK.out _ _ ?_ fun jH=>?_
     ·(first|exact(Il _ _).drew|exact jH|exact jH.trans hu6)
     try simp only[Qa]
     refine wpZ 19 rfl fun K hK=>?_;go_simp
     (first
  |(skip))
     try (go_wp2_with fail)
     refine hK.out _ _ ?_ fun jH=>?_
     ·(first|exact(Il _ _).drew|exact jH|exact jH.trans hu6)
     try simp only[Qa]
     refine wpK 20 rfl ?_;refine wpZ 21 rfl fun K hK=>?_
     (first
  |(refine Zs rfl rfl (g:=gl) (i:=p) (v:= .int .i32 ((min (low p) (low v):Nat):Int)) rfl rfl (fL.out.lo.drew) (by kernel_rfl) (by rw[ZbH];exact mr.out) rfl ?_;intro w6 bQ hu6;have cG:=Qh bQ))
     refine hK.out _ _ ?_ fun jH=>?_
     ·(first|exact(Il _ _).drew|exact jH|exact jH.trans hu6)
     try simp only[Qa]
     refine wpD (Ii ?_);have pZ:=Qh (Zh4 fL.out (way':=(p,pl)::fs.map VF.fr) cG.out jH);have lx:=Qh (Za eH.out jH (fun i hi e=>d8.out i hi (Or.inr (Or.inr (Or.inl e)))));have pH:=Qh (mV.out.upd jH (fun i hi e=>hi.2.1 (Or.inr (Or.inr (Or.inl e)))));have eh:=Qh (bg.out.then_ jH (fun i e=>Or.inl (Or.inr (Or.inr (Or.inl e)))));clear jH bQ hu6 S2 l1 l2 e0 d0;go_wp2;go_roundg (gk-1);exact⟨_,_,_,rfl,Qh ⟨_,⟨p,pl,pA,pc⟩::fs,FS',hk,rfl,lx.out,pH.out,d8.out,pZ.out,th.out,Nat.le_sub_of_add_le qw,jh,gh⟩,eh⟩;omega
   ·obtain⟨yQ,mQ⟩:=kd _ (Gv ..);obtain⟨ad,hA,Dl,DY,q0⟩:=yQ.at_ (k:=0) (by simp);obtain rfl:fA=some ad:=hA;change wr.cell? (ad.add 0)=some (Qi (y:Int))at q0;rw[ZrV]at q0;have ny:y<N:=mM v o8 y (hI.inv.sub _ (Gv ..) y (Gv ..));have y0:(0:Int)<=(y:Int):=Qn _;have y1:(y:Int)<(N:Int):=by omega
    have n0:(0:Int)<((fl.length+1:Nat):Int):=by omega
    have oA:fl.length+1<=fc:=mQ;have yw:=hno g rfl;have UV:∀V,Upd (One g) wr (wr.setCell ⟨g,k*2+1,none⟩ V):=fun V=>(Il _ wr).setOne _ _
    have TV:=fun V=>hT.upd (UV V) (fun i hi e=>yw (show FT t gw gl go FS' FB g from e▸hi))
    have r1:∀V,(wr.setCell ⟨g,k*2+1,none⟩ V).cell? ⟨t,1,none⟩=some (.slice (some ⟨gw,0,none⟩) N N):=fun V=>(TV V).blk.cell 1
    have r2:∀V,(wr.setCell ⟨g,k*2+1,none⟩ V).cell? ⟨gw,y,none⟩=some (.int .i32 (when y:Int)):=fun V=>by rw[(TV V).wh.cell];exact ZbQ _ _ ny
    have r4:∀V,(wr.setCell ⟨g,k*2+1,none⟩ V).cell? ⟨t,4,none⟩=some (.pointer (some ⟨gb,0,none⟩)):=fun V=>(TV V).blk.cell 4
    have hcut:=yQ.cut_ (i:=1) (c:=fc) (by rw[Hw];exact mQ)
    have gI:=Qh (show∀B c',Ints (fun i=>w.heap.size<=i∧¬FT t gw gl go FS' FB i∧¬i=g) wr B (fl.map fun x:Nat=>(x:Int))->fl.length<=c'->
      ZxN w.heap.size wr (wr.setCell ⟨g,k*2+1,none⟩ (.slice B fl.length c')) t gw gl go gs gb N (.func (.func 130) #[] #[.pointer (some pg),.pointer (some pm)]) FS' FB g k c v fl fs ⟨(v,fl)::fs.map VF.fr,when,low,wait,clock,out⟩ from by
     intro B c' hB hc';have cY:=TV (.slice B fl.length c');refine⟨B,c',?_,?_,⟨cY.1,cY.2,cY.3,cY.4,cY.5,cY.6,cY.7,cY.8⟩,UV _⟩
     ·have h1:=ZuT ae (by simp) (k*2+1) (.slice B fl.length c');rw[G1,hk]at h1;rw[<-hk]at h1 ⊢;rw[Zqd]at h1;exact h1
     ·intro f hf;rcases Ie.1 hf with rfl|hf
      ·exact⟨hB.upd (UV _) (fun i hi e=>hi.2.2 e),hc'⟩
      ·have h1:=kd f (Gk _ hf);refine⟨Ints.weak (h1.1.upd (UV _) (fun i hi e=>hi.2.2 (by rw[show i=g from e];rfl))) (fun i _ hi=>⟨hi.1,hi.2.1,fun e=>hi.2.2 (by rw[e];rfl)⟩),h1.2⟩)
    have Bh:Ints (fun i=>w.heap.size<=i∧¬FT t gw gl go FS' FB i∧¬i=g) wr (if fc=1 then some ad else (some ad).map (·.add 1)) (fl.map fun x:Nat=>(x:Int)):=by
     refine Ints.weak (by simpa using hcut) (fun i _ hi=>?_);exact⟨hi.1,hi.2.1,fun e=>hi.2.2 (by rw[e];rfl)⟩
    have oT:=Qh Bh;clear Bh;have d8:=Qh (show∀i,i=g->¬FT t gw gl go FS' FB i from fun i e=>hno i (by rw[e];rfl));have HI:=Qh hI;have uw:=Qh (ZqI (low':=low) il);have uW:Hid (mu nx N ⟨(v,y::fl)::fs.map VF.fr,when,low,wait,clock,out⟩<=gk):=Qh il;have eC:=Qh hU.out;have HG:=Qh hg;have lT:=Qh ny;have Fw:=Qh hc;have vp:=Qh o8;clear TV hcut yQ kd hT hI hF ae il hno hU hg hb tp UV o8
    by_cases hw0:when y=0
    ·have r3:((when y:Int)==0)=true:=by rw[hw0];rfl
     have oo:=Qh hw0;clear hw0
     by_cases h1:fc=1
     case' pos=>
      subst h1;have HS:=Qh (gI.out (some ad) 0 (by have:=oT.out;rwa [if_pos rfl]at this) (by omega));rw[show fl.length=0 by omega]at HS;go_wp2_with fail
     case' neg=>
      have HS:=Qh (gI.out (some ⟨ad.block,ad.off+1,none⟩) (fc-1) (by have:=oT.out;rwa [if_neg h1]at this) (by omega));go_wp2_with fail
     all_goals (
      generalize wr.setCell ⟨g,k*2+1,none⟩ _=wV at HS ⊢;obtain⟨B,c',hO,hV,jo,sB⟩:=HS.out;obtain⟨q1,q2,q3⟩:=HI.out.room oo.out lT.out;have pN:Upd (FT t gw gl go FS FB) w wV:=eC.out.then_ sB (fun i e=>by have:=HG.out;exact Or.inr (show w.heap.size<=i from e▸this))
      have CM:=Qh (ZtY w0 wV z0 t gw gl go gs gb N y pg pm nx FS' FB _ HN ((hu.then_ pN (fun i e=>Or.inl (hz i e)))) (fun i hi=>by
       rcases hi with h|h|h|h|h|h
       ·exact hz i (Or.inl h)
       ·exact hz i (Or.inr (Or.inl h))
       ·exact hz i (Or.inr (Or.inr (Or.inl h)))
       ·exact hz i (Or.inr (Or.inr (Or.inr (Or.inl h))))
       ·exact(jh i h).elim (fun h=>hz i (Or.inr (Or.inr (Or.inr (Or.inr (Or.inl h)))))) (fun h=>Nat.le_trans tG h)
       ·exact hz i (Or.inr (Or.inr (Or.inr (Or.inr (Or.inr h)))))) jo lT.out hN q1 q2 q3)
      have fg:=Qh hO;have jl:=Qh hV;have jr:=Qh jo;have mW:=Qh pN;clear hO hV jo sB pN q1 q2 q3 HS gI oT c0 c1 r1 r2 r3 r4;refine CM.out.mono ?_;rintro e w3 ⟨lS,A3,c3,rfl,lH,mI,p9,qR,hu3⟩;have eH:=Qh (Za fg.out hu3 (fun i hi e=>d8.out i (by simpa[Value.ownBlock]using hi.symm) e));have tD:∀i,lS i->FS' i∨wV.heap.size<=i:=lH
      have mV:=Qh (jl.out.turn (NB':=fun i=>w.heap.size<=i∧¬FT t gw gl go lS FB i∧i<wV.heap.size∧¬i=g) hu3 (fun i hi=>hi.2.1) (fun i hl hi=>⟨hi.1,fun hf=>by
       rcases hf with h|h|h|h|h|h
       ·exact hi.2.1 (Or.inl h)
       ·exact hi.2.1 (Or.inr (Or.inl h))
       ·exact hi.2.1 (Or.inr (Or.inr (Or.inl h)))
       ·exact hi.2.1 (Or.inr (Or.inr (Or.inr (Or.inl h))))
       ·exact(tD i h).elim (fun h=>hi.2.1 (Or.inr (Or.inr (Or.inr (Or.inr (Or.inl h)))))) (fun h=>by omega)
       ·exact hi.2.1 (Or.inr (Or.inr (Or.inr (Or.inr (Or.inr h))))),hl,hi.2.2⟩))
      have bg:=Qh (mW.out.then_ hu3 (fun i e=>by
       rcases e with h|h|h|h|h|h
       ·exact Or.inl (Or.inl h)
       ·exact Or.inl (Or.inr (Or.inl h))
       ·exact Or.inl (Or.inr (Or.inr (Or.inl h)))
       ·exact Or.inl (Or.inr (Or.inr (Or.inr (Or.inl h))))
       ·exact(jh i h).imp (fun h=>Or.inr (Or.inr (Or.inr (Or.inr (Or.inl h))))) id
       ·exact Or.inl (Or.inr (Or.inr (Or.inr (Or.inr (Or.inr h)))))))
      have yp:=Qh (show∀i,lS i->FS i∨w.heap.size<=i from fun i h=>(tD i h).elim (jh i) (fun h=>Or.inr (Nat.le_trans mW.out.size h)));have fL:=Qh mI;have vJ:=Qh p9;have zH:Hid (w.heap.size<=wV.heap.size):=Qh mW.out.size;have lE:Hid (wV.heap.size<=w3.heap.size):=Qh hu3.size;have y9:(nx y).length<=c3:=qR;have oX:k+1<=4096:=by have:=HI.out.wayLen;simp only[Hw,G1,hk]at this;omega
      have ue:=Qh (show¬FT t gw gl go lS FB g from fun hf=>by
       have d7:g<wV.heap.size:=by obtain⟨g',cur',e',_,dZ,_⟩:=Zbz fg.out (by omega);cases e';exact dZ.lt
       rcases hf with h|h|h|h|h|h
       ·exact d8.out g rfl (Or.inl h)
       ·exact d8.out g rfl (Or.inr (Or.inl h))
       ·exact d8.out g rfl (Or.inr (Or.inr (Or.inl h)))
       ·exact d8.out g rfl (Or.inr (Or.inr (Or.inr (Or.inl h))))
       ·exact(tD g h).elim (fun h=>d8.out g rfl (Or.inr (Or.inr (Or.inr (Or.inr (Or.inl h)))))) (fun h=>by omega)
       ·exact d8.out g rfl (Or.inr (Or.inr (Or.inr (Or.inr (Or.inr h))))))
      have fO:Hid (g<wV.heap.size):=Qh (by obtain⟨g',cur',e',_,dZ,_⟩:=Zbz fg.out (by omega);cases e';exact dZ.lt);clear mI p9 hu3 lH tD qR jr jl fg CM;go_wp2_with (at_builtin;go_loud (refine ZbG rfl rfl Zp4 (v:= .slice (some ⟨g,0,none⟩) (k+1) c) (n:=k+1) (xs:=ZcP (⟨v,fl,B,c'⟩::fs)) (cells:=[Qi (y:Int),.slice A3 (nx y).length c3]) (by rfl) rfl eH.out rfl rfl (by omega) (by omega) (by have:=zH.out;have:=lE.out;omega) ?_);intro g9 c9 w9 aO aL fI eG;have fM:=Qh aO;have eZ:=Qh aL;have xZ:=Qh fI;clear aO aL fI eG)
      have fI:g9=g∨wV.heap.size<=g9:=by
       rcases xZ.out with h|h
       ·exact Or.inl (by simpa[Value.ownBlock]using h.symm)
       ·right;have:=lE.out;omega
      have lr:=Qh (show Upd (One g) w3 w9 from eZ.out.mono fun i _ e=>by
       have e':g=i:=by simpa[Own,Value.ownBlock]using e
       exact e'.symm)
      have m8:=Qh (fL.out.upd lr.out (fun i hi e=>ue.out (show FT t gw gl go lS FB g from e▸hi)));have vW:=Qh fL.out.lt
      have H9:=Qh (show ZpJ w.heap.size w9 t gw gl go gs gb N (.func (.func 130) #[] #[.pointer (some pg),.pointer (some pm)]) FS FB nx (s.meet nx x) (gk-1) (some ⟨g9,0,none⟩) (k+1+1) c9 from by
       refine⟨_,⟨y,nx y,A3,c3⟩::⟨v,fl,B,c'⟩::fs,lS,by simp[hk],rfl,by rw[ZcO];exact fM.out,?_,?_,m8.out,HI.out.push oo.out lT.out,?_,yp.out,fun z hz'=>?_⟩
       ·intro f hf;rcases Ie.1 hf with rfl|hf
        ·refine⟨Ints.weak ((Ints.lt' vJ.out (fun _ e=>e)).upd lr.out (fun i hi e=>?_)) (fun i _ hi=>⟨Nat.le_trans zH.out hi.2.1,hi.2.2,fun e=>?_⟩),y9⟩
         ·have e':i=g:=e;have d7:g<wV.heap.size:=fO.out;have:=hi.2.1;omega
         ·have e':i=g9:=by simpa[Own,Value.ownBlock,eq_comm]using e
          have d7:g<wV.heap.size:=fO.out;rcases fI with h|h
          ·have:=hi.2.1;omega
          ·exact absurd (xZ.out) (by
            rintro(h'|h')
            ·have FE:g9=g:=by simpa[Value.ownBlock]using h'.symm
             omega
            ·have:=hi.1;omega)
        ·refine⟨Ints.weak ((mV.out f hf).1.upd lr.out (fun i hi e=>hi.2.2.2 e)) (fun i _ hi=>⟨hi.1,hi.2.1,fun e=>?_⟩),(mV.out f hf).2⟩;have e':i=g9:=by simpa[Own,Value.ownBlock,eq_comm]using e
         rcases fI with h|h
         ·exact hi.2.2.2 (e'.trans h)
         ·have:=hi.2.2.1;omega
       ·intro i e hf;have e':i=g9:=by simpa[Own,Value.ownBlock,eq_comm]using e
        rcases xZ.out with h|h
        ·have h':g9=g:=by simpa[Value.ownBlock]using h.symm
         exact ue.out (h'▸e'▸hf)
        ·have:=vW.out i hf;omega
       ·have h1:=ZuX nx N ⟨(v,fl)::fs.map VF.fr,when,low,wait,clock,out⟩ oo.out lT.out;have h2:=uw.out;omega
       ·show 1<=upd when y (clock+1) z
        have:=gh z hz';unfold upd
        split<;>omega)
      go_roundg (gk-1)
      case measure=>have:=uw.out;omega
      case rel=>exact⟨_,_,_,rfl,H9,Qh (bg.out.then_ lr.out (fun i e=>Or.inr (by have:=HG.out;exact(show w.heap.size<=i from e▸this))))⟩)
    ·have r3:((when y:Int)==0)=false:=by rw[beq_eq_false_iff_ne];omega
     have oo:Hid (1<=when y):=Qh (by omega);clear hw0
     by_cases h1:fc=1
     case' pos=>
      subst h1;have HS:=Qh (gI.out (some ad) 0 (by have:=oT.out;rwa [if_pos rfl]at this) (by omega));rw[show fl.length=0 by omega]at HS;go_wp2_with fail
     case' neg=>
      have HS:=Qh (gI.out (some ⟨ad.block,ad.off+1,none⟩) (fc-1) (by have:=oT.out;rwa [if_neg h1]at this) (by omega));go_wp2_with fail
     all_goals (
      generalize wr.setCell ⟨g,k*2+1,none⟩ _=wV at HS ⊢;obtain⟨B,c',hO,hV,jo,sB⟩:=HS.out;have pN:Upd (FT t gw gl go FS FB) w wV:=eC.out.then_ sB (fun i e=>by have:=HG.out;exact Or.inr (show w.heap.size<=i from e▸this));have CH:=Qh (ZwE wV FB gb N _ jo.br y lT.out);have fg:=Qh hO;have jl:=Qh hV;have jr:=Qh jo;have mW:=Qh pN;have fJ:=Qh jo.ne;clear hO hV jo sB pN HS gI oT c0 c1 r1 r2 r3 r4;refine CH.out.mono ?_;rintro e w3 ⟨rfl,rfl⟩;clear CH
      by_cases hin:y∈wait
      ·have kf:decide (y∈wait)=true:=Qt hin;have jp:=Qh hin;clear hin;simp only[kf];clear kf;have e0:=ZeL fg.out (by omega) (i:=k*2) (by rw[Zbl,G1];omega);rw[<-hk,(ZeI ..).1,hk]at e0;have S2:∀W,Upd (One gl) wV W->W.cell? ⟨t,2,none⟩=some (.slice (some ⟨gl,0,none⟩) N N):=fun W u=>(jr.out.blk.upd u (fun e=>jr.out.ne.1.2.1 e)).cell 2
       have S1:∀W,Upd (One gl) wV W->W.cell? ⟨t,1,none⟩=some (.slice (some ⟨gw,0,none⟩) N N):=fun W u=>(jr.out.blk.upd u (fun e=>jr.out.ne.1.2.1 e)).cell 1
       have Sw:∀W,Upd (One gl) wV W->W.cell? ⟨gw,y,none⟩=some (.int .i32 (when y:Int)):=fun W u=>by rw[(jr.out.wh.upd u (fun e=>jr.out.ne.2.1.1 e)).cell];exact ZbQ _ _ lT.out
       have Sn:∀W,Upd (One gl) wV W->W.cell? ⟨g,k*2,none⟩=some (Qi (v:Int)):=fun W u=>u.keep e0.1 (fun e=>d8.out g rfl (Or.inr (Or.inr (Or.inl e))))
       have l1:wV.cell? ⟨gl,v,none⟩=some (.int .i32 (low v:Int)):=by rw[jr.out.lo.cell];exact ZbQ _ _ vp.out
       have v0:(0:Int)<=(v:Int):=Qn _;have v1:(v:Int)<(N:Int):=by have:=vp.out;omega
       have mi:min (low v:Int) (when y:Int)=((min (low v) (when y):Nat):Int):=by omega
       go_wp2;refine wpS (fun W'=>Upd (One gl) wV W') ?_ fun jH=>?_
       ·(first|exact(Il _ _).drew|exact jH|exact jH.trans hu6)
       (iterate 17 refine wpF ?_);refine wpK 18 rfl ?_;refine wpK 19 rfl ?_;refine wpK 20 rfl ?_;refine wpK 21 rfl ?_;refine wpK 22 rfl ?_;refine wpK 23 rfl ?_;refine wpK 24 rfl ?_;refine wpZ 17 rfl fun K hK=>?_;go_simp;refine hK.out _ _ ?_ fun jH=>?_
       ·(first|exact(Il _ _).drew|exact jH|exact jH.trans hu6)
       try simp only[Qa]
       refine wpZ 25 rfl fun K hK=>?_;go_simp
       (first
  |(skip))
       try (go_wp2_with fail)
       refine hK.out _ _ ?_ fun jH=>?_
       ·(first|exact(Il _ _).drew|exact jH|exact jH.trans hu6)
       try simp only[Qa]
       refine wpK 26 rfl ?_;refine wpZ 27 rfl fun K hK=>?_
       (first
  |(refine Zs rfl rfl (g:=gl) (i:=v) (v:= .int .i32 ((min (low v) (when y):Nat):Int)) rfl rfl (jr.out.lo.drew) (by kernel_rfl) (by rw[ZbH];exact vp.out) rfl ?_;intro w6 bQ hu6;have cG:=Qh bQ))
       refine hK.out _ _ ?_ fun jH=>?_
       ·(first|exact(Il _ _).drew|exact jH|exact jH.trans hu6)
       try simp only[Qa]
       refine wpD (Ii ?_);have pZ:=Qh (Zh4 jr.out (way':=(v,fl)::fs.map VF.fr) cG.out jH);have lx:=Qh (Za fg.out jH (fun i hi e=>d8.out i (by simpa[Value.ownBlock]using hi.symm) (Or.inr (Or.inr (Or.inl e)))));have pH:=Qh (jl.out.upd jH (fun i hi e=>hi.2.1 (Or.inr (Or.inr (Or.inl e)))));have eh:=Qh (mW.out.then_ jH (fun i e=>Or.inl (Or.inr (Or.inr (Or.inl e)))));have lW:=Qh (ZqI (low':=upd low v (min (low v) (when y))) uW.out);clear jH bQ hu6 S2 S1 Sw Sn l1 e0 cG;go_wp2;go_roundg (gk-1)
       case measure=>have:=lW.out;omega
       case rel=>exact⟨_,_,_,rfl,Qh ⟨_,⟨v,fl,B,c'⟩::fs,FS',by simp[hk],rfl,lx.out,(fun f hf=>⟨Ints.weak (pH.out f hf).1 (fun i _ hi=>⟨hi.1,hi.2.1,fun e=>hi.2.2 (by simpa[Own,Value.ownBlock,eq_comm]using e)⟩),(pH.out f hf).2⟩),(fun i e=>d8.out i (by simpa[Own,Value.ownBlock,eq_comm]using e)),pZ.out,HI.out.back jp.out,Nat.le_sub_of_add_le lW.out,jh,gh⟩,eh⟩
      ·have kf:decide (y∈wait)=false:=Qf hin;have jp:=Qh hin;clear hin;simp only[kf];clear kf;go_wp2;go_roundg (gk-1)
       case measure=>have:=uw.out;omega
       case rel=>exact⟨_,_,_,rfl,Qh ⟨_,⟨v,fl,B,c'⟩::fs,FS',by simp[hk],rfl,fg.out,(fun f hf=>⟨Ints.weak (jl.out f hf).1 (fun i _ hi=>⟨hi.1,hi.2.1,fun e=>hi.2.2 (by simpa[Own,Value.ownBlock,eq_comm]using e)⟩),(jl.out f hf).2⟩),(fun i e=>d8.out i (by simpa[Own,Value.ownBlock,eq_comm]using e)),jr.out,HI.out.skip oo.out jp.out,by have:=uw.out;show mu nx N ⟨(v,fl)::fs.map VF.fr,when,low,wait,clock,out⟩<=gk-1;omega,jh,gh⟩,mW⟩)
/- Components of a digraph:the labels of all nodes (scc.Labels). -/
theorem Zoe{w:I0}{G:Iw}{p:OA}{N K:Nat}{q:List HArc}(h:DG w G p N K q):Zcw N q:=by
 rcases h with ⟨rfl,rfl,rfl⟩|⟨g,rfl,out,inn,ob,ib,oh,ih,base,h1,h2,h3⟩
 ·exact fun a ha=>by cases ha
 ·intro a ha;have:=h2.r a ha;unfold Zo ZY at this;simp at this;omega
theorem ZmJ{N:Nat}{q:List HArc}(h:Zcw N q)(mask:Int):Zcw N (ofA mask q):=fun a ha=>h a (by
 unfold ofA at ha;exact(Hy.1 ha).1)
theorem ZuI:SlT Tryz.prog 169 21 1 4:=SlT.mk_ Tryz.underlying169 (z:= .int .i32 0) (by kernel_rfl) rfl (by omega)
theorem ZuH:SlT Tryz.prog 27 3 1 8:=SlT.mk_ Tryz.underlying27 (z:= Qi 0) (by kernel_rfl) rfl (by omega)
def Zis(k:IntKind)(m:Nat):Io:=(ZcB k m fun _=>0).toArray
theorem Zhu(k:IntKind)(m:Nat):Zis k m=madeCells #[Value.int k 0] (m*1):=by
 unfold Zis ZcB
 apply Array.ext
 ·simp[madeCells]
 ·intro i h1 h2;simp[madeCells,Nat.mod_one]
theorem Zwa(m:Nat)(hm:m<=100000)(W:I0):(Instr.makeSlice 169 (Qi (m:Int)) (Qi (m:Int))).run Tryz.prog W= .ok (.slice (some ⟨W.heap.size,0,none⟩) m m) (W.alloc (.cells (Zis .i32 m) 21)):=by
 rw[Zhu];exact Zfz W ZuI (z:= .int .i32 0) (by kernel_rfl) m (by omega) (by omega)
theorem Zv9(m:Nat)(hm:m<=100000)(W:I0):(Instr.makeSlice 27 (Qi (m:Int)) (Qi (m:Int))).run Tryz.prog W= .ok (.slice (some ⟨W.heap.size,0,none⟩) m m) (W.alloc (.cells (Zis .i64 m) 3)):=by
 rw[Zhu];exact Zfz W ZuH (z:= Qi 0) (by kernel_rfl) m (by omega) (by omega)
theorem Zxg{W:I0}{G:Iw}{p:OA}{N K:Nat}{q:List HArc}(hD:DG W G p N K q)(pg pm:Addr)(mask:Int)(c1:W.cell? pg=some (.pointer p))(c2:W.cell? pm=some (Qi mask))(i:Int):
  Calls Tryz.prog 130 #[Qi i,.pointer (some pg),.pointer (some pm)] W (Zcs W (nxA i false (ofA mask q))):=by
 have CN:=Qh (Zwq hD i mask);clear hD;go_enter Tryz.func130,Tryz.ntmps130;go_wp2_with fail;refine(CN.out).mono ?_;rintro e w1 ⟨A,c,rfl,ho,hu⟩;have HO:=Qh ho;have HU:=Qh hu;clear ho hu CN;go_wp2;go_ret;exact⟨A,c,rfl,HO.out,HU.out⟩
def LabR(N i:Nat)(v:Iz)(FF:Iw)(W:I0):Prop:=
 (i=6->∃g,v= .pointer (some ⟨g,0,none⟩)∧Sta W FF g (N:Int) [])∧(i=8->∃g,v= .pointer (some ⟨g,0,none⟩)∧BRow W FF g N fun _=>false)∧
 (i=10->∃g,v= .slice (some ⟨g,0,none⟩) N N∧FF g∧Blk W g 3 (ZcB .i64 N fun _=>0))∧
 (i=2∨i=4->∃g,v= .slice (some ⟨g,0,none⟩) N N∧FF g∧Blk W g 21 (ZcB .i32 N fun _=>0))
theorem LabR.upd{N i:Nat}{v:Iz}{FF:Iw}{W W':I0}(h:LabR N i v FF W)(u:Upd No W W'):LabR N i v FF W':=by
 obtain⟨h1,h2,h3,h4⟩:=h;refine⟨fun e=>?_,fun e=>?_,fun e=>?_,fun e=>?_⟩
 ·obtain⟨g,h,k⟩:=h1 e;exact⟨g,h,k.upd u fun _ _=>id⟩
 ·obtain⟨g,h,k⟩:=h2 e;exact⟨g,h,k.upd u fun _ _=>id⟩
 ·obtain⟨g,h,f,k⟩:=h3 e;exact⟨g,h,f,k.upd u id⟩
 ·obtain⟨g,h,f,k⟩:=h4 e;exact⟨g,h,f,k.upd u id⟩
theorem Zvv{w:I0}{G:Iw}{p:OA}{N K:Nat}{q:List HArc}(hD:DG w G p N K q)(hN:N<=4096)(mask:Int):
  Calls Tryz.prog 79 #[.pointer p,Qi mask] w (Zcs w (ZdM N (ofA mask q))):=by
 obtain⟨wa,nn⟩:=Qe ((w.alloc (.cells #[.pointer p] 121)).alloc (.cells #[Qi mask] 3));have ua:Upd No w wa:=by rw[<-nn];exact((Il No w).alloc _).alloc _
 have wS:=hD.upd ua Qo;have k1:wa.cell? ⟨w.heap.size,0,none⟩=some (.pointer p):=by rw[<-nn];simp
 have k2:wa.cell? ⟨w.heap.size+1,0,none⟩=some (Qi mask):=by rw[<-nn];simp
 have HN:=Qh (show ZpH wa wa.heap.size N ⟨w.heap.size,0,none⟩ ⟨w.heap.size+1,0,none⟩ (nxN (ofA mask q)) from by
  intro W i hi hu;have mP:Upd No wa W:=hu.mono fun k hk (h:wa.heap.size<=k)=>by omega
  rw[ZsO (ZmJ (Zoe hD) mask)];exact Zxg (wS.upd mP fun _ _=>id) _ _ mask (mP.keepNo k1) (mP.keepNo k2) i)
 have CN:=Qh (ZfH wS);have HE:=Qh (ZmJ (Zoe hD) mask);have UA:=Qh ua;have pu:=fun W=>Zwa N (by omega) W
 have ej:=fun W=>Zv9 N (by omega) W
 have fN:=Qh hN;clear hD wS ua;go_enter Tryz.func79,Tryz.ntmps79;go_wp2_with fail;refine(CN.out).mono ?_;rintro e w1 ⟨rfl,rfl⟩;go_wp2;refine wpS (fun W=>Upd No wa W) ?_ fun jH=>?_
 ·exact(Il No _).drew
 (iterate 2 refine wpF ?_);refine wpK 3 rfl ?_;refine wpK 5 rfl ?_;refine wpK 7 rfl ?_;refine wpK 9 rfl ?_;refine Zm9 (w0:=wa) [(2,14),(4,16),(6,18),(8,20),(10,22)] (LabR N) (f:=3) (by kernel_rfl) ⟨?s1,?s2,?s3,?s4,?s5,trivial⟩ (fun i v FF w w' h u=>h.upd u) ?rest rfl (by kernel_rfl) jH
 case s1=>
  intro xs W hW K hK;refine⟨_,rfl,?_⟩;simp only[Zcc,Zbt,Act.put,sT,sS,sZ]at hK ⊢;go_simp;exact hK.out _ (fun k=>k=W.heap.size) _ ((Il No W).alloc _) (fun k (e:k=W.heap.size)=>by simp;omega) ⟨fun e=>absurd e (by decide),fun e=>absurd e (by decide),fun e=>absurd e (by decide),fun _=>⟨_,rfl,rfl,Im W _ _⟩⟩
 case s2=>
  intro xs W hW K hK;refine⟨_,rfl,?_⟩;simp only[Zcc,Zbt,Act.put,sT,sS,sZ]at hK ⊢;go_simp;exact hK.out _ (fun k=>k=W.heap.size) _ ((Il No W).alloc _) (fun k (e:k=W.heap.size)=>by simp;omega) ⟨fun e=>absurd e (by decide),fun e=>absurd e (by decide),fun e=>absurd e (by decide),fun _=>⟨_,rfl,rfl,Im W _ _⟩⟩
 case s3=>
  intro xs W hW K hK;refine⟨_,rfl,?_⟩;simp only[Zcc,Zbt,Act.put,sT,sS,sZ]at hK ⊢;go_simp
  go_at_call 132
  refine(Zx2 W (N:Int)).mono ?_;rintro e w' ⟨g,rfl,hg,hs,hu⟩;rw[show Zbc (N:Int)=(N:Int) by unfold Zbc;have:=fN.out;omega]at hs;have HS:=Qh hs;have HU:=Qh hu;have HG:=Qh hg;clear hs hu hg
  try (go_wp2_with fail)
  exact hK.out _ (One g) _ HU.out (fun k (e:k=g)=>by have h1:=HG.out;have h2:=HS.out.lt g rfl;omega) ⟨fun _=>⟨_,rfl,HS.out⟩,fun e=>absurd e (by decide),fun e=>absurd e (by decide),fun e=>absurd e (by decide)⟩
 case s4=>
  intro xs W hW K hK;refine⟨_,rfl,?_⟩;simp only[Zcc,Zbt,Act.put,sT,sS,sZ]at hK ⊢;go_simp
  go_at_call 133
  refine(Zyr W N (Nat.le_trans fN.out (by decide))).mono ?_;rintro e w' ⟨g,rfl,hg,hs,hu⟩;have HS:=Qh hs;have HU:=Qh hu;clear hs hu hg
  try (go_wp2_with fail)
  exact hK.out _ (fun k=>W.heap.size<=k∧k<w'.heap.size) _ HU.out (fun k e=>e) ⟨fun e=>absurd e (by decide),fun _=>⟨_,rfl,HS.out⟩,fun e=>absurd e (by decide),fun e=>absurd e (by decide)⟩
 case s5=>
  intro xs W hW K hK;refine⟨_,rfl,?_⟩;simp only[Zcc,Zbt,Act.put,sT,sS,sZ]at hK ⊢;go_simp;exact hK.out _ (fun k=>k=W.heap.size) _ ((Il No W).alloc _) (fun k (e:k=W.heap.size)=>by simp;omega) ⟨fun e=>absurd e (by decide),fun e=>absurd e (by decide),fun _=>⟨_,rfl,rfl,Im W _ _⟩,fun e=>absurd e (by decide)⟩
 case rest=>
  intro xs FF W hW hR hX;obtain⟨Bq,f8⟩:=hR (2,14) (by simp);obtain⟨Br,d9⟩:=hR (4,16) (by simp);obtain⟨Co,kg⟩:=hR (6,18) (by simp);obtain⟨BP,pU⟩:=hR (8,20) (by simp);obtain⟨rq,lh⟩:=hR (10,22) (by simp);have x24:=hX (2,14) (by simp) (4,16) (by simp) (by decide);have x26:=hX (2,14) (by simp) (6,18) (by simp) (by decide);have x28:=hX (2,14) (by simp) (8,20) (by simp) (by decide);have x2a:=hX (2,14) (by simp) (10,22) (by simp) (by decide);have x46:=hX (4,16) (by simp) (6,18) (by simp) (by decide);have x48:=hX (4,16) (by simp) (8,20) (by simp) (by decide);have x4a:=hX (4,16) (by simp) (10,22) (by simp) (by decide);have x68:=hX (6,18) (by simp) (8,20) (by simp) (by decide);have x6a:=hX (6,18) (by simp) (10,22) (by simp) (by decide);have x8a:=hX (8,20) (by simp) (10,22) (by simp) (by decide);obtain⟨gw,e2,f2,b2⟩:=Bq.2.2.2 (Or.inl rfl);obtain⟨gl,e4,f4,b4⟩:=Br.2.2.2 (Or.inr rfl);obtain⟨gs,e6,st⟩:=Co.1 rfl;obtain⟨gb,e8,br⟩:=BP.2.1 rfl;obtain⟨go,e10,f10,b10⟩:=rq.2.2.1 rfl;simp only at e2 e4 e6 e8 e10 x24 x26 x28 x2a x46 x48 x4a x68 x6a x8a f8 d9 kg pU lh f2 f4 f10 st br;simp only[fl,Zdc,Zcc,Zbt,Act.put,sT,sS,sZ,e2,e4,e6,e8,e10];clear hR hX Bq Br Co BP rq e2 e4 e6 e8 e10;obtain⟨FS,jh⟩:=Qe (FF 6);obtain⟨FB,AM⟩:=Qe (FF 8);rw[jh]at st x26 x46 x68 x6a kg;rw[AM]at br x28 x48 x68 x8a pU
  have HT:=Qh (show∀s:TS,s.when=(fun _=>0)->s.low=(fun _=>0)->s.wait=[]->s.clock=0->s.out=(fun _=>0)->TourW (W.alloc (.cells #[.func (.func 130) #[] #[.pointer (some ⟨w.heap.size,0,none⟩),.pointer (some ⟨w.heap.size+1,0,none⟩)],.slice (some ⟨gw,0,none⟩) N N,.slice (some ⟨gl,0,none⟩) N N,.pointer (some ⟨gs,0,none⟩),.pointer (some ⟨gb,0,none⟩),.int .i32 0,.slice (some ⟨go,0,none⟩) N N] 175)) W.heap.size gw gl go gs gb N
    (.func (.func 130) #[] #[.pointer (some ⟨w.heap.size,0,none⟩),.pointer (some ⟨w.heap.size+1,0,none⟩)]) FS FB s from by
   rintro⟨way,when,low,wait,clock,out⟩ rfl rfl rfl rfl rfl;refine⟨Im W _ _,b2.alloc _,b4.alloc _,b10.alloc _,st.upd ((Il No W).alloc _) Qo,?_,?_,?_⟩
   ·have:=br.upd ((Il No W).alloc (.cells #[.func (.func 130) #[] #[.pointer (some ⟨w.heap.size,0,none⟩),.pointer (some ⟨w.heap.size+1,0,none⟩)],.slice (some ⟨gw,0,none⟩) N N,.slice (some ⟨gl,0,none⟩) N N,.pointer (some ⟨gs,0,none⟩),.pointer (some ⟨gb,0,none⟩),.int .i32 0,.slice (some ⟨go,0,none⟩) N N] 175)) Qo
    simpa using this
   ·have h2:=f8 gw f2;have h4:=d9 gl f4;have ha:=lh go f10;exact⟨⟨by omega,by omega,by omega⟩,⟨fun e=>x24 gw f2 (e▸f4),fun e=>x2a gw f2 (e▸f10),fun e=>x4a gl f4 (e▸f10)⟩,fun e=>by have:=pU _ e;omega,fun e=>x28 gw f2 e,fun e=>x48 gl f4 e,fun e=>x8a go e f10⟩
   ·intro i hi;have h6:=kg i hi;exact⟨by omega,fun e=>x26 gw f2 (e▸hi),fun e=>x46 gl f4 (e▸hi),fun e=>x6a go (e▸hi) f10,fun hb=>x68 i hi hb⟩)
  have HL:=Qh (show∀i,FT W.heap.size gw gl go FS FB i->wa.heap.size<=i from by
   intro i hi;rcases hi with rfl|rfl|rfl|rfl|hi|hi
   ·exact hW.size
   ·exact(f8 _ f2).1
   ·exact(d9 _ f4).1
   ·exact(lh _ f10).1
   ·exact(kg _ hi).1
   ·exact(pU _ hi).1)
  have HW:=Qh hW;clear f8 d9 kg pU lh x24 x26 x28 x2a x46 x48 x4a x68 x6a x8a b2 b4 b10 st br f2 f4 f10 jh AM jH;refine wpK 11 rfl ?_ (hS:=HW.out);refine wpR [12] ?_;refine wpC rfl (fun K hK=>?_) .nil;go_simp;refine hK.out _ _ ?_ fun jH=>?_
  ·exact HW.out.alloc _
  try simp only[Qa]
  refine wpK 13 rfl ?_;refine wpD (Ii ?_);have te:=Qh (HT.out ⟨[],fun _=>0,fun _=>0,[],0,fun _=>0⟩ rfl rfl rfl rfl rfl);have vL:=Qh (show Upd (fun j=>wa.heap.size<=j) wa _ from(jH:Upd No wa _).mono fun _ _ e=>e.elim);have tt:=Qh (show FInv (nxN (ofA mask q)) N ⟨[],fun _=>0,fun _=>0,[],0,fun _=>0⟩ from⟨TInv.start _ _ _,fun y hy=>absurd hy (G6),by simp[Zlx]⟩);have B9:=Qh (show∀i,FS i->wa.heap.size<=i from fun i h=>HL.out i (Or.inr (Or.inr (Or.inr (Or.inr (Or.inl h))))));obtain⟨t,ht⟩:=Qe W.heap.size;rw[ht]at te HL ⊢;have sJ:Hid (wa.heap.size<=t):=Qh (ht▸HW.out.size);clear HT HW ht jH;obtain⟨W0,hW0⟩:∃W0,W.alloc (.cells #[.func (.func 130) #[] #[.pointer (some ⟨w.heap.size,0,none⟩),.pointer (some ⟨w.heap.size+1,0,none⟩)],.slice (some ⟨gw,0,none⟩) N N,.slice (some ⟨gl,0,none⟩) N N,.pointer (some ⟨gs,0,none⟩),.pointer (some ⟨gb,0,none⟩),.int .i32 0,.slice (some ⟨go,0,none⟩) N N] 175)=W0:=⟨_,rfl⟩;rw[hW0]at te vL ⊢;clear hW0 pu ej;go_wp2
  go_loopg [26] N (fun gk i wr=>∃(k:Nat) (s:TS) (FS':Iw),k+gk=N∧i= Qi (k:Int)∧Hid (TourW wr t gw gl go gs gb N (.func (.func 130) #[] #[.pointer (some ⟨w.heap.size,0,none⟩),.pointer (some ⟨w.heap.size+1,0,none⟩)]) FS' FB s)∧Hid (FInv (nxN (ofA mask q)) N s)∧s.way=[]∧Hid (∀j,j<k->1<=s.when j)∧Hid (∀i,FS' i->wa.heap.size<=i)∧Hid (Upd (fun j=>wa.heap.size<=j) wa wr))
  case atStart=>exact⟨0,_,FS,by omega,rfl,te,tt,rfl,Qh (fun j h=>by omega),B9,vL⟩
  case round=>
   clear te tt B9 vL;obtain⟨k,s,FS',aI,rfl,hT,hI,dC,fd,hF,hU⟩:=hrel
   by_cases hk:k<N
   ·have h1:(k:Int)<(N:Int):=by omega
    have h0:(0:Int)<=(k:Int):=Qn _;have c1:=hT.out.blk.cell 1;have c2:wr.cell? ⟨gw,k,none⟩=some (.int .i32 (s.when k:Int)):=by rw[hT.out.wh.cell];exact ZbQ _ _ hk
    simp only[Qz,Qs]at c1;have kw:IntKind.i64.wrap ((k:Int)+1)=(k:Int)+1:=by have:=fN.out;exact IntWalk.i64_in _ (by omega)
    by_cases hw0:s.when k=0
    ·have r0:((s.when k:Int)==0)=true:=by rw[hw0];rfl
     have CF:=Qh (ZwV wa wr wa.heap.size t gw gl go gs gb N k _ _ _ FS' FB s HN.out hU.out (fun i hi=>by
      rcases hi with h|h|h|h|h|h
      ·exact HL.out i (Or.inl h)
      ·exact HL.out i (Or.inr (Or.inl h))
      ·exact HL.out i (Or.inr (Or.inr (Or.inl h)))
      ·exact HL.out i (Or.inr (Or.inr (Or.inr (Or.inl h))))
      ·exact hF.out i h
      ·exact HL.out i (Or.inr (Or.inr (Or.inr (Or.inr (Or.inr h)))))) hU.out.size hT.out hI.out dC hk hw0 fN.out (fun i _ y hy=>Zv8 HE.out hy))
     go_wp2_with fail;refine(CF.out).mono ?_;rintro e w3 ⟨rfl,s',lS,lH,mI,p9,sF,ic,pT,hu3⟩;have fL:=Qh mI;have vJ:=Qh p9;have xX:=Qh (show∀i,lS i->wa.heap.size<=i from fun i h=>(lH i h).elim (hF.out i) (fun h=>Nat.le_trans hU.out.size h))
     have lz:=Qh (show∀j,j<k+1->1<=s'.when j from fun j hj=>by
      rcases Nat.lt_or_ge j k with h|h
      ·exact pT j (fd.out j h)
      ·obtain rfl:j=k:=by omega
       exact ic)
     have bg:=Qh (show Upd (fun j=>wa.heap.size<=j) wa w3 from hU.out.trans (hu3.mono (fun i _ hi=>by
      rcases hi with h|h|h|h|h|h
      ·exact HL.out i (Or.inl h)
      ·exact HL.out i (Or.inr (Or.inl h))
      ·exact HL.out i (Or.inr (Or.inr (Or.inl h)))
      ·exact HL.out i (Or.inr (Or.inr (Or.inr (Or.inl h))))
      ·exact hF.out i h
      ·exact HL.out i (Or.inr (Or.inr (Or.inr (Or.inr (Or.inr h))))))))
     clear mI p9 lH ic pT hu3 hT hI hF fd hU CF;go_wp2;go_roundg (gk-1);exact⟨k+1,s',lS,by omega,by simp,fL,vJ,sF,lz,xX,bg⟩;omega
    ·have r0:((s.when k:Int)==0)=false:=by rw[beq_eq_false_iff_ne];omega
     have lz:=Qh (show∀j,j<k+1->1<=s.when j from fun j hj=>by
      rcases Nat.lt_or_ge j k with h|h
      ·exact fd.out j h
      ·obtain rfl:j=k:=by omega
       omega)
     clear hw0;go_wp2;go_roundg (gk-1);exact⟨k+1,s,FS',by omega,by simp,hT,hI,dC,lz,hF,hU⟩;omega
   ·have h1:¬((k:Int)<(N:Int)):=by omega
    have c6:=hT.out.blk.cell 6;simp only[Qz,Qs]at c6;go_wp2;have hl:(ZdM N (ofA mask q)).length=N:=by unfold ZdM;simp
    refine bodyPost_ret (v:= .slice (some ⟨go,0,none⟩) N N) (by simp[results,Tryz.results79,go_sem]) rfl ?_
    have lL:ZcB .i64 N s.out=(ZdM N (ofA mask q)).map (Value.int .i64):=by
     unfold ZcB ZdM;rw[List.map_map];refine List.map_congr_left fun i hi=>?_
     have hi':=Ic.1 hi;have oK:=hI.out.inv.lab i (fd.out i (by omega)) (by rw[hI.out.inv.none_waits dC];exact G6)
     show Value.int .i64 (s.out i:Int)=Value.int .i64 (Zb8 (ofA mask q) i:Int)
     rw[oK.one (ZjS HE.out i)]
    refine⟨some ⟨go,0,none⟩,N,by rw[hl],?_,UA.out.trans (hU.out.mono (fun i hi (e:wa.heap.size<=i)=>by omega))⟩;rw[hl,<-lL];exact Zbh hT.out.ou (Nat.le_trans UA.out.size (HL.out go (Or.inr (Or.inr (Or.inr (Or.inl rfl)))))) (Nat.le_refl _) (by rw[ZbH,Nat.mul_one]) (by rw[Nat.mul_one,List.take_of_length_le (by rw[ZbH];exact Nat.le_refl _)]) (by have:=fN.out;simp only[maxLen];omega) (by rw[ZbH,Nat.mul_one])
/- Components of a digraph:parts that grow,in memory:an own row of own rows. -/
structure PV where
 A:Option Addr
 c:Nat
 l:List Nat
def PV.v(p:PV):Iz:= .slice p.A p.l.length p.c
def Zxi(l:Iu):Ip:=l.map fun x:Nat=>Value.int .i64 (x:Int)
structure PartsW (w:World) (base:Nat) (O:Value) (ps:List PV):Prop where
 own:w.ownsRow base 27 1 O ps.length (ps.map PV.v)
 rows:∀(i:Nat) (p:PV),ps[i]? =some p->w.ownsRow base 3 1 p.v p.l.length (Zxi p.l)
 apart:∀(i:Nat) (p:PV),ps[i]? =some p->∀k,Own p.v k->¬Own O k
 two:∀(i j:Nat) (p q:PV),i≠j->ps[i]? =some p->ps[j]? =some q->∀k,Own p.v k->¬Own q.v k
