/- Components of a digraph: what the search has in memory; a node is met. -/
import Derived.Test.YtonblekdfinpkaaGreatSxaf
import Derived.Test.YtonblekdfinpkaaGreatSxai
import Derived.Test.YtonblekdfinpkaaGreatSxal
import Derived.Test.YtonblekdfinpkaaGreatSxam
import Derived.Test.YtonblekdfinpkaaGreatSxbj
import Derived.Test.YtonblekdfinpkaaGreatSxbn
namespace Go.Proofs.YtonblekdfinpkaaGreat
set_option linter.unusedVariables false
set_option linter.unusedSimpArgs false
section
open Go.RowKit
def ZbB (k:IntKind) (N:Nat) (f:Nat→Nat):List Value:=(List.range N).map fun i=>Value.int k (f i:Int)
theorem ZaU (k:IntKind) (N:Nat) (f:Nat→Nat):(ZbB k N f).length=N:=by unfold ZbB;simp
theorem Za2 (k:IntKind) {N:Nat} (f:Nat→Nat) {x:Nat} (hx:x<N):(ZbB k N f)[x]? =some (.int k (f x:Int)):=by
 unfold ZbB;rw[List.getElem?_map,List.getElem?_range hx];rfl
theorem Zeo (k:IntKind) {N:Nat} (f:Nat→Nat) (x v:Nat):(ZbB k N f).set x (.int k (v:Int))=ZbB k N (upd f x v):=by
 apply List.ext_getElem?
 intro j;rw[List.getElem?_set];unfold ZbB
 by_cases hj:j<N
 ·rw[List.getElem?_map,List.getElem?_map,List.getElem?_range hj]
  by_cases e:x=j
  ·subst e;rw[if_pos rfl,if_pos (by simpa using hj)];simp[upd]
  ·rw[if_neg e];simp[upd,Ne.symm e]
 ·rw[List.getElem?_map,List.getElem?_map,List.getElem?_eq_none (by simpa using hj)]
  split
  ·rename_i e;rw[if_neg (by simpa[e]using hj)];rfl
  ·rfl
structure TourW (w:World) (t gw gl go gs gb N:Nat) (fv:Value) (FS FB:Nat→Prop) (s:TS):Prop where
 blk:Blk w t 174 [fv,.slice (some ⟨gw,0,none⟩) N N,.slice (some ⟨gl,0,none⟩) N N,.pointer (some ⟨gs,0,none⟩),.pointer (some ⟨gb,0,none⟩),.int .i32 (s.clock:Int),.slice (some ⟨go,0,none⟩) N N]
 wh:Blk w gw 21 (ZbB .i32 N s.when)
 lo:Blk w gl 21 (ZbB .i32 N s.low)
 ou:Blk w go 3 (ZbB .i64 N s.out)
 st:Sta w FS gs (N:Int) (s.wait.map fun x:Nat=>(x:Int))
 br:BRow w FB gb N (fun i=>decide (i∈s.wait))
 ne:(t≠gw∧t≠gl∧t≠go)∧(gw≠gl∧gw≠go∧gl≠go)∧¬FB t∧¬FB gw∧¬FB gl∧¬FB go
 sn:∀i,FS i→i≠t∧i≠gw∧i≠gl∧i≠go∧¬FB i
def FT (t gw gl go:Nat) (FS FB:Nat→Prop):Nat→Prop:=fun i=>i=t∨i=gw∨i=gl∨i=go∨FS i∨FB i
theorem TourW.upd {w w':World} {t gw gl go gs gb N:Nat} {fv:Value} {FS FB S:Nat→Prop} {s:TS} (h:TourW w t gw gl go gs gb N fv FS FB s) (k:Upd S w w') (hn:∀i,FT t gw gl go FS FB i→¬S i):TourW w' t gw gl go gs gb N fv FS FB s:=
 ⟨h.blk.upd k (hn _ (Or.inl rfl)),h.wh.upd k (hn _ (Or.inr (Or.inl rfl))),h.lo.upd k (hn _ (Or.inr (Or.inr (Or.inl rfl)))),h.ou.upd k (hn _ (Or.inr (Or.inr (Or.inr (Or.inl rfl))))),
  h.st.upd k (fun i hi=>hn _ (Or.inr (Or.inr (Or.inr (Or.inr (Or.inl hi)))))),h.br.upd k (fun i hi=>hn _ (Or.inr (Or.inr (Or.inr (Or.inr (Or.inr hi)))))),h.ne,h.sn⟩
theorem TourW.lt {w:World} {t gw gl go gs gb N:Nat} {fv:Value} {FS FB:Nat→Prop} {s:TS} (h:TourW w t gw gl go gs gb N fv FS FB s):∀i,FT t gw gl go FS FB i→i<w.heap.size:=by
 intro i hi;rcases hi with rfl|rfl|rfl|rfl|hi|hi
 ·exact h.blk.lt
 ·exact h.wh.lt
 ·exact h.lo.lt
 ·exact h.ou.lt
 ·exact h.st.lt i hi
 ·obtain⟨_,_,_,_,_,hl,_⟩:=h.br;exact hl i hi
end
/- Components of a digraph:a node is met (scc.tour.meet). -/
section
open Go.RowKit
def Zmh (w0:World) (z0 N:Nat) (pg pm:Addr) (nx:Nat→List Nat):Prop:=
 ∀(W:World) (i:Nat),i<N→Upd (fun j=>z0≤j) w0 W→Calls Tryz.prog 106 #[.int .i64 (i:Int),.pointer (some pg),.pointer (some pm)] W (Zc2 W ((nx i).map fun x:Nat=>(x:Int)))
set_option maxRecDepth 100000 in
set_option maxHeartbeats 4000000 in
theorem Zpm (w0 w:World) (z0 t gw gl go gs gb N x:Nat) (pg pm:Addr) (nx:Nat→List Nat) (FS FB:Nat→Prop) (s:TS)
  (HN:Zmh w0 z0 N pg pm nx) (hu:Upd (fun j=>z0≤j) w0 w) (hz:∀i,FT t gw gl go FS FB i→z0≤i)
  (H:TourW w t gw gl go gs gb N (.func (.func 106) #[] #[.pointer (some pg),.pointer (some pm)]) FS FB s) (hx:x<N) (hN:N≤4096) (hf:s.wait.length<N) (hxw:x∉s.wait) (hc:s.clock<N):
  Calls Tryz.prog 179 #[.pointer (some ⟨t,0,none⟩),.int .i64 (x:Int)] w fun e w'=>
   ∃FS' A c,e= .returned (.agg #[.int .i64 (x:Int),.slice A (nx x).length c])∧(∀i,FS' i→FS i∨w.heap.size≤i)∧
    TourW w' t gw gl go gs gb N (.func (.func 106) #[] #[.pointer (some pg),.pointer (some pm)]) FS' FB (s.meet nx x)∧Ints (fun i=>w.heap.size≤i∧¬FT t gw gl go FS' FB i) w' A ((nx x).map fun y:Nat=>(y:Int))∧(nx x).length≤c∧Upd (FT t gw gl go FS FB) w w':=by
 obtain⟨v,hv⟩:∃v,w.heap.size=v:=⟨_,rfl⟩;obtain⟨wa,hwa⟩:∃wa,w.alloc (.cells #[.int .i64 0,.slice none 0 0] 248)=wa:=⟨_,rfl⟩;have ua:Upd No w wa:=by rw[←hwa];exact(Upd.refl No w).alloc _
 have bV:Blk wa v 248 [.int .i64 0,.slice none 0 0]:=by rw[←hwa,←hv];exact Blk.new w _ _
 have HA:=Qh (H.upd ua (fun _ _=>id));have c5:=HA.out.blk.cell 5;have f5:=HA.out.blk.free 5;simp only[Qz,Qs]at c5;have w5:IntKind.i32.wrap ((s.clock:Int)+1)=(s.clock:Int)+1:=IntWalk.i32_in _ (by omega);have hHB:=HA.out.blk.set_ 5 (.int .i32 ((s.clock:Int)+1));simp only[List.set_cons_zero,List.set_cons_succ]at hHB;have hUc:Upd (One t) wa (wa.setCell ⟨t,5,none⟩ (.int .i32 ((s.clock:Int)+1))):=(Upd.refl (One t) wa).setOne 5 _;have hne:=HA.out.ne;have HWc:=Qh (HA.out.wh.upd hUc (fun e=>hne.1.1 e.symm));have HLc:=Qh (HA.out.lo.upd hUc (fun e=>hne.1.2.1 e.symm));have HOc:=Qh (HA.out.ou.upd hUc (fun e=>hne.1.2.2 e.symm));have HSc:=Qh (HA.out.st.upd hUc (fun i hi e=>(HA.out.sn i hi).1 e));have HBc:=Qh (HA.out.br.upd hUc (fun i hi e=>hne.2.2.1 (show FB t from e▸hi)));have HVc:=Qh (bV.upd hUc (fun e=>by have:=HA.out.lt t (Or.inl rfl);have h2:=bV.lt;have h3:=H.blk.lt;unfold One at e;omega));have UC:=Qh ((ua.mono (S:=No) (T:=FT t gw gl go FS FB) (fun _ _ e=>e.elim)).trans (hUc.mono (fun i _ e=>Or.inl e)));have HTc:=Qh hHB;have HNE:=Qh hne;have HSN:=Qh H.sn;have HLT:=Qh H.lt;have HVL:=Qh (show∀i,FT t gw gl go FS FB i→i≠v from fun i hi e=>by have:=H.lt i hi;omega)
 go_enter Tryz.func179,Tryz.ntmps179
 go_wp2;obtain⟨wc,hwc⟩:∃wc,wa.setCell ⟨t,5,none⟩ (.int .i32 ((s.clock:Int)+1))=wc:=⟨_,rfl⟩;rw[hwc]at HWc HLc HOc HSc HBc HVc UC HTc ⊢;clear hwc hHB hUc c5 f5 hwa ua bV;obtain⟨S,hS⟩:∃S:Nat→Prop,S=fun i=>i=gw∨i=gl:=⟨_,rfl⟩
 have hSt:¬S t:=by rw[hS];intro e;rcases e with e|e;exact HNE.out.1.1 e;exact HNE.out.1.2.1 e
 have HSI:=Qh (show∀i,S i↔i=gw∨i=gl by rw[hS];exact fun _=>Iff.rfl);clear hS;have t1:∀W,Upd S wc W→W.cell? ⟨t,1,none⟩=some (.slice (some ⟨gw,0,none⟩) N N):=fun W u=>(HTc.out.upd u hSt).cell 1
 have t2:∀W,Upd S wc W→W.cell? ⟨t,2,none⟩=some (.slice (some ⟨gl,0,none⟩) N N):=fun W u=>(HTc.out.upd u hSt).cell 2
 have t5:∀W,Upd S wc W→W.cell? ⟨t,5,none⟩=some (.int .i32 ((s.clock:Int)+1)):=fun W u=>(HTc.out.upd u hSt).cell 5
 have hz0:Upd S wc wc:=Upd.refl _ _;have x0:(0:Int)≤(x:Int):=Qn _;have x1:(x:Int)<(N:Int):=by omega
 have HX:=Qh hx;refine wp_region_noPanic ?_;refine wp_region_held_drew (S:=(fun W'=>Upd S wc W')) (by kernel_rfl) ?_ (fun hHeld=> ?_)
 ·(first|exact hz0.drew|exact hU7|exact hU6|exact hHeld)
 refine wpK 0 rfl ?_;refine wpK 1 rfl ?_;refine wpK 2 rfl ?_;refine wpK 3 rfl ?_;refine wpK 4 rfl ?_;refine wpK 5 rfl ?_;refine wpK 6 rfl ?_;refine wpK 7 rfl ?_;refine wpK 8 rfl ?_;refine wpK 9 rfl ?_;refine wpK 10 rfl ?_;refine wpK 11 rfl ?_;refine wpK 12 rfl ?_;refine wpK 13 rfl ?_;refine wpK 14 rfl ?_;refine wpK 15 rfl ?_;refine wpK 16 rfl ?_;refine wpK 17 rfl ?_;refine wpK 18 rfl ?_;refine wpR [19] ?_;refine wpC rfl (fun K hK=> ?_) AllReadyH.nil
 (first
  |(refine Zt rfl rfl (g:=gw) (i:=x) (v:= .int .i32 ((s.clock:Int)+1)) rfl rfl (HWc.out.drew) (by kernel_rfl) (by rw[ZaU];exact HX.out) rfl ?_;intro w6 hb6 hu6;have hU6:Upd S wc w6:=hHeld.trans (hu6.mono (fun i _ e=>(HSI.out i).2 (Or.inl e)));have HW6:=Qh hb6;have HL6:=Qh (HLc.out.upd hu6.of_drew (fun e=>HNE.out.2.1.1 e.symm)))
  |(refine Zt rfl rfl (g:=gl) (i:=x) (v:= .int .i32 ((s.clock:Int)+1)) rfl rfl HL6.out (by kernel_rfl) (by rw[ZaU];exact HX.out) rfl ?_;intro w7 hb7 hu7;have hU7:Upd S wc w7:=hHeld.trans (hu7.mono (fun i _ e=>(HSI.out i).2 (Or.inr e)));have HL7:=Qh hb7;have HW7:=Qh (HW6.out.upd hu7 (fun e=>HNE.out.2.1.1 e))))
 refine hK.out _ _ ?_ (fun hHeld=> ?_)
 ·(first|exact hz0.drew|exact hU7|exact hU6|exact hHeld)
 clear hK K
 try simp only[Act.put,sT,sS,sZ]
 refine wpK 20 rfl ?_;refine wpR [21] ?_;refine wpC rfl (fun K hK=> ?_) AllReadyH.nil
 (first
  |(refine Zt rfl rfl (g:=gw) (i:=x) (v:= .int .i32 ((s.clock:Int)+1)) rfl rfl (HWc.out.drew) (by kernel_rfl) (by rw[ZaU];exact HX.out) rfl ?_;intro w6 hb6 hu6;have hU6:Upd S wc w6:=hHeld.trans (hu6.mono (fun i _ e=>(HSI.out i).2 (Or.inl e)));have HW6:=Qh hb6;have HL6:=Qh (HLc.out.upd hu6.of_drew (fun e=>HNE.out.2.1.1 e.symm)))
  |(refine Zt rfl rfl (g:=gl) (i:=x) (v:= .int .i32 ((s.clock:Int)+1)) rfl rfl HL6.out (by kernel_rfl) (by rw[ZaU];exact HX.out) rfl ?_;intro w7 hb7 hu7;have hU7:Upd S wc w7:=hHeld.trans (hu7.mono (fun i _ e=>(HSI.out i).2 (Or.inr e)));have HL7:=Qh hb7;have HW7:=Qh (HW6.out.upd hu7 (fun e=>HNE.out.2.1.1 e))))
 refine hK.out _ _ ?_ (fun hHeld=> ?_)
 ·(first|exact hz0.drew|exact hU7|exact hU6|exact hHeld)
 clear hK K
 try simp only[Act.put,sT,sS,sZ]
 refine wpD (NoPanic.normal ?_);have hT7:=HTc.out.upd hHeld hSt;have HO7:=Qh (HOc.out.upd hHeld (fun e=>by rcases(HSI.out _).1 e with e|e;exact HNE.out.2.1.2.1 e.symm;exact HNE.out.2.1.2.2 e.symm));have hS7:=HSc.out.upd hHeld (fun i hi e=>by have:=HSN.out i hi;rcases(HSI.out _).1 e with e|e;exact this.2.1 e;exact this.2.2.1 e);have HB7:=Qh (HBc.out.upd hHeld (fun i hi e=>by rcases(HSI.out _).1 e with e|e;exact HNE.out.2.2.2.1 (e▸hi);exact HNE.out.2.2.2.2.1 (e▸hi)));have HV7:=Qh (HVc.out.upd hHeld (fun e=>by rcases(HSI.out _).1 e with e|e;exact HVL.out gw (Or.inr (Or.inl rfl)) e.symm;exact HVL.out gl (Or.inr (Or.inr (Or.inl rfl))) e.symm));have U7:=Qh (UC.out.trans (hHeld.mono (fun i _ e=>by rcases(HSI.out _).1 e with e|e;exact Or.inr (Or.inl e);exact Or.inr (Or.inr (Or.inl e)))));have g3:=hT7.cell 3;simp only[Qz,Qs]at g3;have HT7:=Qh hT7;clear t1 t2 t5 hz0 hb6 hu6 hU6 hb7 hu7 hU7 hHeld hT7 x0 x1;have CP:=Qh (ZrW w7 FS gs (N:Int) _ (x:Int) hS7 (by omega) (by omega) (by rw[List.length_map];omega));clear hS7
 go_wp2_with fail
 refine(CP.out).mono ?_;rintro e w8 ⟨rfl,FS',hF',hS8,hu8⟩;have hT8:=HT7.out.upd hu8 (fun e=>(HSN.out t e).1 rfl);have g4:=hT8.cell 4;simp only[Qz,Qs]at g4;have HT8:=Qh hT8;have HB8:=Qh (HB7.out.upd hu8 (fun i hi e=>(HSN.out i e).2.2.2.2 hi));have HV8:=Qh (HV7.out.upd hu8 (fun e=>HVL.out v (Or.inr (Or.inr (Or.inr (Or.inr (Or.inl e))))) rfl));have HW8:=Qh (HW7.out.upd hu8 (fun e=>(HSN.out gw e).2.1 rfl));have HL8:=Qh (HL7.out.upd hu8 (fun e=>(HSN.out gl e).2.2.1 rfl));have HO8:=Qh (HO7.out.upd hu8 (fun e=>(HSN.out go e).2.2.2.1 rfl));have U8:=Qh (U7.out.trans (hu8.mono (fun i _ e=>Or.inr (Or.inr (Or.inr (Or.inr (Or.inl e)))))));have HS8:=Qh hS8;have HSZ:=Qh U7.out.size;have HF':=Qh hF';have HVlt:=Qh HV7.out.lt
 have HSN':=Qh (show∀i,FS' i→i≠t∧i≠gw∧i≠gl∧i≠go∧¬FB i∧i≠v from fun i hi=>by
  rcases HF'.out i hi with h|h
  ·have h2:=HSN.out i h;exact⟨h2.1,h2.2.1,h2.2.2.1,h2.2.2.2.1,h2.2.2.2.2,HVL.out i (Or.inr (Or.inr (Or.inr (Or.inr (Or.inl h)))))⟩
  ·have k:∀j,FT t gw gl go FS FB j→i≠j:=fun j hj e=>by have:=HLT.out j hj;have:=HSZ.out;omega
   exact⟨k t (Or.inl rfl),k gw (Or.inr (Or.inl rfl)),k gl (Or.inr (Or.inr (Or.inl rfl))),k go (Or.inr (Or.inr (Or.inr (Or.inl rfl)))),fun e=>k i (Or.inr (Or.inr (Or.inr (Or.inr (Or.inr e))))) rfl,fun e=>by have:=HVlt.out;omega⟩)
 clear g3 hT8 hS8 hu8 hF' HT7 HB7 HV7 HO7;have CB:=Qh (ZrD w8 FB gb N _ HB8.out x HX.out true);obtain⟨bo,hbo⟩:∃bo,(decide (x∈s.wait) != true)=bo:=⟨_,rfl⟩;rw[hbo]at CB;clear hbo
 go_wp2_with fail
 refine(CB.out).mono ?_;rintro e w9 ⟨rfl,hB9,hu9⟩;have hT9:=HT8.out.upd hu9 HNE.out.2.2.1;have g0:=hT9.cell 0;simp only[Qz]at g0;have HT9:=Qh hT9;have HV9:=Qh (HV8.out.upd hu9 (fun e=>HVL.out v (Or.inr (Or.inr (Or.inr (Or.inr (Or.inr e))))) rfl));have HW9:=Qh (HW8.out.upd hu9 HNE.out.2.2.2.1);have HL9:=Qh (HL8.out.upd hu9 HNE.out.2.2.2.2.1);have HO9:=Qh (HO8.out.upd hu9 HNE.out.2.2.2.2.2);have HS9:=Qh (HS8.out.upd hu9 (fun i hi e=>(HSN'.out i hi).2.2.2.2.1 e));have U9:=Qh (U8.out.trans (hu9.mono (fun i _ e=>Or.inr (Or.inr (Or.inr (Or.inr (Or.inr e)))))));have HB9:=Qh hB9;have CN:=Qh (HN w9 x HX.out (hu.trans (U9.out.mono (fun i _ h=>hz i h))));clear hT9 hB9 hu9 g4 HT8 HV8 HW8 HL8 HO8 HS8 U8 CB
 go_wp2_with fail
 refine(CN.out).mono ?_;rintro e w10 ⟨A,c,rfl,ho10,hu10⟩;simp only[List.length_map]at ho10 ⊢;have hV10:=HV9.out.upd hu10 id;have v0:=hV10.cell 0;have v1:=hV10.cell 1;have q0:=hV10.free 0;have q1:=hV10.free 1;simp only[Qz,Qs]at v0 v1;have HV10:=Qh hV10;have HI10:=Qh (show Ints (fun i=>w9.heap.size≤i) w10 A ((nx x).map fun y:Nat=>(y:Int)) from Ints.of_owned (by rw[List.length_map];exact ho10));have HU10:=Qh hu10
 have HLC:=Qh (show(nx x).length≤c from by
  rcases Nat.eq_zero_or_pos (nx x).length with e|e
  ·omega
  ·obtain⟨_,_,_,_,_,hnc,_⟩:=Za3 ho10 e;exact hnc)
 clear ho10 hu10 hV10 g0;go_wp2;have hb2:=(HV10.out.set_ 0 (.int .i64 (x:Int))).set_ 1 (.slice A (nx x).length c);simp only[List.set_cons_zero,List.set_cons_succ]at hb2;have r0:=hb2.cell 0;have r1:=hb2.cell 1;simp only[Qz,Qs]at r0 r1;have u11:Upd (One v) w10 ((w10.setCell ⟨v,0,none⟩ (.int .i64 (x:Int))).setCell ⟨v,1,none⟩ (.slice A (nx x).length c)):=((Upd.refl (One v) w10).setOne 0 _).setOne 1 _;have hvl:∀i,FT t gw gl go FS FB i→¬One v i:=fun i hi e=>HVL.out i hi e
 have e1:((s.clock+1:Nat):Int)=(s.clock:Int)+1:=by omega
 refine bodyPost_ret (v:= .agg #[.int .i64 (x:Int),.slice A (nx x).length c]) (by simp[results,Tryz.results179,go_sem,r0,r1]) rfl ⟨FS',A,c,rfl,fun i hi=> ?_,?_,?_,HLC.out,?_⟩
 ·rcases HF'.out i hi with h|h
  ·exact Or.inl h
  ·right;have:=HSZ.out;omega
 ·refine⟨?_,?_,?_,?_,?_,?_,HNE.out,fun i hi=> ?_⟩
  ·have:=(HT9.out.upd HU10.out id).upd u11 (hvl _ (Or.inl rfl));unfold TS.meet;rw[e1];exact this
  ·have:=(HW9.out.upd HU10.out id).upd u11 (hvl _ (Or.inr (Or.inl rfl)));rw[←e1,Zeo]at this;exact this
  ·have:=(HL9.out.upd HU10.out id).upd u11 (hvl _ (Or.inr (Or.inr (Or.inl rfl))));rw[←e1,Zeo]at this;exact this
  ·exact(HO9.out.upd HU10.out id).upd u11 (hvl _ (Or.inr (Or.inr (Or.inr (Or.inl rfl)))))
  ·exact(HS9.out.upd HU10.out (fun _ _=>id)).upd u11 (fun i hi e=>(HSN'.out i hi).2.2.2.2.2 e)
  ·have:=(HB9.out.upd HU10.out (fun _ _=>id)).upd u11 (fun i hi=>hvl i (Or.inr (Or.inr (Or.inr (Or.inr (Or.inr hi))))))
   have e2:Zdo (fun i=>decide (i∈s.wait)) x true=fun i=>decide (i∈(s.meet nx x).wait):=by
    funext i
    unfold Zdo TS.meet
    by_cases e:i=x<;>simp[e]
   rwa [e2]at this
  ·have:=HSN'.out i hi;exact⟨this.1,this.2.1,this.2.2.1,this.2.2.2.1,this.2.2.2.2.1⟩
 ·have h1:w.heap.size≤w9.heap.size:=U9.out.size;have h2:v<w9.heap.size:=HV9.out.lt
  have k:∀i,FT t gw gl go FS' FB i→i<w9.heap.size:=by
   intro i hi;rcases hi with rfl|rfl|rfl|rfl|hi|hi
   ·exact HT9.out.lt
   ·exact HW9.out.lt
   ·exact HL9.out.lt
   ·exact HO9.out.lt
   ·exact HS9.out.lt i hi
   ·obtain⟨_,_,_,_,_,hl,_⟩:=HB9.out;exact hl i hi
  exact Ints.weak (HI10.out.upd u11 (fun i (hi:w9.heap.size≤i) (e:i=v)=>by omega)) (fun i _ (hi:w9.heap.size≤i)=>⟨by omega,fun hf=>by have:=k i hf;omega⟩)
 ·exact(U9.out.trans (HU10.out.mono (fun _ _ e=>e.elim))).then_ u11 (fun i e=>Or.inr (by unfold One at e;omega))
end
/- Components of a digraph:a node ends (scc.tour.leave);slices.Min. -/
section
open Go.RowKit
def ZbV:Int→List Int→Int
 |a,[]=>a
 |a,x::l=>ZbV (min a x) l
theorem ZkR:∀(l:List Int) (a:Int),ZbV a l≤a∧∀x∈l,ZbV a l≤x
 |[],a=>⟨Int.le_refl _,by simp⟩
 |y::l,a=>by
  obtain⟨h1,h2⟩:=ZkR l (min a y);refine⟨?_,fun x hx=> ?_⟩
  ·show ZbV (min a y) l≤a;omega
  ·show ZbV (min a y) l≤x
   rcases List.mem_cons.1 hx with rfl|hx
   ·omega
   ·exact h2 x hx
theorem ZjG:∀(l:List Int) (a:Int),ZbV a l=a∨ZbV a l∈l
 |[],a=>Or.inl rfl
 |y::l,a=>by
  show ZbV (min a y) l=a∨ZbV (min a y) l∈y::l
  rcases ZjG l (min a y)with h|h
  ·rw[h]
   by_cases hc:a≤y
   ·left;omega
   ·right;rw[show min a y=y by omega];simp
  ·exact Or.inr (List.mem_cons_of_mem _ h)
set_option maxRecDepth 100000 in
theorem ZsO (w:World) (F:Nat→Prop) (A:Option Addr) (c:Nat) (x0:Int) (l:List Int) (h:Ints F w A (x0::l)) (hl:l.length≤100000):
  Calls Tryz.prog 222 #[.slice A (x0::l).length c] w fun e w'=>e= .returned (.int .i64 (ZbV x0 l))∧w=w':=by
 obtain⟨ad,hA,_,_,q0⟩:=h.at_ (k:=0) (by simp);subst hA;have q0':w.cell? (ad.add 0)=some (.int .i64 x0):=q0;rw[show ad.add 0=ad by simp[Addr.add]]at q0';obtain⟨n,hn⟩:∃n,(x0::l).length=n:=⟨_,rfl⟩;have hn1:n=l.length+1:=by rw[←hn];rfl
 rw[hn];have b1:decide ((n:Int)<1)=false:=decide_eq_false (by omega);have b2:(0:Int)<(n:Int):=by omega
 have hnl:n≤100001:=by omega
 have hnp:1≤n:=by omega
 have HH:=Qh h;have HN:=Qh hn;clear h hn q0 hn1 hl
 go_enter Tryz.func222,Tryz.ntmps222
 go_wp2
 go_loopg [3,4] (n-1) (fun gk m i wr=>∃(k:Nat) (a:Int),k+gk=n∧1≤k∧i= .int .i64 k∧m= .int .i64 a∧Hid (ZbV a ((x0::l).drop k)=ZbV x0 l)∧w=wr)
 case atStart=>exact⟨1,x0,by omega,by omega,rfl,rfl,Qh rfl,rfl⟩
 case round=>
  obtain⟨k,a,hgk,hk1,rfl,rfl,hs,rfl⟩:=hrel
  by_cases hlt:k<n
  ·have hlt2:k<(x0::l).length:=by rw[HN.out];exact hlt
   obtain⟨ad2,hA2,_,_,q1⟩:=HH.out.at_ hlt2
   cases hA2
   obtain⟨y,hy⟩:∃y,(x0::l)[k]=y:=⟨_,rfl⟩;have hst:=hs.out;rw[List.drop_eq_getElem_cons hlt2,hy]at hst;rw[hy]at q1;obtain⟨M,hM⟩:∃M,min a y=M:=⟨_,rfl⟩;have HS:=Qh (show ZbV M ((x0::l).drop (k+1))=ZbV x0 l by rw[←hM];exact hst);have c1:(0:Int)≤(k:Int):=Qn _;have c2:(k:Int)<(n:Int):=by omega
   clear hst hy;go_wp2
   go_roundg (gk-1)
   case measure=>omega
   case rel=>exact⟨k+1,M,by omega,by omega,by go_num,rfl,HS,rfl⟩
  ·obtain rfl:k=n:=by omega
   have HS:=Qh (show a=ZbV x0 l by have:=hs.out;rwa [List.drop_eq_nil_of_le (by rw[HN.out];exact Nat.le_refl _)]at this);go_wp2
   go_ret
   exact⟨by rw[←HS.out];rfl,rfl⟩
end
/- Components of a digraph:a node ends (scc.tour.leave). -/
section
open Go.RowKit
theorem Zmt (w:World) (t gw gl go gs gb N x:Nat) (fv:Value) (FS FB:Nat→Prop) (s:TS) (H:TourW w t gw gl go gs gb N fv FS FB s) (hx:x<N) (hl:s.low x≠s.when x):
  Calls Tryz.prog 180 #[.pointer (some ⟨t,0,none⟩),.int .i64 (x:Int)] w fun e w'=>e= .returned (.tuple #[])∧Upd No w w':=by
 have c1:∀W,Upd No w W→W.cell? ⟨t,1,none⟩=some (.slice (some ⟨gw,0,none⟩) N N):=fun W u=>(H.blk.upd u id).cell 1
 have c2:∀W,Upd No w W→W.cell? ⟨t,2,none⟩=some (.slice (some ⟨gl,0,none⟩) N N):=fun W u=>(H.blk.upd u id).cell 2
 have k1:∀W,Upd No w W→W.cell? ⟨gw,x,none⟩=some (.int .i32 (s.when x:Int)):=fun W u=>by rw[(H.wh.upd u id).cell];exact Za2 _ _ hx
 have k2:∀W,Upd No w W→W.cell? ⟨gl,x,none⟩=some (.int .i32 (s.low x:Int)):=fun W u=>by rw[(H.lo.upd u id).cell];exact Za2 _ _ hx
 obtain⟨a,ha⟩:∃a,s.low x=a:=⟨_,rfl⟩;obtain⟨b,hb⟩:∃b,s.when x=b:=⟨_,rfl⟩;rw[ha]at k2;rw[hb]at k1;have e1:((a:Int) != (b:Int))=true:=by rw[bne_iff_ne];omega
 have x0:(0:Int)≤(x:Int):=Qn _;have x1:(x:Int)<(N:Int):=by omega
 have hr:Upd No w w:=Upd.refl _ _;clear H ha hb hl
 go_enter Tryz.func180,Tryz.ntmps180
 go_wp2;refine wp_region_noPanic ?_;refine wp_region_held_drew (S:=(fun W'=>Upd No w W')) (by kernel_rfl) ?_ (fun hHeld=> ?_)
 ·(first|exact hr.drew|exact hHeld)
 refine wpK 0 rfl ?_;refine wpK 1 rfl ?_;refine wpK 2 rfl ?_;refine wpK 3 rfl ?_;refine wpK 4 rfl ?_;refine wpK 5 rfl ?_;refine wpK 6 rfl ?_;refine wpK 7 rfl ?_;refine wpK 8 rfl ?_;refine wpK 9 rfl ?_;refine wpK 10 rfl ?_;refine wpK 11 rfl ?_;refine wpK 12 rfl ?_;refine wpK 13 rfl ?_;refine wpK 14 rfl ?_;refine wpD (NoPanic.normal ?_);have HH:=Qh hHeld;clear hHeld;go_wp2;refine bodyPost_ret (results_none rfl _ _ _) rfl ⟨rfl,HH.out⟩
def ZdZ (P:List Nat) (m:Nat) (f:Nat→Nat) (j:Nat):Nat→Nat:=fun i=>if i∈P.take j then m else f i
theorem ZmV {P:List Nat} {m:Nat} {f:Nat→Nat} {j:Nat} (hj:j<P.length):ZdZ P m f (j+1)=upd (ZdZ P m f j) P[j] m:=by
 funext i
 show(if i∈P.take (j+1) then m else f i)=if i=P[j] then m else if i∈P.take j then m else f i
 rw[List.take_succ_eq_append_getElem hj];simp only[List.mem_append,List.mem_singleton]
 by_cases e:i=P[j]
 ·rw[if_pos (Or.inr e),if_pos e]
 ·rw[if_neg e]
  by_cases h:i∈P.take j
  ·rw[if_pos (Or.inl h),if_pos h]
  ·rw[if_neg h,if_neg (fun hh=>hh.elim h e)]
set_option maxRecDepth 100000 in
set_option maxHeartbeats 4000000 in
theorem ZqS (w:World) (t gw gl go gs gb N x:Nat) (fv:Value) (FS FB:Nat→Prop) (s:TS) (top rest:List Nat) (H:TourW w t gw gl go gs gb N fv FS FB s) (hx:x<N) (hl:s.low x=s.when x)
  (hs:s.wait=top++x::rest) (hn:x∉top) (hN:N≤4096) (hall:∀y∈s.wait,y<N) (hw:s.wait.length≤N) (hnd:s.wait.Nodup):
  Calls Tryz.prog 180 #[.pointer (some ⟨t,0,none⟩),.int .i64 (x:Int)] w fun e w'=>e= .returned (.tuple #[])∧∃m out',m∈top++[x]∧(∀y∈top++[x],m≤y)∧(∀y,out' y=if y∈top++[x] then m else s.out y)∧
   TourW w' t gw gl go gs gb N fv FS FB ⟨s.way,s.when,s.low,rest,s.clock,out'⟩∧Upd (FT t gw gl go FS FB) w w':=by
 have c1:∀W,Upd No w W→W.cell? ⟨t,1,none⟩=some (.slice (some ⟨gw,0,none⟩) N N):=fun W u=>(H.blk.upd u id).cell 1
 have c2:∀W,Upd No w W→W.cell? ⟨t,2,none⟩=some (.slice (some ⟨gl,0,none⟩) N N):=fun W u=>(H.blk.upd u id).cell 2
 have k1:∀W,Upd No w W→W.cell? ⟨gw,x,none⟩=some (.int .i32 (s.when x:Int)):=fun W u=>by rw[(H.wh.upd u id).cell];exact Za2 _ _ hx
 have k2:∀W,Upd No w W→W.cell? ⟨gl,x,none⟩=some (.int .i32 (s.low x:Int)):=fun W u=>by rw[(H.lo.upd u id).cell];exact Za2 _ _ hx
 obtain⟨b,hb⟩:∃b,s.when x=b:=⟨_,rfl⟩;rw[hl,hb]at k2;rw[hb]at k1;have e1:((b:Int) != (b:Int))=false:=by simp
 have x0:(0:Int)≤(x:Int):=Qn _;have x1:(x:Int)<(N:Int):=by omega
 have hr:Upd No w w:=Upd.refl _ _
 have hH0:TourW w t gw gl go gs gb N fv FS FB ⟨s.way,s.when,s.low,top.drop 0++x::rest,s.clock,s.out⟩:=by
  rw[List.drop_zero,←hs];exact H
 have HH0:=Qh hH0;clear hH0;have HS:=Qh hs;have HLT:=Qh H.lt;have HX:=Qh hx;have HALL:=Qh hall;have HWL:=Qh hw;have HND:=Qh hnd;have HNT:=Qh hn;clear H hb hl hs hall hw hnd
 go_enter Tryz.func180,Tryz.ntmps180
 go_wp2
 go_quiet (fail)
 have hq:Upd No w (w.drewN nq):=(Upd.refl No w).drewN nq
 generalize (w.drewN nq)=wq at*
 have T0:=Qh (HH0.out.upd hq (fun _ _=>id));have U0:=Qh (hq.mono (T:=FT t gw gl go FS FB) (fun _ _ e=>e.elim));clear c1 c2 k1 k2 e1 hr hq;go_wp2
 go_loopg [4] top.length (fun gk part wr=>∃(k:Nat) (A:Option Addr) (c:Nat),k+gk=top.length∧part= .slice A k c∧Hid (TourW wr t gw gl go gs gb N fv FS FB ⟨s.way,s.when,s.low,top.drop k++x::rest,s.clock,s.out⟩)∧Hid (wr.ownsRow w.heap.size 3 1 (.slice A k c) k ((top.take k).map fun y:Nat=>Value.int .i64 (y:Int)))∧Hid (Upd (FT t gw gl go FS FB) w wr))
 case atStart=>exact⟨0,none,0,by omega,rfl,T0,Qh (World.ownsRow_nil _ _ _ _),U0⟩
 case round=>
  clear T0 U0;obtain⟨k,A,c,hgk,rfl,hT,hown,hU⟩:=hrel;have hk:k≤top.length:=by omega
  obtain⟨y,ys,hy⟩:∃y ys,top.drop k++x::rest=y::ys:=by
   cases h:top.drop k with
   |nil=>exact⟨x,rest,rfl⟩
   |cons a l=>exact⟨a,l++x::rest,rfl⟩
  have hT':TourW wr t gw gl go gs gb N fv FS FB ⟨s.way,s.when,s.low,y::ys,s.clock,s.out⟩:=hy▸hT.out;have hsub:(y::ys).Sublist s.wait:=by rw[←hy,HS.out];exact(List.drop_sublist k top).append (List.Sublist.refl _)
  have hyN:y<N:=HALL.out y (hsub.subset (List.mem_cons_self ..));have hyn:y∉ys:=(List.nodup_cons.1 (HND.out.sublist hsub)).1;have hlen:(y::ys).length≤N:=Nat.le_trans hsub.length_le HWL.out;have CP:=Qh (ZsM wr FS gs (N:Int) (y:Int) (ys.map fun z:Nat=>(z:Int)) hT'.st (by rw[List.length_map];simp only[List.length_cons]at hlen;omega));have g3:=hT'.blk.cell 3;have g4:=hT'.blk.cell 4;simp only[Qz,Qs]at g3 g4;have HT':=Qh hT';have HY:=Qh hy;have HYN:=Qh hyN;have HYn:=Qh hyn
  have hkl:k≤4096:=by
   have:=HWL.out;rw[HS.out,List.length_append]at this;omega
  clear hT' hy hsub hyN hyn hlen hT
  go_wp2_with fail
  refine(CP.out).mono ?_;rintro e w2 ⟨rfl,hS2,hu2⟩;have hT2:=HT'.out.blk.upd hu2 (fun e=>(HT'.out.sn t e).1 rfl);have q4:=hT2.cell 4;simp only[Qz,Qs]at q4;have HB2:=Qh (HT'.out.br.upd hu2 (fun i hi e=>(HT'.out.sn i e).2.2.2.2 hi));have CB:=Qh (ZrD w2 FB gb N _ HB2.out y HYN.out false);obtain⟨bo,hbo⟩:∃bo,(decide (y∈(⟨s.way,s.when,s.low,y::ys,s.clock,s.out⟩:TS).wait) != false)=bo:=⟨_,rfl⟩;rw[hbo]at CB;clear hbo
  go_wp2_with fail
  refine(CB.out).mono ?_;rintro e w3 ⟨rfl,hB3,hu3⟩;have hu23:Upd (FT t gw gl go FS FB) wr w3:=(hu2.mono (fun i _ e=>Or.inr (Or.inr (Or.inr (Or.inr (Or.inl e)))))).trans (hu3.mono (fun i _ e=>Or.inr (Or.inr (Or.inr (Or.inr (Or.inr e))))));have hFW:∀i,Own (.slice A k c) i→¬FT t gw gl go FS FB i:=fun i e hf=>by have:=(hown.out.lt i e).1;have:=HLT.out i hf;omega
  have HO3:=Qh (Zb hown.out hu23 hFW)
  have HT3:Hid (TourW w3 t gw gl go gs gb N fv FS FB ⟨s.way,s.when,s.low,ys,s.clock,s.out⟩):=Qh (by
   have a:=HT'.out;have nb:=a.ne.2.2;refine⟨hT2.upd hu3 nb.1,(a.wh.upd hu2 (fun e=>(a.sn gw e).2.1 rfl)).upd hu3 nb.2.1,(a.lo.upd hu2 (fun e=>(a.sn gl e).2.2.1 rfl)).upd hu3 nb.2.2.1,(a.ou.upd hu2 (fun e=>(a.sn go e).2.2.2.1 rfl)).upd hu3 nb.2.2.2,hS2.upd hu3 (fun i hi e=>(a.sn i hi).2.2.2.2 e),?_,a.ne,a.sn⟩
   have e2:Zdo (fun i=>decide (i∈(⟨s.way,s.when,s.low,y::ys,s.clock,s.out⟩:TS).wait)) y false=fun i=>decide (i∈ys):=by
    funext i
    unfold Zdo
    by_cases e:i=y
    ·subst e;simp[HYn.out]
    ·simp[e]
   rwa [e2]at hB3)
  have HU3:=Qh (hU.out.trans hu23);have hw3:w.heap.size≤w3.heap.size:=HU3.out.size;have HFW:=Qh hFW;have HOW:=Qh (fun i e=>hown.out.lt i e);clear g3 g4 q4 hT2 hS2 hu2 hu3 hB3 hu23 HT' HB2 CP CB hU hFW hown
  by_cases hkt:k<top.length
  ·have hd:top.drop k=top[k]::top.drop (k+1):=List.drop_eq_getElem_cons hkt;have hy2:=HY.out;rw[hd,List.cons_append]at hy2;obtain⟨e1,e2⟩:=List.cons.inj hy2;have hyx:y≠x:=fun e=>HNT.out (by rw[←e,←e1];exact List.getElem_mem hkt)
   have eb:((y:Int)==(x:Int))=false:=by rw[beq_eq_false_iff_ne];omega
   have HTS:=Qh (show(top.take (k+1)).map (fun z:Nat=>Value.int .i64 (z:Int))=(top.take k).map (fun z:Nat=>Value.int .i64 (z:Int))++[.int .i64 (y:Int)] by rw[List.take_succ_eq_append_getElem hkt,List.map_append,e1];rfl);have HYS:=Qh e2.symm;clear hd hy2 e1 e2 hyx
   go_wp2_with (at_builtin;refine ZbT rfl rfl ZeN (v:= .slice A k c) (cells:=[.int .i64 (y:Int)]) (by rfl) rfl HO3.out rfl rfl (by omega) (by omega) (by omega) ?_;intro g9 c9 w9 hown9 hu9 hg9 hlt9)
   have HT9:Hid (TourW w9 t gw gl go gs gb N fv FS FB ⟨s.way,s.when,s.low,top.drop (k+1)++x::rest,s.clock,s.out⟩):=Qh (by
    have:=HT3.out.upd hu9 (fun i hf e=>HFW.out i e hf)
    rwa [HYS.out]at this)
   have HU9:=Qh (HU3.out.then_ hu9 (fun i e=>Or.inr (HOW.out i e).1));have HO9:=Qh (show w9.ownsRow w.heap.size 3 1 (.slice (some ⟨g9,0,none⟩) (k+1) c9) (k+1) ((top.take (k+1)).map fun y:Nat=>Value.int .i64 (y:Int)) by rw[HTS.out];exact hown9);clear hown9 hu9 hg9 hlt9;go_wp2
   go_roundg (gk-1)
   case measure=>omega
   case rel=>exact⟨k+1,some ⟨g9,0,none⟩,c9,by omega,rfl,HT9,HO9,HU9⟩
  ·have hkl2:k=top.length:=by omega
   have hy2:=HY.out;rw[hkl2,List.drop_length,List.nil_append]at hy2;obtain⟨e1,e2⟩:=List.cons.inj hy2;have eb:((y:Int)==(x:Int))=true:=by rw[beq_iff_eq];omega
   have HTS:=Qh (show(top++[x]).map (fun z:Nat=>Value.int .i64 (z:Int))=(top.take k).map (fun z:Nat=>Value.int .i64 (z:Int))++[.int .i64 (y:Int)] by rw[hkl2,List.take_length,List.map_append,e1];rfl);have HYS:=Qh e2.symm;have HKL:=Qh hkl2;clear hy2 e1 e2 hkl2
   go_wp2_with (at_builtin;refine ZbT rfl rfl ZeN (v:= .slice A k c) (cells:=[.int .i64 (y:Int)]) (by rfl) rfl HO3.out rfl rfl (by omega) (by omega) (by omega) ?_;intro g9 c9 w9 hown9 hu9 hg9 hlt9)
   have hT9:TourW w9 t gw gl go gs gb N fv FS FB ⟨s.way,s.when,s.low,rest,s.clock,s.out⟩:=by
    have:=HT3.out.upd hu9 (fun i hf e=>HFW.out i e hf)
    rwa [HYS.out]at this
   have HT9:=Qh hT9;have HU9:=Qh (HU3.out.then_ hu9 (fun i e=>Or.inr (HOW.out i e).1))
   obtain⟨z0,zl,hz⟩:∃z0 zl,top++[x]=z0::zl:=by
    cases top with
    |nil=>exact⟨x,[],rfl⟩
    |cons a l=>exact⟨a,l++[x],rfl⟩
   have hzl:zl.length=k:=by
    have:=congrArg List.length hz;rw[List.length_append,List.length_cons,HKL.out]at*;simp at this;omega
   have hI9:Ints (fun i=>w.heap.size≤i) w9 (some ⟨g9,0,none⟩) ((z0:Int)::zl.map fun z:Nat=>(z:Int)):=by
    have h1:=hown9;rw[←HTS.out,hz]at h1;refine Ints.of_owned (c:=c9) ?_;simp only[List.length_cons,List.length_map,List.map_cons,List.map_map]at h1 ⊢;rw[hzl];exact h1
   obtain⟨m,hm1,hm2,hm3⟩:∃m:Nat,ZbV (z0:Int) (zl.map fun z:Nat=>(z:Int))=(m:Int)∧m∈top++[x]∧∀y∈top++[x],m≤y:=by
    obtain⟨l1,l2⟩:=ZkR (zl.map fun z:Nat=>(z:Int)) (z0:Int);rw[hz];rcases ZjG (zl.map fun z:Nat=>(z:Int)) (z0:Int)with h|h
    ·refine⟨z0,h,List.mem_cons_self ..,fun y hy=> ?_⟩;rcases List.mem_cons.1 hy with rfl|hy
     ·exact Nat.le_refl _
     ·have:=l2 (y:Int) (List.mem_map.2 ⟨y,hy,rfl⟩);omega
    ·obtain⟨m,hm,hme⟩:=List.mem_map.1 h;refine⟨m,hme.symm,List.mem_cons_of_mem _ hm,fun y hy=> ?_⟩;rcases List.mem_cons.1 hy with rfl|hy
     ·omega
     ·have:=l2 (y:Int) (List.mem_map.2 ⟨y,hy,rfl⟩);omega
   have hlenP:(((z0:Int)::zl.map fun z:Nat=>(z:Int)):List Int).length=k+1:=by simp[hzl]
   have CM:=Qh (ZsO w9 _ (some ⟨g9,0,none⟩) c9 (z0:Int) (zl.map fun z:Nat=>(z:Int)) hI9 (by rw[List.length_map,hzl];omega));rw[hlenP,hm1]at CM;have HI9:=Qh hI9;have HM2:=Qh hm2;have HM3:=Qh hm3;have HZ:=Qh hz;have HZL:=Qh hzl;have hjz:(z0::zl).length=k+1:=by rw[List.length_cons,hzl]
   have HJZ:=Qh hjz
   have HPN:=Qh (show∀y∈z0::zl,y<N from fun y hy=>HALL.out y (by
    rw[←hz]at hy;rw[HS.out];rcases List.mem_append.1 hy with h|h
    ·exact List.mem_append_left _ h
    ·exact List.mem_append_right _ (by rw[List.mem_singleton.1 h];simp)))
   have H0:=Qh (show TourW w9 t gw gl go gs gb N fv FS FB ⟨s.way,s.when,s.low,rest,s.clock,ZdZ (z0::zl) m s.out 0⟩ from by
    have e:ZdZ (z0::zl) m s.out 0=s.out:=by funext i;simp[ZdZ]
    rw[e];exact hT9)
   clear hown9 hu9 hg9 hlt9 hT9 HT9 hz hzl hI9 hm1 hm2 hm3 hlenP hjz HTS HYS HY HT3 HO3 HU3
   generalize gk=GK at*
   go_wp2_with fail
   refine(CM.out).mono ?_;rintro e w10 ⟨rfl,rfl⟩;go_wp2
   go_loopg [52] (k+1) (fun gj i wr=>∃j:Nat,j+gj=k+1∧i= .int .i64 j∧Hid (TourW wr t gw gl go gs gb N fv FS FB ⟨s.way,s.when,s.low,rest,s.clock,ZdZ (z0::zl) m s.out j⟩)∧Hid (Ints (fun i=>w.heap.size≤i) wr (some ⟨g9,0,none⟩) ((z0:Int)::zl.map fun z:Nat=>(z:Int)))∧Hid (Upd (FT t gw gl go FS FB) w wr))
   case atStart=>exact⟨0,by omega,rfl,H0,HI9,HU9⟩
   case round=>
    clear H0 HI9 HU9;obtain⟨j,hgj,rfl,hT,hI,hU⟩:=hrel
    by_cases hj:j<k+1
    ·have hj1:j<(z0::zl).length:=by rw[HJZ.out];exact hj
     have hj2:j<((z0:Int)::zl.map fun z:Nat=>(z:Int)).length:=by simp only[List.length_cons,List.length_map]at hj1 ⊢;exact hj1
     obtain⟨ad,hA,_,_,q0⟩:=hI.out.at_ hj2;obtain⟨y',hy'⟩:∃y',(z0::zl)[j]=y':=⟨_,rfl⟩
     have hq:((z0:Int)::zl.map fun z:Nat=>(z:Int))[j]=(y':Int):=by
      have:((z0:Int)::zl.map fun z:Nat=>(z:Int))=(z0::zl).map fun z:Nat=>(z:Int):=rfl
      simp only[this,List.getElem_map,hy']
     rw[hq]at q0
     cases hA
     rw[show(⟨g9,0,none⟩:Addr).add j=⟨g9,j,none⟩ by unfold Addr.add;split<;>simp_all]at q0;have hyN:y'<N:=HPN.out y' (by rw[←hy'];exact List.getElem_mem hj1);have g6:=hT.out.blk.cell 6;simp only[Qz,Qs]at g6;have o1:wr.cell? ⟨go,y',none⟩=some (.int .i64 (ZdZ (z0::zl) m s.out j y':Int)):=by rw[hT.out.ou.cell];exact Za2 _ _ hyN
     have fz:=hT.out.ou.free y';have j0:(0:Int)≤(j:Int):=Qn _;have j1:(j:Int)<((k+1:Nat):Int):=by omega
     have y0:(0:Int)≤(y':Int):=Qn _;have y1:(y':Int)<(N:Int):=by omega
     have uS:Upd (One go) wr (wr.setCell ⟨go,y',none⟩ (.int .i64 (m:Int))):=(Upd.refl (One go) wr).setOne y' _
     have HT2:=Qh (show TourW (wr.setCell ⟨go,y',none⟩ (.int .i64 (m:Int))) t gw gl go gs gb N fv FS FB ⟨s.way,s.when,s.low,rest,s.clock,ZdZ (z0::zl) m s.out (j+1)⟩ from by
      have a:=hT.out;refine⟨a.blk.upd uS (fun e=>a.ne.1.2.2 e),a.wh.upd uS (fun e=>a.ne.2.1.2.1 e),a.lo.upd uS (fun e=>a.ne.2.1.2.2 e),?_,a.st.upd uS (fun i hi e=>(a.sn i hi).2.2.2.1 e),a.br.upd uS (fun i hi e=>a.ne.2.2.2.2.2 (show FB go from e▸hi)),a.ne,a.sn⟩;have:=a.ou.set_ y' (.int .i64 (m:Int));rw[Zeo]at this;rw[ZmV hj1,hy'];exact this)
     have HI2:=Qh (hI.out.upd uS (fun i (hi:w.heap.size≤i) (e:i=go)=>by have:=HLT.out go (Or.inr (Or.inr (Or.inr (Or.inl rfl))));omega));have HU2:=Qh (hU.out.trans (uS.mono (fun i _ e=>Or.inr (Or.inr (Or.inr (Or.inl e))))));clear hq hy' uS hT hI hU;go_wp2
     go_roundg (gk-1)
     case measure=>omega
     case rel=>exact⟨j+1,by omega,by go_num,HT2,HI2,HU2⟩
    ·obtain rfl:j=k+1:=by omega
     go_wp2;refine bodyPost_end (results_none rfl _ _ _) rfl ⟨rfl,m,ZdZ (z0::zl) m s.out (k+1),HM2.out,HM3.out,fun y=> ?_,hT.out,hU.out⟩;unfold ZdZ;rw[←HJZ.out,List.take_length,HZ.out]
end
/- Components of a digraph:the nodes under way,in memory. -/
section
open Go.RowKit
theorem Zor {w:World} {base size:Nat} {e:TypeId} {A:Option Addr} {c n:Nat} {xs ys:List Value} (h:w.ownsRow base e size (.slice A (n+1) c) (n+1) (xs++ys)) (hy:ys.length=size):
  w.ownsRow base e size (.slice A n c) n xs:=by
 obtain⟨g,cur,rfl,hg,hb,hnc,hl,hx,hc⟩:=Za3 h (by omega);have h1:=h.1;rw[List.length_append,hy,Nat.succ_mul]at h1;refine Zam hb hg (by omega) hl ?_ hc (by omega);have h2:=congrArg (List.take (n*size)) hx;have hle:n*size≤(n+1)*size:=Nat.mul_le_mul_right _ (by omega);rw[List.take_take,Nat.min_eq_left hle,List.take_append_of_le_length (by omega),List.take_of_length_le (l:=xs) (by omega)]at h2;exact h2
theorem Zdw {w:World} {base size:Nat} {e:TypeId} {g c n:Nat} {xs:List Value} (h:w.ownsRow base e size (.slice (some ⟨g,0,none⟩) n c) n xs) (hn:0<n) {i:Nat} (hi:i<xs.length):w.cell? ⟨g,i,none⟩=xs[i]?∧w.frozen? ⟨g,i,none⟩=false:=by
 obtain⟨g',cur,e1,hg,hb,hnc,hl,hx,hc⟩:=Za3 h hn
 cases e1
 refine⟨?_,hb.free i⟩;rw[hb.cell,←hx,List.getElem?_take,if_pos];rw[←hx,List.length_take]at hi;omega
theorem Zp4 {w:World} {base size:Nat} {e:TypeId} {g c n:Nat} {xs:List Value} (h:w.ownsRow base e size (.slice (some ⟨g,0,none⟩) n c) n xs) (hn:0<n) (i:Nat) (v:Value):
  (w.setCell ⟨g,i,none⟩ v).ownsRow base e size (.slice (some ⟨g,0,none⟩) n c) n (xs.set i v):=by
 obtain⟨g',cur,e1,hg,hb,hnc,hl,hx,hc⟩:=Za3 h hn
 cases e1
 refine Zam (hb.set_ i v) hg hnc (by rw[List.length_set];exact hl) ?_ hc (by rw[List.length_set];exact h.1);rw[←hx,List.take_set]
structure VF where
 node:Nat
 l:List Nat
 A:Option Addr
 c:Nat
def VF.cells (f:VF):List Value:=[.int .i64 (f.node:Int),.slice f.A f.l.length f.c]
def VF.fr (f:VF):Nat×List Nat:=(f.node,f.l)
def ZbN (fs:List VF):List Value:=(fs.reverse.map VF.cells).flatten
theorem ZbM (f:VF) (fs:List VF):ZbN (f::fs)=ZbN fs++f.cells:=by unfold ZbN;simp
theorem ZaB:∀fs:List VF,(ZbN fs).length=fs.length*2
 |[]=>rfl
 |f::fs=>by rw[ZbM,List.length_append,ZaB fs,List.length_cons,Nat.succ_mul];rfl
theorem Zdq (f:VF) (fs:List VF):(ZbN (f::fs))[fs.length*2]? =some (.int .i64 (f.node:Int))∧(ZbN (f::fs))[fs.length*2+1]? =some (.slice f.A f.l.length f.c):=by
 rw[ZbM];have:=ZaB fs
 constructor
 ·rw[List.getElem?_append_right (by omega),this,Nat.sub_self];rfl
 ·rw[List.getElem?_append_right (by omega),this,Nat.add_sub_cancel_left];rfl
theorem ZmF (f:VF) (fs:List VF) (l:List Nat) (A:Option Addr) (c:Nat):(ZbN (f::fs)).set (fs.length*2+1) (.slice A l.length c)=ZbN (⟨f.node,l,A,c⟩::fs):=by
 rw[ZbM,ZbM,List.set_append_right _ _ (by rw[ZaB];omega),ZaB,Nat.add_sub_cancel_left];rfl
def VFs (w:World) (NB:Nat→Prop) (fs:List VF):Prop:=∀f∈fs,Ints NB w f.A (f.l.map fun x:Nat=>(x:Int))∧f.l.length≤f.c
theorem VFs.upd {w w':World} {NB S:Nat→Prop} {fs:List VF} (h:VFs w NB fs) (k:Upd S w w') (hn:∀i,NB i→¬S i):VFs w' NB fs:=fun f hf=>⟨(h f hf).1.upd k hn,(h f hf).2⟩
end
end Go.Proofs.YtonblekdfinpkaaGreat
