/- Components of a digraph: what the search has in memory; a node is met. -/
import Derived.Test.YtfcefnpnomlgbaaMaf
import Derived.Test.YtfcefnpnomlgbaaMai
import Derived.Test.YtfcefnpnomlgbaaMak
import Derived.Test.YtfcefnpnomlgbaaMbg
import Derived.Test.YtfcefnpnomlgbaaMbj
namespace Go.Proofs.Ytfcefnpnomlgbaa
set_option linter.unusedSimpArgs false
set_option linter.unusedVariables false
open Go.RowKit
def ZS (k:IntKind) (N:Nat) (f:Nat→Nat):List Value:=(List.range N).map fun i=>Value.int k (f i:Int)
theorem ZB (k:IntKind) (N:Nat) (f:Nat→Nat):(ZS k N f).length=N:=by unfold ZS;simp
theorem ZH (k:IntKind) {N:Nat} (f:Nat→Nat) {x:Nat} (hx:x<N):(ZS k N f)[x]? =some (.int k (f x:Int)):=by
 unfold ZS
 rw[List.getElem?_map,List.getElem?_range hx];rfl
theorem Zbi (k:IntKind) {N:Nat} (f:Nat→Nat) (x v:Nat):(ZS k N f).set x (.int k (v:Int))=ZS k N (upd f x v):=by
 apply List.ext_getElem?
 intro j
 rw[List.getElem?_set]
 unfold ZS
 by_cases hj:j<N
 ·rw[List.getElem?_map,List.getElem?_map,List.getElem?_range hj]
  by_cases e:x=j
  ·subst e
   rw[if_pos rfl,if_pos (by simpa using hj)]
   simp[upd]
  ·rw[if_neg e]
   simp[upd,Ne.symm e]
 ·rw[List.getElem?_map,List.getElem?_map,List.getElem?_eq_none (by simpa using hj)]
  split
  ·rename_i e;rw[if_neg (by simpa[e]using hj)];rfl
  ·rfl
structure TourW (w:World) (t gw gl go gs gb N:Nat) (fv:Value) (FS FB:Nat→Prop) (s:TS):Prop where
 blk:Blk w t 59 [fv,.slice (some ⟨gw,0,none⟩) N N,.slice (some ⟨gl,0,none⟩) N N,.pointer (some ⟨gs,0,none⟩),.pointer (some ⟨gb,0,none⟩),.int .i32 (s.clock:Int),.slice (some ⟨go,0,none⟩) N N]
 wh:Blk w gw 21 (ZS .i32 N s.when)
 lo:Blk w gl 21 (ZS .i32 N s.low)
 ou:Blk w go 3 (ZS .i64 N s.out)
 st:Sta w FS gs (N:Int) (s.wait.map fun x:Nat=>(x:Int))
 br:BRow w FB gb N (fun i=>decide (i∈s.wait))
 ne:(t≠gw∧t≠gl∧t≠go)∧(gw≠gl∧gw≠go∧gl≠go)∧¬FB t∧¬FB gw∧¬FB gl∧¬FB go
 sn:∀i,FS i→i≠t∧i≠gw∧i≠gl∧i≠go∧¬FB i
def FT (t gw gl go:Nat) (FS FB:Nat→Prop):Nat→Prop:=fun i=>i=t∨i=gw∨i=gl∨i=go∨FS i∨FB i
theorem TourW.upd {w w':World} {t gw gl go gs gb N:Nat} {fv:Value} {FS FB S:Nat→Prop} {s:TS} (h:TourW w t gw gl go gs gb N fv FS FB s) (k:Upd S w w') (hn:∀i,FT t gw gl go FS FB i→¬S i):TourW w' t gw gl go gs gb N fv FS FB s:=
 ⟨h.blk.upd k (hn _ (Or.inl rfl)),h.wh.upd k (hn _ (Or.inr (Or.inl rfl))),h.lo.upd k (hn _ (Or.inr (Or.inr (Or.inl rfl)))),h.ou.upd k (hn _ (Or.inr (Or.inr (Or.inr (Or.inl rfl))))),
  h.st.upd k (fun i hi=>hn _ (Or.inr (Or.inr (Or.inr (Or.inr (Or.inl hi)))))),h.br.upd k (fun i hi=>hn _ (Or.inr (Or.inr (Or.inr (Or.inr (Or.inr hi)))))),h.ne,h.sn⟩
theorem TourW.lt {w:World} {t gw gl go gs gb N:Nat} {fv:Value} {FS FB:Nat→Prop} {s:TS} (h:TourW w t gw gl go gs gb N fv FS FB s):∀i,FT t gw gl go FS FB i→i<w.heap.size:=by
 intro i hi
 rcases hi with rfl|rfl|rfl|rfl|hi|hi
 ·exact h.blk.lt
 ·exact h.wh.lt
 ·exact h.lo.lt
 ·exact h.ou.lt
 ·exact h.st.lt i hi
 ·obtain⟨_,_,_,_,_,hl,_⟩:=h.br
  exact hl i hi
end Go.Proofs.Ytfcefnpnomlgbaa
/- Components of a digraph:a node is met (scc.tour.meet). -/
namespace Go.Proofs.Ytfcefnpnomlgbaa
set_option linter.unusedSimpArgs false
set_option linter.unusedVariables false
open Go.RowKit
def Zeo (w0:World) (z0 N:Nat) (pg pm:Addr) (nx:Nat→List Nat):Prop:=
 ∀(W:World) (i:Nat),i<N→Upd (fun j=>z0≤j) w0 W→Calls Try.prog 27 #[.int .i64 (i:Int),.pointer (some pg),.pointer (some pm)] W (ZaX W ((nx i).map fun x:Nat=>(x:Int)))
set_option maxRecDepth 100000 in
set_option maxHeartbeats 4000000 in
theorem Zfx (w0 w:World) (z0 t gw gl go gs gb N x:Nat) (pg pm:Addr) (nx:Nat→List Nat) (FS FB:Nat→Prop) (s:TS)
  (HN:Zeo w0 z0 N pg pm nx) (hu:Upd (fun j=>z0≤j) w0 w) (hz:∀i,FT t gw gl go FS FB i→z0≤i)
  (H:TourW w t gw gl go gs gb N (.func (.func 27) #[] #[.pointer (some pg),.pointer (some pm)]) FS FB s) (hx:x<N) (hN:N≤4096) (hf:s.wait.length<N) (hxw:x∉s.wait) (hc:s.clock<N):
  Calls Try.prog 43 #[.pointer (some ⟨t,0,none⟩),.int .i64 (x:Int)] w fun e w'=>
   ∃FS' A c,e= .returned (.agg #[.int .i64 (x:Int),.slice A (nx x).length c])∧(∀i,FS' i→FS i∨w.heap.size≤i)∧
    TourW w' t gw gl go gs gb N (.func (.func 27) #[] #[.pointer (some pg),.pointer (some pm)]) FS' FB (s.meet nx x)∧Ints (fun i=>w.heap.size≤i∧¬FT t gw gl go FS' FB i) w' A ((nx x).map fun y:Nat=>(y:Int))∧(nx x).length≤c∧Upd (FT t gw gl go FS FB) w w':=by
 obtain⟨v,hv⟩:∃v,w.heap.size=v:=⟨_,rfl⟩
 obtain⟨wa,hwa⟩:∃wa,w.alloc (.cells #[.int .i64 0,.slice none 0 0] 86)=wa:=⟨_,rfl⟩
 have ua:Upd No w wa:=by rw[←hwa];exact(Upd.refl No w).alloc _
 have bV:Blk wa v 86 [.int .i64 0,.slice none 0 0]:=by rw[←hwa,←hv];exact Blk.new w _ _
 have HA:=Lib.hid (H.upd ua (fun _ _=>id))
 have c5:=HA.out.blk.cell 5
 have f5:=HA.out.blk.free 5
 simp only[List.getElem?_cons_zero,List.getElem?_cons_succ]at c5
 have w5:IntKind.i32.wrap ((s.clock:Int)+1)=(s.clock:Int)+1:=IntWalk.i32_in _ (by omega)
 have hHB:=HA.out.blk.set_ 5 (.int .i32 ((s.clock:Int)+1))
 simp only[List.set_cons_zero,List.set_cons_succ]at hHB
 have hUc:Upd (One t) wa (wa.setCell ⟨t,5,none⟩ (.int .i32 ((s.clock:Int)+1))):=(Upd.refl (One t) wa).setOne 5 _
 have hne:=HA.out.ne
 have HWc:=Lib.hid (HA.out.wh.upd hUc (fun e=>hne.1.1 e.symm))
 have HLc:=Lib.hid (HA.out.lo.upd hUc (fun e=>hne.1.2.1 e.symm))
 have HOc:=Lib.hid (HA.out.ou.upd hUc (fun e=>hne.1.2.2 e.symm))
 have HSc:=Lib.hid (HA.out.st.upd hUc (fun i hi e=>(HA.out.sn i hi).1 e))
 have HBc:=Lib.hid (HA.out.br.upd hUc (fun i hi e=>hne.2.2.1 (show FB t from e▸hi)))
 have HVc:=Lib.hid (bV.upd hUc (fun e=>by have:=HA.out.lt t (Or.inl rfl);have h2:=bV.lt;have h3:=H.blk.lt;unfold One at e;omega))
 have UC:=Lib.hid ((ua.mono (S:=No) (T:=FT t gw gl go FS FB) (fun _ _ e=>e.elim)).trans (hUc.mono (fun i _ e=>Or.inl e)))
 have HTc:=Lib.hid hHB
 have HNE:=Lib.hid hne
 have HSN:=Lib.hid H.sn
 have HLT:=Lib.hid H.lt
 have HVL:=Lib.hid (show∀i,FT t gw gl go FS FB i→i≠v from fun i hi e=>by have:=H.lt i hi;omega)
 go_enter Try.func43,Try.ntmps43
 go_wp2
 obtain⟨wc,hwc⟩:∃wc,wa.setCell ⟨t,5,none⟩ (.int .i32 ((s.clock:Int)+1))=wc:=⟨_,rfl⟩
 rw[hwc]at HWc HLc HOc HSc HBc HVc UC HTc ⊢
 clear hwc hHB hUc c5 f5 hwa ua bV
 obtain⟨S,hS⟩:∃S:Nat→Prop,S=fun i=>i=gw∨i=gl:=⟨_,rfl⟩
 have hSt:¬S t:=by rw[hS];intro e;rcases e with e|e;exact HNE.out.1.1 e;exact HNE.out.1.2.1 e
 have HSI:=Lib.hid (show∀i,S i↔i=gw∨i=gl by rw[hS];exact fun _=>Iff.rfl)
 clear hS
 have t1:∀W,Upd S wc W→W.cell? ⟨t,1,none⟩=some (.slice (some ⟨gw,0,none⟩) N N):=fun W u=>(HTc.out.upd u hSt).cell 1
 have t2:∀W,Upd S wc W→W.cell? ⟨t,2,none⟩=some (.slice (some ⟨gl,0,none⟩) N N):=fun W u=>(HTc.out.upd u hSt).cell 2
 have t5:∀W,Upd S wc W→W.cell? ⟨t,5,none⟩=some (.int .i32 ((s.clock:Int)+1)):=fun W u=>(HTc.out.upd u hSt).cell 5
 have hz0:Upd S wc wc:=Upd.refl _ _
 have x0:(0:Int)≤(x:Int):=Int.natCast_nonneg _
 have x1:(x:Int)<(N:Int):=by omega
 have HX:=Lib.hid hx
 refine wp_region_noPanic ?_
 refine wp_region_held_drew (S:=(fun W'=>Upd S wc W')) (by kernel_rfl) ?_ (fun hHeld=> ?_)
 ·(first|exact hz0.drew|exact hU7|exact hU6|exact hHeld)
 refine wpK 0 rfl ?_
 refine wpK 1 rfl ?_
 refine wpK 2 rfl ?_
 refine wpK 3 rfl ?_
 refine wpK 4 rfl ?_
 refine wpK 5 rfl ?_
 refine wpK 6 rfl ?_
 refine wpK 7 rfl ?_
 refine wpK 8 rfl ?_
 refine wpK 9 rfl ?_
 refine wpK 10 rfl ?_
 refine wpK 11 rfl ?_
 refine wpK 12 rfl ?_
 refine wpK 13 rfl ?_
 refine wpK 14 rfl ?_
 refine wpK 15 rfl ?_
 refine wpK 16 rfl ?_
 refine wpK 17 rfl ?_
 refine wpK 18 rfl ?_
 refine wpR [19] ?_
 refine wpC rfl (fun K hK=> ?_) AllReadyH.nil
 (first
  |(refine Zz rfl rfl (g:=gw) (i:=x) (v:= .int .i32 ((s.clock:Int)+1)) rfl rfl (HWc.out.drew) (by kernel_rfl) (by rw[ZB];exact HX.out) rfl ?_;intro w6 hb6 hu6;have hU6:Upd S wc w6:=hHeld.trans (hu6.mono (fun i _ e=>(HSI.out i).2 (Or.inl e)));have HW6:=Lib.hid hb6;have HL6:=Lib.hid (HLc.out.upd hu6.of_drew (fun e=>HNE.out.2.1.1 e.symm)))
  |(refine Zz rfl rfl (g:=gl) (i:=x) (v:= .int .i32 ((s.clock:Int)+1)) rfl rfl HL6.out (by kernel_rfl) (by rw[ZB];exact HX.out) rfl ?_;intro w7 hb7 hu7;have hU7:Upd S wc w7:=hHeld.trans (hu7.mono (fun i _ e=>(HSI.out i).2 (Or.inr e)));have HL7:=Lib.hid hb7;have HW7:=Lib.hid (HW6.out.upd hu7 (fun e=>HNE.out.2.1.1 e))))
 refine hK.out _ _ ?_ (fun hHeld=> ?_)
 ·(first|exact hz0.drew|exact hU7|exact hU6|exact hHeld)
 clear hK K
 try simp only[Act.put,sT,sS,sZ]
 refine wpK 20 rfl ?_
 refine wpR [21] ?_
 refine wpC rfl (fun K hK=> ?_) AllReadyH.nil
 (first
  |(refine Zz rfl rfl (g:=gw) (i:=x) (v:= .int .i32 ((s.clock:Int)+1)) rfl rfl (HWc.out.drew) (by kernel_rfl) (by rw[ZB];exact HX.out) rfl ?_;intro w6 hb6 hu6;have hU6:Upd S wc w6:=hHeld.trans (hu6.mono (fun i _ e=>(HSI.out i).2 (Or.inl e)));have HW6:=Lib.hid hb6;have HL6:=Lib.hid (HLc.out.upd hu6.of_drew (fun e=>HNE.out.2.1.1 e.symm)))
  |(refine Zz rfl rfl (g:=gl) (i:=x) (v:= .int .i32 ((s.clock:Int)+1)) rfl rfl HL6.out (by kernel_rfl) (by rw[ZB];exact HX.out) rfl ?_;intro w7 hb7 hu7;have hU7:Upd S wc w7:=hHeld.trans (hu7.mono (fun i _ e=>(HSI.out i).2 (Or.inr e)));have HL7:=Lib.hid hb7;have HW7:=Lib.hid (HW6.out.upd hu7 (fun e=>HNE.out.2.1.1 e))))
 refine hK.out _ _ ?_ (fun hHeld=> ?_)
 ·(first|exact hz0.drew|exact hU7|exact hU6|exact hHeld)
 clear hK K
 try simp only[Act.put,sT,sS,sZ]
 refine wpD (NoPanic.normal ?_)
 have hT7:=HTc.out.upd hHeld hSt
 have HO7:=Lib.hid (HOc.out.upd hHeld (fun e=>by rcases(HSI.out _).1 e with e|e;exact HNE.out.2.1.2.1 e.symm;exact HNE.out.2.1.2.2 e.symm))
 have hS7:=HSc.out.upd hHeld (fun i hi e=>by have:=HSN.out i hi;rcases(HSI.out _).1 e with e|e;exact this.2.1 e;exact this.2.2.1 e)
 have HB7:=Lib.hid (HBc.out.upd hHeld (fun i hi e=>by rcases(HSI.out _).1 e with e|e;exact HNE.out.2.2.2.1 (e▸hi);exact HNE.out.2.2.2.2.1 (e▸hi)))
 have HV7:=Lib.hid (HVc.out.upd hHeld (fun e=>by rcases(HSI.out _).1 e with e|e;exact HVL.out gw (Or.inr (Or.inl rfl)) e.symm;exact HVL.out gl (Or.inr (Or.inr (Or.inl rfl))) e.symm))
 have U7:=Lib.hid (UC.out.trans (hHeld.mono (fun i _ e=>by rcases(HSI.out _).1 e with e|e;exact Or.inr (Or.inl e);exact Or.inr (Or.inr (Or.inl e)))))
 have g3:=hT7.cell 3
 simp only[List.getElem?_cons_zero,List.getElem?_cons_succ]at g3
 have HT7:=Lib.hid hT7
 clear t1 t2 t5 hz0 hb6 hu6 hU6 hb7 hu7 hU7 hHeld hT7 x0 x1
 have CP:=Lib.hid (Zgz w7 FS gs (N:Int) _ (x:Int) hS7 (by omega) (by omega) (by rw[List.length_map];omega))
 clear hS7
 go_wp2_with fail
 refine(CP.out).mono ?_
 rintro e w8 ⟨rfl,FS',hF',hS8,hu8⟩
 have hT8:=HT7.out.upd hu8 (fun e=>(HSN.out t e).1 rfl)
 have g4:=hT8.cell 4
 simp only[List.getElem?_cons_zero,List.getElem?_cons_succ]at g4
 have HT8:=Lib.hid hT8
 have HB8:=Lib.hid (HB7.out.upd hu8 (fun i hi e=>(HSN.out i e).2.2.2.2 hi))
 have HV8:=Lib.hid (HV7.out.upd hu8 (fun e=>HVL.out v (Or.inr (Or.inr (Or.inr (Or.inr (Or.inl e))))) rfl))
 have HW8:=Lib.hid (HW7.out.upd hu8 (fun e=>(HSN.out gw e).2.1 rfl))
 have HL8:=Lib.hid (HL7.out.upd hu8 (fun e=>(HSN.out gl e).2.2.1 rfl))
 have HO8:=Lib.hid (HO7.out.upd hu8 (fun e=>(HSN.out go e).2.2.2.1 rfl))
 have U8:=Lib.hid (U7.out.trans (hu8.mono (fun i _ e=>Or.inr (Or.inr (Or.inr (Or.inr (Or.inl e)))))))
 have HS8:=Lib.hid hS8
 have HSZ:=Lib.hid U7.out.size
 have HF':=Lib.hid hF'
 have HVlt:=Lib.hid HV7.out.lt
 have HSN':=Lib.hid (show∀i,FS' i→i≠t∧i≠gw∧i≠gl∧i≠go∧¬FB i∧i≠v from fun i hi=>by
  rcases HF'.out i hi with h|h
  ·have h2:=HSN.out i h
   exact⟨h2.1,h2.2.1,h2.2.2.1,h2.2.2.2.1,h2.2.2.2.2,HVL.out i (Or.inr (Or.inr (Or.inr (Or.inr (Or.inl h)))))⟩
  ·have k:∀j,FT t gw gl go FS FB j→i≠j:=fun j hj e=>by have:=HLT.out j hj;have:=HSZ.out;omega
   exact⟨k t (Or.inl rfl),k gw (Or.inr (Or.inl rfl)),k gl (Or.inr (Or.inr (Or.inl rfl))),k go (Or.inr (Or.inr (Or.inr (Or.inl rfl)))),fun e=>k i (Or.inr (Or.inr (Or.inr (Or.inr (Or.inr e))))) rfl,fun e=>by have:=HVlt.out;omega⟩)
 clear g3 hT8 hS8 hu8 hF' HT7 HB7 HV7 HO7
 have CB:=Lib.hid (Zgt w8 FB gb N _ HB8.out x HX.out true)
 obtain⟨bo,hbo⟩:∃bo,(decide (x∈s.wait) != true)=bo:=⟨_,rfl⟩
 rw[hbo]at CB
 clear hbo
 go_wp2_with fail
 refine(CB.out).mono ?_
 rintro e w9 ⟨rfl,hB9,hu9⟩
 have hT9:=HT8.out.upd hu9 HNE.out.2.2.1
 have g0:=hT9.cell 0
 simp only[List.getElem?_cons_zero]at g0
 have HT9:=Lib.hid hT9
 have HV9:=Lib.hid (HV8.out.upd hu9 (fun e=>HVL.out v (Or.inr (Or.inr (Or.inr (Or.inr (Or.inr e))))) rfl))
 have HW9:=Lib.hid (HW8.out.upd hu9 HNE.out.2.2.2.1)
 have HL9:=Lib.hid (HL8.out.upd hu9 HNE.out.2.2.2.2.1)
 have HO9:=Lib.hid (HO8.out.upd hu9 HNE.out.2.2.2.2.2)
 have HS9:=Lib.hid (HS8.out.upd hu9 (fun i hi e=>(HSN'.out i hi).2.2.2.2.1 e))
 have U9:=Lib.hid (U8.out.trans (hu9.mono (fun i _ e=>Or.inr (Or.inr (Or.inr (Or.inr (Or.inr e)))))))
 have HB9:=Lib.hid hB9
 have CN:=Lib.hid (HN w9 x HX.out (hu.trans (U9.out.mono (fun i _ h=>hz i h))))
 clear hT9 hB9 hu9 g4 HT8 HV8 HW8 HL8 HO8 HS8 U8 CB
 go_wp2_with fail
 refine(CN.out).mono ?_
 rintro e w10 ⟨A,c,rfl,ho10,hu10⟩
 simp only[List.length_map]at ho10 ⊢
 have hV10:=HV9.out.upd hu10 id
 have v0:=hV10.cell 0
 have v1:=hV10.cell 1
 have q0:=hV10.free 0
 have q1:=hV10.free 1
 simp only[List.getElem?_cons_zero,List.getElem?_cons_succ]at v0 v1
 have HV10:=Lib.hid hV10
 have HI10:=Lib.hid (show Ints (fun i=>w9.heap.size≤i) w10 A ((nx x).map fun y:Nat=>(y:Int)) from Ints.of_owned (by rw[List.length_map];exact ho10))
 have HU10:=Lib.hid hu10
 have HLC:=Lib.hid (show(nx x).length≤c from by
  rcases Nat.eq_zero_or_pos (nx x).length with e|e
  ·omega
  ·obtain⟨_,_,_,_,_,hnc,_⟩:=ZJ ho10 e;exact hnc)
 clear ho10 hu10 hV10 g0
 go_wp2
 have hb2:=(HV10.out.set_ 0 (.int .i64 (x:Int))).set_ 1 (.slice A (nx x).length c)
 simp only[List.set_cons_zero,List.set_cons_succ]at hb2
 have r0:=hb2.cell 0
 have r1:=hb2.cell 1
 simp only[List.getElem?_cons_zero,List.getElem?_cons_succ]at r0 r1
 have u11:Upd (One v) w10 ((w10.setCell ⟨v,0,none⟩ (.int .i64 (x:Int))).setCell ⟨v,1,none⟩ (.slice A (nx x).length c)):=((Upd.refl (One v) w10).setOne 0 _).setOne 1 _
 have hvl:∀i,FT t gw gl go FS FB i→¬One v i:=fun i hi e=>HVL.out i hi e
 have e1:((s.clock+1:Nat):Int)=(s.clock:Int)+1:=by omega
 refine bodyPost_ret (v:= .agg #[.int .i64 (x:Int),.slice A (nx x).length c]) (by simp[results,Try.results43,go_sem,r0,r1]) rfl ⟨FS',A,c,rfl,fun i hi=> ?_,?_,?_,HLC.out,?_⟩
 ·rcases HF'.out i hi with h|h
  ·exact Or.inl h
  ·right;have:=HSZ.out;omega
 ·refine⟨?_,?_,?_,?_,?_,?_,HNE.out,fun i hi=> ?_⟩
  ·have:=(HT9.out.upd HU10.out id).upd u11 (hvl _ (Or.inl rfl))
   unfold TS.meet
   rw[e1]
   exact this
  ·have:=(HW9.out.upd HU10.out id).upd u11 (hvl _ (Or.inr (Or.inl rfl)))
   rw[←e1,Zbi]at this
   exact this
  ·have:=(HL9.out.upd HU10.out id).upd u11 (hvl _ (Or.inr (Or.inr (Or.inl rfl))))
   rw[←e1,Zbi]at this
   exact this
  ·exact(HO9.out.upd HU10.out id).upd u11 (hvl _ (Or.inr (Or.inr (Or.inr (Or.inl rfl)))))
  ·exact(HS9.out.upd HU10.out (fun _ _=>id)).upd u11 (fun i hi e=>(HSN'.out i hi).2.2.2.2.2 e)
  ·have:=(HB9.out.upd HU10.out (fun _ _=>id)).upd u11 (fun i hi=>hvl i (Or.inr (Or.inr (Or.inr (Or.inr (Or.inr hi))))))
   have e2:ZaM (fun i=>decide (i∈s.wait)) x true=fun i=>decide (i∈(s.meet nx x).wait):=by
    funext i
    unfold ZaM TS.meet
    by_cases e:i=x<;>simp[e]
   rwa [e2]at this
  ·have:=HSN'.out i hi
   exact⟨this.1,this.2.1,this.2.2.1,this.2.2.2.1,this.2.2.2.2.1⟩
 ·have h1:w.heap.size≤w9.heap.size:=U9.out.size
  have h2:v<w9.heap.size:=HV9.out.lt
  have k:∀i,FT t gw gl go FS' FB i→i<w9.heap.size:=by
   intro i hi
   rcases hi with rfl|rfl|rfl|rfl|hi|hi
   ·exact HT9.out.lt
   ·exact HW9.out.lt
   ·exact HL9.out.lt
   ·exact HO9.out.lt
   ·exact HS9.out.lt i hi
   ·obtain⟨_,_,_,_,_,hl,_⟩:=HB9.out
    exact hl i hi
  exact Ints.weak (HI10.out.upd u11 (fun i (hi:w9.heap.size≤i) (e:i=v)=>by omega)) (fun i _ (hi:w9.heap.size≤i)=>⟨by omega,fun hf=>by have:=k i hf;omega⟩)
 ·exact(U9.out.trans (HU10.out.mono (fun _ _ e=>e.elim))).then_ u11 (fun i e=>Or.inr (by unfold One at e;omega))
end Go.Proofs.Ytfcefnpnomlgbaa
/- Components of a digraph:a node ends (scc.tour.leave);slices.Min. -/
namespace Go.Proofs.Ytfcefnpnomlgbaa
set_option linter.unusedSimpArgs false
set_option linter.unusedVariables false
open Go.RowKit
def Z7:Int→List Int→Int
 |a,[]=>a
 |a,x::l=>Z7 (min a x) l
theorem ZdR:∀(l:List Int) (a:Int),Z7 a l≤a∧∀x∈l,Z7 a l≤x
 |[],a=>⟨Int.le_refl _,by simp⟩
 |y::l,a=>by
  obtain⟨h1,h2⟩:=ZdR l (min a y)
  refine⟨?_,fun x hx=> ?_⟩
  ·show Z7 (min a y) l≤a;omega
  ·show Z7 (min a y) l≤x
   rcases List.mem_cons.1 hx with rfl|hx
   ·omega
   ·exact h2 x hx
theorem Zdl:∀(l:List Int) (a:Int),Z7 a l=a∨Z7 a l∈l
 |[],a=>Or.inl rfl
 |y::l,a=>by
  show Z7 (min a y) l=a∨Z7 (min a y) l∈y::l
  rcases Zdl l (min a y)with h|h
  ·rw[h]
   by_cases hc:a≤y
   ·left;omega
   ·right;rw[show min a y=y by omega];simp
  ·exact Or.inr (List.mem_cons_of_mem _ h)
set_option maxRecDepth 100000 in
theorem Zg1 (w:World) (F:Nat→Prop) (A:Option Addr) (c:Nat) (x0:Int) (l:List Int) (h:Ints F w A (x0::l)) (hl:l.length≤100000):
  Calls Try.prog 58 #[.slice A (x0::l).length c] w fun e w'=>e= .returned (.int .i64 (Z7 x0 l))∧w=w':=by
 obtain⟨ad,hA,_,_,q0⟩:=h.at_ (k:=0) (by simp)
 subst hA
 have q0':w.cell? (ad.add 0)=some (.int .i64 x0):=q0
 rw[show ad.add 0=ad by simp[Addr.add]]at q0'
 obtain⟨n,hn⟩:∃n,(x0::l).length=n:=⟨_,rfl⟩
 have hn1:n=l.length+1:=by rw[←hn];rfl
 rw[hn]
 have b1:decide ((n:Int)<1)=false:=decide_eq_false (by omega)
 have b2:(0:Int)<(n:Int):=by omega
 have hnl:n≤100001:=by omega
 have hnp:1≤n:=by omega
 have HH:=Lib.hid h
 have HN:=Lib.hid hn
 clear h hn q0 hn1 hl
 go_enter Try.func58,Try.ntmps58
 go_wp2
 go_loopg [3,4] (n-1) (fun gk m i wr=>∃(k:Nat) (a:Int),k+gk=n∧1≤k∧i= .int .i64 k∧m= .int .i64 a∧Hid (Z7 a ((x0::l).drop k)=Z7 x0 l)∧w=wr)
 case atStart=>exact⟨1,x0,by omega,by omega,rfl,rfl,Lib.hid rfl,rfl⟩
 case round=>
  obtain⟨k,a,hgk,hk1,rfl,rfl,hs,rfl⟩:=hrel
  by_cases hlt:k<n
  ·have hlt2:k<(x0::l).length:=by rw[HN.out];exact hlt
   obtain⟨ad2,hA2,_,_,q1⟩:=HH.out.at_ hlt2
   cases hA2
   obtain⟨y,hy⟩:∃y,(x0::l)[k]=y:=⟨_,rfl⟩
   have hst:=hs.out
   rw[List.drop_eq_getElem_cons hlt2,hy]at hst
   rw[hy]at q1
   obtain⟨M,hM⟩:∃M,min a y=M:=⟨_,rfl⟩
   have HS:=Lib.hid (show Z7 M ((x0::l).drop (k+1))=Z7 x0 l by rw[←hM];exact hst)
   have c1:(0:Int)≤(k:Int):=Int.natCast_nonneg _
   have c2:(k:Int)<(n:Int):=by omega
   clear hst hy
   go_wp2
   go_roundg (gk-1)
   case measure=>omega
   case rel=>exact⟨k+1,M,by omega,by omega,by go_num,rfl,HS,rfl⟩
  ·obtain rfl:k=n:=by omega
   have HS:=Lib.hid (show a=Z7 x0 l by have:=hs.out;rwa [List.drop_eq_nil_of_le (by rw[HN.out];exact Nat.le_refl _)]at this)
   go_wp2
   go_ret
   exact⟨by rw[←HS.out];rfl,rfl⟩
end Go.Proofs.Ytfcefnpnomlgbaa
