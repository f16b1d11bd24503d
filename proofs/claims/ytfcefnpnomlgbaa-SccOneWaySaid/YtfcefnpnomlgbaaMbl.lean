/- Components of a digraph: a node ends (scc.tour.leave). -/
import Derived.Test.YtfcefnpnomlgbaaMag
import Derived.Test.YtfcefnpnomlgbaaMam
import Derived.Test.YtfcefnpnomlgbaaMbk
namespace Go.Proofs.Ytfcefnpnomlgbaa
set_option linter.unusedSimpArgs false
set_option linter.unusedVariables false
open Go.RowKit
theorem Zes (w:World) (t gw gl go gs gb N x:Nat) (fv:Value) (FS FB:Nat→Prop) (s:TS) (H:TourW w t gw gl go gs gb N fv FS FB s) (hx:x<N) (hl:s.low x≠s.when x):
  Calls Try.prog 44 #[.pointer (some ⟨t,0,none⟩),.int .i64 (x:Int)] w fun e w'=>e= .returned (.tuple #[])∧Upd No w w':=by
 have c1:∀W,Upd No w W→W.cell? ⟨t,1,none⟩=some (.slice (some ⟨gw,0,none⟩) N N):=fun W u=>(H.blk.upd u id).cell 1
 have c2:∀W,Upd No w W→W.cell? ⟨t,2,none⟩=some (.slice (some ⟨gl,0,none⟩) N N):=fun W u=>(H.blk.upd u id).cell 2
 have k1:∀W,Upd No w W→W.cell? ⟨gw,x,none⟩=some (.int .i32 (s.when x:Int)):=fun W u=>by rw[(H.wh.upd u id).cell];exact ZH _ _ hx
 have k2:∀W,Upd No w W→W.cell? ⟨gl,x,none⟩=some (.int .i32 (s.low x:Int)):=fun W u=>by rw[(H.lo.upd u id).cell];exact ZH _ _ hx
 obtain⟨a,ha⟩:∃a,s.low x=a:=⟨_,rfl⟩
 obtain⟨b,hb⟩:∃b,s.when x=b:=⟨_,rfl⟩
 rw[ha]at k2
 rw[hb]at k1
 have e1:((a:Int) != (b:Int))=true:=by rw[bne_iff_ne];omega
 have x0:(0:Int)≤(x:Int):=Int.natCast_nonneg _
 have x1:(x:Int)<(N:Int):=by omega
 have hr:Upd No w w:=Upd.refl _ _
 clear H ha hb hl
 go_enter Try.func44,Try.ntmps44
 go_wp2
 refine wp_region_noPanic ?_
 refine wp_region_held_drew (S:=(fun W'=>Upd No w W')) (by kernel_rfl) ?_ (fun hHeld=> ?_)
 ·(first|exact hr.drew|exact hHeld)
 refine wpK 0 rfl ?_
 refine wpK 1 rfl ?_
 refine wpK 2 rfl ?_
 refine wpK 3 rfl ?_
 refine wpK 4 rfl ?_
 refine wpK 5 rfl ?_
 refine wpK 6 rfl ?_
 refine wpK 7 rfl ?_
 refine wpK 8 rfl ?_
 refine wpK 9 rfl ?_
 refine wpK 10 rfl ?_
 refine wpK 11 rfl ?_
 refine wpK 12 rfl ?_
 refine wpK 13 rfl ?_
 refine wpK 14 rfl ?_
 refine wpD (NoPanic.normal ?_)
 have HH:=Lib.hid hHeld
 clear hHeld
 go_wp2
 refine bodyPost_ret (results_none rfl _ _ _) rfl ⟨rfl,HH.out⟩
def Za7 (P:List Nat) (m:Nat) (f:Nat→Nat) (j:Nat):Nat→Nat:=fun i=>if i∈P.take j then m else f i
theorem ZeB {P:List Nat} {m:Nat} {f:Nat→Nat} {j:Nat} (hj:j<P.length):Za7 P m f (j+1)=upd (Za7 P m f j) P[j] m:=by
 funext i
 show(if i∈P.take (j+1) then m else f i)=if i=P[j] then m else if i∈P.take j then m else f i
 rw[List.take_succ_eq_append_getElem hj]
 simp only[List.mem_append,List.mem_singleton]
 by_cases e:i=P[j]
 ·rw[if_pos (Or.inr e),if_pos e]
 ·rw[if_neg e]
  by_cases h:i∈P.take j
  ·rw[if_pos (Or.inl h),if_pos h]
  ·rw[if_neg h,if_neg (fun hh=>hh.elim h e)]
set_option maxRecDepth 100000 in
set_option maxHeartbeats 4000000 in
theorem Zgb (w:World) (t gw gl go gs gb N x:Nat) (fv:Value) (FS FB:Nat→Prop) (s:TS) (top rest:List Nat) (H:TourW w t gw gl go gs gb N fv FS FB s) (hx:x<N) (hl:s.low x=s.when x)
  (hs:s.wait=top++x::rest) (hn:x∉top) (hN:N≤4096) (hall:∀y∈s.wait,y<N) (hw:s.wait.length≤N) (hnd:s.wait.Nodup):
  Calls Try.prog 44 #[.pointer (some ⟨t,0,none⟩),.int .i64 (x:Int)] w fun e w'=>e= .returned (.tuple #[])∧∃m out',m∈top++[x]∧(∀y∈top++[x],m≤y)∧(∀y,out' y=if y∈top++[x] then m else s.out y)∧
   TourW w' t gw gl go gs gb N fv FS FB ⟨s.way,s.when,s.low,rest,s.clock,out'⟩∧Upd (FT t gw gl go FS FB) w w':=by
 have c1:∀W,Upd No w W→W.cell? ⟨t,1,none⟩=some (.slice (some ⟨gw,0,none⟩) N N):=fun W u=>(H.blk.upd u id).cell 1
 have c2:∀W,Upd No w W→W.cell? ⟨t,2,none⟩=some (.slice (some ⟨gl,0,none⟩) N N):=fun W u=>(H.blk.upd u id).cell 2
 have k1:∀W,Upd No w W→W.cell? ⟨gw,x,none⟩=some (.int .i32 (s.when x:Int)):=fun W u=>by rw[(H.wh.upd u id).cell];exact ZH _ _ hx
 have k2:∀W,Upd No w W→W.cell? ⟨gl,x,none⟩=some (.int .i32 (s.low x:Int)):=fun W u=>by rw[(H.lo.upd u id).cell];exact ZH _ _ hx
 obtain⟨b,hb⟩:∃b,s.when x=b:=⟨_,rfl⟩
 rw[hl,hb]at k2
 rw[hb]at k1
 have e1:((b:Int) != (b:Int))=false:=by simp
 have x0:(0:Int)≤(x:Int):=Int.natCast_nonneg _
 have x1:(x:Int)<(N:Int):=by omega
 have hr:Upd No w w:=Upd.refl _ _
 have hH0:TourW w t gw gl go gs gb N fv FS FB ⟨s.way,s.when,s.low,top.drop 0++x::rest,s.clock,s.out⟩:=by
  rw[List.drop_zero,←hs];exact H
 have HH0:=Lib.hid hH0
 clear hH0
 have HS:=Lib.hid hs
 have HLT:=Lib.hid H.lt
 have HX:=Lib.hid hx
 have HALL:=Lib.hid hall
 have HWL:=Lib.hid hw
 have HND:=Lib.hid hnd
 have HNT:=Lib.hid hn
 clear H hb hl hs hall hw hnd
 go_enter Try.func44,Try.ntmps44
 go_wp2
 go_quiet (fail)
 have hq:Upd No w (w.drewN nq):=(Upd.refl No w).drewN nq
 generalize (w.drewN nq)=wq at*
 have T0:=Lib.hid (HH0.out.upd hq (fun _ _=>id))
 have U0:=Lib.hid (hq.mono (T:=FT t gw gl go FS FB) (fun _ _ e=>e.elim))
 clear c1 c2 k1 k2 e1 hr hq
 go_wp2
 go_loopg [4] top.length (fun gk part wr=>∃(k:Nat) (A:Option Addr) (c:Nat),k+gk=top.length∧part= .slice A k c∧Hid (TourW wr t gw gl go gs gb N fv FS FB ⟨s.way,s.when,s.low,top.drop k++x::rest,s.clock,s.out⟩)∧Hid (wr.ownsRow w.heap.size 3 1 (.slice A k c) k ((top.take k).map fun y:Nat=>Value.int .i64 (y:Int)))∧Hid (Upd (FT t gw gl go FS FB) w wr))
 case atStart=>exact⟨0,none,0,by omega,rfl,T0,Lib.hid (World.ownsRow_nil _ _ _ _),U0⟩
 case round=>
  clear T0 U0
  obtain⟨k,A,c,hgk,rfl,hT,hown,hU⟩:=hrel
  have hk:k≤top.length:=by omega
  obtain⟨y,ys,hy⟩:∃y ys,top.drop k++x::rest=y::ys:=by
   cases h:top.drop k with
   |nil=>exact⟨x,rest,rfl⟩
   |cons a l=>exact⟨a,l++x::rest,rfl⟩
  have hT':TourW wr t gw gl go gs gb N fv FS FB ⟨s.way,s.when,s.low,y::ys,s.clock,s.out⟩:=hy▸hT.out
  have hsub:(y::ys).Sublist s.wait:=by rw[←hy,HS.out];exact(List.drop_sublist k top).append (List.Sublist.refl _)
  have hyN:y<N:=HALL.out y (hsub.subset (List.mem_cons_self ..))
  have hyn:y∉ys:=(List.nodup_cons.1 (HND.out.sublist hsub)).1
  have hlen:(y::ys).length≤N:=Nat.le_trans hsub.length_le HWL.out
  have CP:=Lib.hid (ZgZ wr FS gs (N:Int) (y:Int) (ys.map fun z:Nat=>(z:Int)) hT'.st (by rw[List.length_map];simp only[List.length_cons]at hlen;omega))
  have g3:=hT'.blk.cell 3
  have g4:=hT'.blk.cell 4
  simp only[List.getElem?_cons_zero,List.getElem?_cons_succ]at g3 g4
  have HT':=Lib.hid hT'
  have HY:=Lib.hid hy
  have HYN:=Lib.hid hyN
  have HYn:=Lib.hid hyn
  have hkl:k≤4096:=by
   have:=HWL.out
   rw[HS.out,List.length_append]at this
   omega
  clear hT' hy hsub hyN hyn hlen hT
  go_wp2_with fail
  refine(CP.out).mono ?_
  rintro e w2 ⟨rfl,hS2,hu2⟩
  have hT2:=HT'.out.blk.upd hu2 (fun e=>(HT'.out.sn t e).1 rfl)
  have q4:=hT2.cell 4
  simp only[List.getElem?_cons_zero,List.getElem?_cons_succ]at q4
  have HB2:=Lib.hid (HT'.out.br.upd hu2 (fun i hi e=>(HT'.out.sn i e).2.2.2.2 hi))
  have CB:=Lib.hid (Zgt w2 FB gb N _ HB2.out y HYN.out false)
  obtain⟨bo,hbo⟩:∃bo,(decide (y∈(⟨s.way,s.when,s.low,y::ys,s.clock,s.out⟩:TS).wait) != false)=bo:=⟨_,rfl⟩
  rw[hbo]at CB
  clear hbo
  go_wp2_with fail
  refine(CB.out).mono ?_
  rintro e w3 ⟨rfl,hB3,hu3⟩
  have hu23:Upd (FT t gw gl go FS FB) wr w3:=(hu2.mono (fun i _ e=>Or.inr (Or.inr (Or.inr (Or.inr (Or.inl e)))))).trans (hu3.mono (fun i _ e=>Or.inr (Or.inr (Or.inr (Or.inr (Or.inr e))))))
  have hFW:∀i,Own (.slice A k c) i→¬FT t gw gl go FS FB i:=fun i e hf=>by have:=(hown.out.lt i e).1;have:=HLT.out i hf;omega
  have HO3:=Lib.hid (Zb hown.out hu23 hFW)
  have HT3:Hid (TourW w3 t gw gl go gs gb N fv FS FB ⟨s.way,s.when,s.low,ys,s.clock,s.out⟩):=Lib.hid (by
   have a:=HT'.out
   have nb:=a.ne.2.2
   refine⟨hT2.upd hu3 nb.1,(a.wh.upd hu2 (fun e=>(a.sn gw e).2.1 rfl)).upd hu3 nb.2.1,(a.lo.upd hu2 (fun e=>(a.sn gl e).2.2.1 rfl)).upd hu3 nb.2.2.1,(a.ou.upd hu2 (fun e=>(a.sn go e).2.2.2.1 rfl)).upd hu3 nb.2.2.2,hS2.upd hu3 (fun i hi e=>(a.sn i hi).2.2.2.2 e),?_,a.ne,a.sn⟩
   have e2:ZaM (fun i=>decide (i∈(⟨s.way,s.when,s.low,y::ys,s.clock,s.out⟩:TS).wait)) y false=fun i=>decide (i∈ys):=by
    funext i
    unfold ZaM
    by_cases e:i=y
    ·subst e;simp[HYn.out]
    ·simp[e]
   rwa [e2]at hB3)
  have HU3:=Lib.hid (hU.out.trans hu23)
  have hw3:w.heap.size≤w3.heap.size:=HU3.out.size
  have HFW:=Lib.hid hFW
  have HOW:=Lib.hid (fun i e=>hown.out.lt i e)
  clear g3 g4 q4 hT2 hS2 hu2 hu3 hB3 hu23 HT' HB2 CP CB hU hFW hown
  by_cases hkt:k<top.length
  ·have hd:top.drop k=top[k]::top.drop (k+1):=List.drop_eq_getElem_cons hkt
   have hy2:=HY.out
   rw[hd,List.cons_append]at hy2
   obtain⟨e1,e2⟩:=List.cons.inj hy2
   have hyx:y≠x:=fun e=>HNT.out (by rw[←e,←e1];exact List.getElem_mem hkt)
   have eb:((y:Int)==(x:Int))=false:=by rw[beq_eq_false_iff_ne];omega
   have HTS:=Lib.hid (show(top.take (k+1)).map (fun z:Nat=>Value.int .i64 (z:Int))=(top.take k).map (fun z:Nat=>Value.int .i64 (z:Int))++[.int .i64 (y:Int)] by rw[List.take_succ_eq_append_getElem hkt,List.map_append,e1];rfl)
   have HYS:=Lib.hid e2.symm
   clear hd hy2 e1 e2 hyx
   go_wp2_with (at_builtin;refine Za4 rfl rfl Zc2 (v:= .slice A k c) (cells:=[.int .i64 (y:Int)]) (by rfl) rfl HO3.out rfl rfl (by omega) (by omega) (by omega) ?_;intro g9 c9 w9 hown9 hu9 hg9 hlt9)
   have HT9:Hid (TourW w9 t gw gl go gs gb N fv FS FB ⟨s.way,s.when,s.low,top.drop (k+1)++x::rest,s.clock,s.out⟩):=Lib.hid (by
    have:=HT3.out.upd hu9 (fun i hf e=>HFW.out i e hf)
    rwa [HYS.out]at this)
   have HU9:=Lib.hid (HU3.out.then_ hu9 (fun i e=>Or.inr (HOW.out i e).1))
   have HO9:=Lib.hid (show w9.ownsRow w.heap.size 3 1 (.slice (some ⟨g9,0,none⟩) (k+1) c9) (k+1) ((top.take (k+1)).map fun y:Nat=>Value.int .i64 (y:Int)) by rw[HTS.out];exact hown9)
   clear hown9 hu9 hg9 hlt9
   go_wp2
   go_roundg (gk-1)
   case measure=>omega
   case rel=>exact⟨k+1,some ⟨g9,0,none⟩,c9,by omega,rfl,HT9,HO9,HU9⟩
  ·have hkl2:k=top.length:=by omega
   have hy2:=HY.out
   rw[hkl2,List.drop_length,List.nil_append]at hy2
   obtain⟨e1,e2⟩:=List.cons.inj hy2
   have eb:((y:Int)==(x:Int))=true:=by rw[beq_iff_eq];omega
   have HTS:=Lib.hid (show(top++[x]).map (fun z:Nat=>Value.int .i64 (z:Int))=(top.take k).map (fun z:Nat=>Value.int .i64 (z:Int))++[.int .i64 (y:Int)] by rw[hkl2,List.take_length,List.map_append,e1];rfl)
   have HYS:=Lib.hid e2.symm
   have HKL:=Lib.hid hkl2
   clear hy2 e1 e2 hkl2
   go_wp2_with (at_builtin;refine Za4 rfl rfl Zc2 (v:= .slice A k c) (cells:=[.int .i64 (y:Int)]) (by rfl) rfl HO3.out rfl rfl (by omega) (by omega) (by omega) ?_;intro g9 c9 w9 hown9 hu9 hg9 hlt9)
   have hT9:TourW w9 t gw gl go gs gb N fv FS FB ⟨s.way,s.when,s.low,rest,s.clock,s.out⟩:=by
    have:=HT3.out.upd hu9 (fun i hf e=>HFW.out i e hf)
    rwa [HYS.out]at this
   have HT9:=Lib.hid hT9
   have HU9:=Lib.hid (HU3.out.then_ hu9 (fun i e=>Or.inr (HOW.out i e).1))
   obtain⟨z0,zl,hz⟩:∃z0 zl,top++[x]=z0::zl:=by
    cases top with
    |nil=>exact⟨x,[],rfl⟩
    |cons a l=>exact⟨a,l++[x],rfl⟩
   have hzl:zl.length=k:=by
    have:=congrArg List.length hz
    rw[List.length_append,List.length_cons,HKL.out]at*
    simp at this
    omega
   have hI9:Ints (fun i=>w.heap.size≤i) w9 (some ⟨g9,0,none⟩) ((z0:Int)::zl.map fun z:Nat=>(z:Int)):=by
    have h1:=hown9
    rw[←HTS.out,hz]at h1
    refine Ints.of_owned (c:=c9) ?_
    simp only[List.length_cons,List.length_map,List.map_cons,List.map_map]at h1 ⊢
    rw[hzl]
    exact h1
   obtain⟨m,hm1,hm2,hm3⟩:∃m:Nat,Z7 (z0:Int) (zl.map fun z:Nat=>(z:Int))=(m:Int)∧m∈top++[x]∧∀y∈top++[x],m≤y:=by
    obtain⟨l1,l2⟩:=ZdR (zl.map fun z:Nat=>(z:Int)) (z0:Int)
    rw[hz]
    rcases Zdl (zl.map fun z:Nat=>(z:Int)) (z0:Int)with h|h
    ·refine⟨z0,h,List.mem_cons_self ..,fun y hy=> ?_⟩
     rcases List.mem_cons.1 hy with rfl|hy
     ·exact Nat.le_refl _
     ·have:=l2 (y:Int) (List.mem_map.2 ⟨y,hy,rfl⟩);omega
    ·obtain⟨m,hm,hme⟩:=List.mem_map.1 h
     refine⟨m,hme.symm,List.mem_cons_of_mem _ hm,fun y hy=> ?_⟩
     rcases List.mem_cons.1 hy with rfl|hy
     ·omega
     ·have:=l2 (y:Int) (List.mem_map.2 ⟨y,hy,rfl⟩);omega
   have hlenP:(((z0:Int)::zl.map fun z:Nat=>(z:Int)):List Int).length=k+1:=by simp[hzl]
   have CM:=Lib.hid (Zg1 w9 _ (some ⟨g9,0,none⟩) c9 (z0:Int) (zl.map fun z:Nat=>(z:Int)) hI9 (by rw[List.length_map,hzl];omega))
   rw[hlenP,hm1]at CM
   have HI9:=Lib.hid hI9
   have HM2:=Lib.hid hm2
   have HM3:=Lib.hid hm3
   have HZ:=Lib.hid hz
   have HZL:=Lib.hid hzl
   have hjz:(z0::zl).length=k+1:=by rw[List.length_cons,hzl]
   have HJZ:=Lib.hid hjz
   have HPN:=Lib.hid (show∀y∈z0::zl,y<N from fun y hy=>HALL.out y (by
    rw[←hz]at hy
    rw[HS.out]
    rcases List.mem_append.1 hy with h|h
    ·exact List.mem_append_left _ h
    ·exact List.mem_append_right _ (by rw[List.mem_singleton.1 h];simp)))
   have H0:=Lib.hid (show TourW w9 t gw gl go gs gb N fv FS FB ⟨s.way,s.when,s.low,rest,s.clock,Za7 (z0::zl) m s.out 0⟩ from by
    have e:Za7 (z0::zl) m s.out 0=s.out:=by funext i;simp[Za7]
    rw[e];exact hT9)
   clear hown9 hu9 hg9 hlt9 hT9 HT9 hz hzl hI9 hm1 hm2 hm3 hlenP hjz HTS HYS HY HT3 HO3 HU3
   generalize gk=GK at*
   go_wp2_with fail
   refine(CM.out).mono ?_
   rintro e w10 ⟨rfl,rfl⟩
   go_wp2
   go_loopg [52] (k+1) (fun gj i wr=>∃j:Nat,j+gj=k+1∧i= .int .i64 j∧Hid (TourW wr t gw gl go gs gb N fv FS FB ⟨s.way,s.when,s.low,rest,s.clock,Za7 (z0::zl) m s.out j⟩)∧Hid (Ints (fun i=>w.heap.size≤i) wr (some ⟨g9,0,none⟩) ((z0:Int)::zl.map fun z:Nat=>(z:Int)))∧Hid (Upd (FT t gw gl go FS FB) w wr))
   case atStart=>exact⟨0,by omega,rfl,H0,HI9,HU9⟩
   case round=>
    clear H0 HI9 HU9
    obtain⟨j,hgj,rfl,hT,hI,hU⟩:=hrel
    by_cases hj:j<k+1
    ·have hj1:j<(z0::zl).length:=by rw[HJZ.out];exact hj
     have hj2:j<((z0:Int)::zl.map fun z:Nat=>(z:Int)).length:=by simp only[List.length_cons,List.length_map]at hj1 ⊢;exact hj1
     obtain⟨ad,hA,_,_,q0⟩:=hI.out.at_ hj2
     obtain⟨y',hy'⟩:∃y',(z0::zl)[j]=y':=⟨_,rfl⟩
     have hq:((z0:Int)::zl.map fun z:Nat=>(z:Int))[j]=(y':Int):=by
      have:((z0:Int)::zl.map fun z:Nat=>(z:Int))=(z0::zl).map fun z:Nat=>(z:Int):=rfl
      simp only[this,List.getElem_map,hy']
     rw[hq]at q0
     cases hA
     rw[show(⟨g9,0,none⟩:Addr).add j=⟨g9,j,none⟩ by unfold Addr.add;split<;>simp_all]at q0
     have hyN:y'<N:=HPN.out y' (by rw[←hy'];exact List.getElem_mem hj1)
     have g6:=hT.out.blk.cell 6
     simp only[List.getElem?_cons_zero,List.getElem?_cons_succ]at g6
     have o1:wr.cell? ⟨go,y',none⟩=some (.int .i64 (Za7 (z0::zl) m s.out j y':Int)):=by rw[hT.out.ou.cell];exact ZH _ _ hyN
     have fz:=hT.out.ou.free y'
     have j0:(0:Int)≤(j:Int):=Int.natCast_nonneg _
     have j1:(j:Int)<((k+1:Nat):Int):=by omega
     have y0:(0:Int)≤(y':Int):=Int.natCast_nonneg _
     have y1:(y':Int)<(N:Int):=by omega
     have uS:Upd (One go) wr (wr.setCell ⟨go,y',none⟩ (.int .i64 (m:Int))):=(Upd.refl (One go) wr).setOne y' _
     have HT2:=Lib.hid (show TourW (wr.setCell ⟨go,y',none⟩ (.int .i64 (m:Int))) t gw gl go gs gb N fv FS FB ⟨s.way,s.when,s.low,rest,s.clock,Za7 (z0::zl) m s.out (j+1)⟩ from by
      have a:=hT.out
      refine⟨a.blk.upd uS (fun e=>a.ne.1.2.2 e),a.wh.upd uS (fun e=>a.ne.2.1.2.1 e),a.lo.upd uS (fun e=>a.ne.2.1.2.2 e),?_,a.st.upd uS (fun i hi e=>(a.sn i hi).2.2.2.1 e),a.br.upd uS (fun i hi e=>a.ne.2.2.2.2.2 (show FB go from e▸hi)),a.ne,a.sn⟩
      have:=a.ou.set_ y' (.int .i64 (m:Int))
      rw[Zbi]at this
      rw[ZeB hj1,hy']
      exact this)
     have HI2:=Lib.hid (hI.out.upd uS (fun i (hi:w.heap.size≤i) (e:i=go)=>by have:=HLT.out go (Or.inr (Or.inr (Or.inr (Or.inl rfl))));omega))
     have HU2:=Lib.hid (hU.out.trans (uS.mono (fun i _ e=>Or.inr (Or.inr (Or.inr (Or.inl e))))))
     clear hq hy' uS hT hI hU
     go_wp2
     go_roundg (gk-1)
     case measure=>omega
     case rel=>exact⟨j+1,by omega,by go_num,HT2,HI2,HU2⟩
    ·obtain rfl:j=k+1:=by omega
     go_wp2
     refine bodyPost_end (results_none rfl _ _ _) rfl ⟨rfl,m,Za7 (z0::zl) m s.out (k+1),HM2.out,HM3.out,fun y=> ?_,hT.out,hU.out⟩
     unfold Za7
     rw[←HJZ.out,List.take_length,HZ.out]
end Go.Proofs.Ytfcefnpnomlgbaa
/- Components of a digraph:the nodes under way,in memory. -/
namespace Go.Proofs.Ytfcefnpnomlgbaa
set_option linter.unusedSimpArgs false
set_option linter.unusedVariables false
open Go.RowKit
theorem Zfd {w:World} {base size:Nat} {e:TypeId} {A:Option Addr} {c n:Nat} {xs ys:List Value} (h:w.ownsRow base e size (.slice A (n+1) c) (n+1) (xs++ys)) (hy:ys.length=size):
  w.ownsRow base e size (.slice A n c) n xs:=by
 obtain⟨g,cur,rfl,hg,hb,hnc,hl,hx,hc⟩:=ZJ h (by omega)
 have h1:=h.1
 rw[List.length_append,hy,Nat.succ_mul]at h1
 refine Zo hb hg (by omega) hl ?_ hc (by omega)
 have h2:=congrArg (List.take (n*size)) hx
 have hle:n*size≤(n+1)*size:=Nat.mul_le_mul_right _ (by omega)
 rw[List.take_take,Nat.min_eq_left hle,List.take_append_of_le_length (by omega),List.take_of_length_le (l:=xs) (by omega)]at h2
 exact h2
theorem ZaQ {w:World} {base size:Nat} {e:TypeId} {g c n:Nat} {xs:List Value} (h:w.ownsRow base e size (.slice (some ⟨g,0,none⟩) n c) n xs) (hn:0<n) {i:Nat} (hi:i<xs.length):w.cell? ⟨g,i,none⟩=xs[i]?∧w.frozen? ⟨g,i,none⟩=false:=by
 obtain⟨g',cur,e1,hg,hb,hnc,hl,hx,hc⟩:=ZJ h hn
 cases e1
 refine⟨?_,hb.free i⟩
 rw[hb.cell,←hx,List.getElem?_take,if_pos]
 rw[←hx,List.length_take]at hi
 omega
theorem ZfW {w:World} {base size:Nat} {e:TypeId} {g c n:Nat} {xs:List Value} (h:w.ownsRow base e size (.slice (some ⟨g,0,none⟩) n c) n xs) (hn:0<n) (i:Nat) (v:Value):
  (w.setCell ⟨g,i,none⟩ v).ownsRow base e size (.slice (some ⟨g,0,none⟩) n c) n (xs.set i v):=by
 obtain⟨g',cur,e1,hg,hb,hnc,hl,hx,hc⟩:=ZJ h hn
 cases e1
 refine Zo (hb.set_ i v) hg hnc (by rw[List.length_set];exact hl) ?_ hc (by rw[List.length_set];exact h.1)
 rw[←hx,List.take_set]
structure VF where
 node:Nat
 l:List Nat
 A:Option Addr
 c:Nat
def VF.cells (f:VF):List Value:=[.int .i64 (f.node:Int),.slice f.A f.l.length f.c]
def VF.fr (f:VF):Nat×List Nat:=(f.node,f.l)
def ZZ (fs:List VF):List Value:=(fs.reverse.map VF.cells).flatten
theorem ZY (f:VF) (fs:List VF):ZZ (f::fs)=ZZ fs++f.cells:=by unfold ZZ;simp
theorem Zt:∀fs:List VF,(ZZ fs).length=fs.length*2
 |[]=>rfl
 |f::fs=>by rw[ZY,List.length_append,Zt fs,List.length_cons,Nat.succ_mul];rfl
theorem ZaN (f:VF) (fs:List VF):(ZZ (f::fs))[fs.length*2]? =some (.int .i64 (f.node:Int))∧(ZZ (f::fs))[fs.length*2+1]? =some (.slice f.A f.l.length f.c):=by
 rw[ZY]
 have:=Zt fs
 constructor
 ·rw[List.getElem?_append_right (by omega),this,Nat.sub_self];rfl
 ·rw[List.getElem?_append_right (by omega),this,Nat.add_sub_cancel_left];rfl
theorem Zex (f:VF) (fs:List VF) (l:List Nat) (A:Option Addr) (c:Nat):(ZZ (f::fs)).set (fs.length*2+1) (.slice A l.length c)=ZZ (⟨f.node,l,A,c⟩::fs):=by
 rw[ZY,ZY,List.set_append_right _ _ (by rw[Zt];omega),Zt,Nat.add_sub_cancel_left]
 rfl
def VFs (w:World) (NB:Nat→Prop) (fs:List VF):Prop:=∀f∈fs,Ints NB w f.A (f.l.map fun x:Nat=>(x:Int))∧f.l.length≤f.c
theorem VFs.upd {w w':World} {NB S:Nat→Prop} {fs:List VF} (h:VFs w NB fs) (k:Upd S w w') (hn:∀i,NB i→¬S i):VFs w' NB fs:=fun f hf=>⟨(h f hf).1.upd k hn,(h f hf).2⟩
end Go.Proofs.Ytfcefnpnomlgbaa
