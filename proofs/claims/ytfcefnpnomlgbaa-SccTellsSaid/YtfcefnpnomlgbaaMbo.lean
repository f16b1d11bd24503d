/- Components of a digraph: who goes round (scc.Round). -/
import Derived.Test.YtfcefnpnomlgbaaMba
import Derived.Test.YtfcefnpnomlgbaaMbf
import Derived.Test.YtfcefnpnomlgbaaMbi
import Derived.Test.YtfcefnpnomlgbaaMbn
namespace Go.Proofs.Ytfcefnpnomlgbaa
set_option linter.unusedSimpArgs false
set_option linter.unusedVariables false
open Go.RowKit
theorem Zfv (l:List Int) (x:Int):decide (ZaR l x<l.length)=decide (x∈l):=by
 unfold ZaR
 by_cases h:x∈l
 ·rw[decide_eq_true h,decide_eq_true (List.findIdx_lt_length_of_exists ⟨x,h,by simp⟩)]
 ·rw[decide_eq_false h,decide_eq_false fun h2=>h (by
   have:=List.findIdx_getElem (p:=(·==x)) (xs:=l) (w:=h2)
   rw[beq_iff_eq]at this
   rw[←this]
   exact List.getElem_mem _)]
theorem ZfY (F:Nat→Prop) (w:World) (A:Option Addr) (c:Nat) (l:List Int) (x:Int) (h:Ints F w A l) (hl:l.length≤17592186044415) {v:Bool} (hv:decide (x∈l)=v):
  Calls Try.prog 31 #[.slice A l.length c,.int .i64 x] w fun e w'=>e= .returned (.bool v)∧w=w':=by
 have HI:=Lib.hid (ZgI F w A c l x h hl)
 obtain⟨r,hr⟩:∃r:Int,(if ZaR l x<l.length then (ZaR l x:Int) else -1)=r:=⟨_,rfl⟩
 have hrv:decide ((0:Int)≤r)=v:=by
  rw[←hv,←Zfv,←hr]
  by_cases hp:ZaR l x<l.length
  ·rw[if_pos hp,decide_eq_true hp,decide_eq_true (by omega)]
  ·rw[if_neg hp,decide_eq_false hp];rfl
 rw[hr]at HI
 clear hv hr h
 subst hrv
 go_enter Try.func31,Try.ntmps31
 go_wp2_with fail
 refine(HI.out).mono ?_
 rintro e w1 ⟨rfl,rfl⟩
 go_wp2
 go_ret
 exact⟨rfl,rfl⟩
theorem Zd5 {q:List HArc} {N:Nat} (hq:ZR N q) (i:Int):(nxA i false q).length≤N:=by
 have h:=ZX (nxA i false q) ((List.range N).map fun x:Nat=>(x:Int)) (ZbQ (Zbc _ _ _ _ List.Pairwise.nil)) fun x hx=>by
  obtain⟨a,ha,_,rfl⟩:=mem_nxF.1 hx
  have:=hq a ha
  exact List.mem_map.2 ⟨a.t.toNat,List.mem_range.2 (by omega),by omega⟩
 rwa [List.length_map,List.length_range]at h
theorem ZfG {q:List HArc} {N:Nat} (hq:ZR N q) {p:List Nat} (h:¬1<p.length):Zab q p=decide ((p.headD 0:Int)∈nxA (p.headD 0:Int) false q):=by
 unfold Zab
 rw[decide_eq_false h,Bool.false_or]
 congr 1
 rw[eq_iff_iff,ZaN hq,mem_nxF]
def Zeu (q:List HArc) (cs:List (List Nat)):List Nat:=(cs.filter (Zab q)).flatten
theorem ZbD (q:List HArc) {cs:List (List Nat)} {k:Nat} (hk:k<cs.length):Zeu q (cs.take (k+1))=Zeu q (cs.take k)++if Zab q cs[k]=true then cs[k] else []:=by
 unfold Zeu
 rw[List.take_succ_eq_append_getElem hk,List.filter_append,List.flatten_append]
 congr 1
 by_cases h:Zab q cs[k]=true
 ·rw[if_pos h];simp[h]
 ·rw[if_neg h];simp[h]
theorem Zgk (L:Nat→Nat) (k:Nat) {l:List Nat} (h:l∈Zh L k):l≠[]:=by
 unfold Zh at h
 obtain⟨r,hr,rfl⟩:=List.mem_map.1 h
 obtain⟨h1,h2⟩:=mem_rootsN.1 hr
 exact List.ne_nil_of_mem (mem_membN.2 ⟨h1,h2⟩)
theorem Zan (l:List Nat):ZF l=(l.map fun x:Nat=>(x:Int)).map (Value.int .i64):=by unfold ZF;rw[List.map_map];rfl
set_option maxRecDepth 100000 in
set_option maxHeartbeats 8000000 in
theorem Zfb {w:World} {G:Nat→Prop} {p:Option Addr} {N K:Nat} {q:List HArc} (hD:DG w G p N K q) (hN:N≤4096) (mask:Int):
  Calls Try.prog 14 #[.pointer p,.int .i64 mask] w (Zad w (ZT N (ofA mask q))):=by
 have CC:=Lib.hid (ZdR hD hN mask)
 have HQ:=Lib.hid (ZaY (Zbf hD) mask)
 have HD:=Lib.hid hD
 have hNN:=Lib.hid hN
 obtain⟨q',hq'⟩:∃q',ofA mask q=q':=⟨_,rfl⟩
 rw[hq']at CC HQ ⊢
 have HQM:=Lib.hid hq'
 clear hD hq' hN
 go_enter Try.func14,Try.ntmps14
 go_wp2_with fail
 refine(CC.out).mono ?_
 rintro e w1 ⟨A,c,ps,rfl,hP,hC,hu⟩
 have HP:=Lib.hid hP
 have HC:=Lib.hid hC
 have HU:=Lib.hid hu
 have hpl:ps.length≤4096:=by
  have h1:ps.length=(Zh (Za q') N).length:=by rw[←hC,List.length_map]
  rw[h1,Zbt]
  exact Nat.le_trans (ZcG _ _) hNN.out
 have HDN:=Lib.hid (fun(W:World) (u:Upd No w1 W) (i:Int)=>by have:=Ze9 (HD.out.upd (hu.trans u) fun _ _=>id) i mask;rw[HQM.out]at this;exact this)
 clear hP hC hu CC
 go_wp2
 go_loopg [5,12] ps.length (fun gk O i wr=>∃(k:Nat) (A':Option Addr) (c':Nat) (xs:List Nat),k+gk=ps.length∧i= .int .i64 (k:Int)∧O= .slice A' xs.length c'∧Hid (Zeu q' ((ps.map PV.l).take k)=xs)∧Hid (wr.ownsRow w1.heap.size 3 1 (.slice A' xs.length c') xs.length (ZF xs))∧Hid (xs.length≤k*4096)∧Hid (Upd No w1 wr))
 case atStart=>exact⟨0,none,0,[],by omega,rfl,rfl,Lib.hid rfl,Lib.hid (World.ownsRow_nil _ _ _ _),Lib.hid (Nat.zero_le _),Lib.hid (Upd.refl _ _)⟩
 case round=>
  obtain⟨k,A',c',xs,hgk,rfl,rfl,HXS,HO3,HXL,HU3⟩:=hrel
  by_cases hk:k<ps.length
  ·have h1:(k:Int)<(ps.length:Int):=by omega
   have h0:(0:Int)≤(k:Int):=Int.natCast_nonneg _
   have kw:IntKind.i64.wrap ((k:Int)+1)=(k:Int)+1:=IntWalk.i64_in _ (by omega)
   rcases hpk:ps[k]with ⟨pA,pc,pl⟩
   have hj:ps[k]? =some ⟨pA,pc,pl⟩:=by rw[List.getElem?_eq_getElem hk,hpk]
   have hrow:=Zb (HP.out.rows k _ hj) HU3.out (fun _ _=>id)
   obtain⟨gO,cur,rfl,hgO,hbO,hncO,hlO,hxO,hcO⟩:=ZI HP.out.own (by omega)
   have hcell:∀W,Upd No w1 W→W.cell? ⟨gO,k,none⟩=some (.slice pA pl.length pc):=fun W u=>by
    have h2:(cur.take (ps.length*1))[k]? =some (.slice pA pl.length pc):=by rw[hxO,List.getElem?_map,hj];rfl
    rw[List.getElem?_take,if_pos (by omega)]at h2
    rw[(hbO.upd u id).cell];exact h2
   have hc3:=hcell wr HU3.out
   have hmem:pl∈Zh (Za q') N:=by
    rw[←HC.out,←show(⟨pA,pc,pl⟩:PV).l=pl from rfl,←hpk]
    exact List.mem_map_of_mem (List.getElem_mem hk)
   have hplN:pl.length≤4096:=Nat.le_trans (Zdw _ _ hmem) hNN.out
   have hne:=Zgk _ _ hmem
   have HKL:=Lib.hid (show k<(ps.map PV.l).length by rw[List.length_map];exact hk)
   have HKE:=Lib.hid (show(ps.map PV.l)[k]'HKL.out=pl by rw[List.getElem_map,hpk])
   have hIp:Ints (fun i=>w.heap.size≤i) wr pA (pl.map fun x:Nat=>(x:Int)):=Ints.of_own (by
    have:=hrow
    rw[Zan]at this
    exact this)
   have HSR:=Lib.hid (show Src wr pA pl.length 1 (ZF pl) by
    have:=hIp.src
    rw[List.length_map,←Zan]at this
    exact this)
   have HIP:=Lib.hid hIp
   have HZ3:=Lib.hid HU3.out.size
   have hxl:xs.length≤4096*4096:=Nat.le_trans HXL.out (Nat.mul_le_mul_right _ (by omega))
   have hzz:Upd No wr wr:=Upd.refl _ _
   have HHD:=Lib.hid (show∃y t,pl=y::t from List.exists_cons_of_ne_nil hne)
   clear hrow hbO hlO hxO hcell hj hmem hne hIp hpk
   by_cases hlen:1<pl.length
   ·have l1:(1:Int)<(pl.length:Int):=by omega
    have HGO:=Lib.hid (show Zab q' pl=true by unfold Zab;rw[decide_eq_true hlen];rfl)
    go_wp2
    refine wp_region_noPanic ?_
    refine wp_region_held_drew (S:=(fun W'=>Upd No wr W')) (by kernel_rfl) ?_ (fun hHeld=> ?_)
    ·(first|exact hzz.drew|exact hHeld)
    refine wpK 0 rfl ?_
    refine wpK 1 rfl ?_
    refine wpK 2 rfl ?_
    refine wpK 3 rfl ?_
    refine wpN 4 rfl ?_
    refine wpN 5 rfl ?_
    refine wpN 6 rfl ?_
    refine wpN 7 rfl ?_
    refine wpN 8 rfl ?_
    refine wpN 10 rfl ?_
    refine wpN 11 rfl ?_
    refine wpN 12 rfl ?_
    refine wpR [9] ?_
    refine wpC rfl (fun K hK=> ?_) AllReadyH.nil
    go_simp
    refine hK.out _ _ ?_ (fun hHeld=> ?_)
    ·exact hHeld
    clear hK K
    try simp only[Act.put,sT,sS,sZ]
    refine wpR [13] ?_
    refine wpC rfl (fun K hK=> ?_) AllReadyH.nil
    go_simp
    refine hK.out _ _ ?_ (fun hHeld=> ?_)
    ·exact hHeld
    clear hK K
    try simp only[Act.put,sT,sS,sZ]
    refine wpK 14 rfl ?_
    refine wpD (NoPanic.normal ?_)
    have HO4:=Lib.hid (Zb HO3.out hHeld (fun _ _=>id))
    have HSR4:=Lib.hid (show Src _ pA pl.length 1 (ZF pl) by have:=(HIP.out.upd hHeld (fun _ _=>id)).src;rwa [List.length_map,←Zan]at this)
    have HU4:=Lib.hid (HU3.out.trans hHeld)
    clear hHeld
    go_wp2_with (at_builtin;refine ZfN rfl rfl Zaj (v:= .slice A' xs.length c') (n:=xs.length) (m:=pl.length) (xs:=ZF xs) (news:=ZF pl) (by rfl) (by rfl) HO4.out HSR4.out (fun u hu=>by obtain⟨z,_,rfl⟩:=List.mem_map.1 hu;rfl) (by omega) (by omega) HU4.out.size ?_;intro v9 w9 hown9 hu9 hg9;obtain⟨A9,c9,rfl⟩:=Z4 hown9;have HO9:=Lib.hid hown9;have HU9:=Lib.hid hu9;clear hown9 hu9 hg9)
    go_roundg (gk-1)
    case measure=>omega
    case rel=>exact⟨k+1,A9,c9,xs++pl,by omega,by simp,by simp,Lib.hid (by rw[ZbD q' HKL.out,HKE.out,if_pos HGO.out,HXS.out]),Lib.hid (by simpa[ZF]using HO9.out),Lib.hid (by simp;have:=HXL.out;omega),Lib.hid (HU4.out.then_ HU9.out (fun i e=>Or.inr (HO3.out.lt i e).1))⟩
   ·obtain⟨y,t,hyt⟩:=HHD.out
    have ht:t=[]:=by
     cases t with
     |nil=>rfl
     |cons a t=>rw[hyt]at hlen;simp at hlen
    subst ht
    have l1:decide ((1:Int)<(pl.length:Int))=false:=decide_eq_false (by omega)
    have hpl1:pl.length=1:=by rw[hyt];rfl
    obtain⟨ad,hpa,_,_,q0⟩:=HIP.out.at_ (k:=0) (by rw[List.length_map,hpl1];omega)
    have hy0:(pl.map fun x:Nat=>(x:Int))[0]'(by rw[List.length_map,hpl1];omega)=(y:Int):=by simp[hyt]
    rw[hy0,Zc9]at q0
    subst hpa
    have p0:(0:Int)<(pl.length:Int):=by omega
    have p1:0<pl.length:=by omega
    have c0:∀W,Upd No wr W→W.cell? ad=some (.int .i64 (y:Int)):=fun W u=>u.keepNo q0
    have HGB:=Lib.hid (show Zab q' pl=decide ((y:Int)∈nxA (y:Int) false q') by rw[ZfG HQ.out hlen,hyt];rfl)
    clear hlen
    have HCN:=Lib.hid (fun W (u:Upd No wr W)=>HDN.out W (HU3.out.trans u) (y:Int))
    cases hb:decide ((y:Int)∈nxA (y:Int) false q')
    ·have HGO:=Lib.hid (show¬Zab q' pl=true by rw[HGB.out,hb];simp)
     have HBB:=Lib.hid hb
     clear hb hy0 q0 hyt hpl1
     go_wp2
     refine wp_region_noPanic ?_
     refine wp_region_held_drew (S:=(fun W'=>Upd No wr W')) (by kernel_rfl) ?_ (fun hHeld=> ?_)
     ·(first|exact hzz.drew|exact hHeld|exact hHeld.trans hu4)
     refine wpK 0 rfl ?_
     refine wpK 1 rfl ?_
     refine wpK 2 rfl ?_
     refine wpK 3 rfl ?_
     refine wpK 4 rfl ?_
     refine wpK 5 rfl ?_
     refine wpK 6 rfl ?_
     refine wpK 7 rfl ?_
     refine wpK 8 rfl ?_
     refine wpK 10 rfl ?_
     refine wpK 11 rfl ?_
     refine wpK 12 rfl ?_
     refine wpR [9] ?_
     refine wpC rfl (fun K hK=> ?_) AllReadyH.nil
     go_simp
     (first
  |(go_at_call 19;refine(HCN.out _ hHeld).mono ?_;rintro e w4 ⟨A4,c4,rfl,ho4,hu4⟩;have HI4:=Lib.hid (Ints.of_owned ho4);clear ho4))
     try (go_wp2_with fail)
     refine hK.out _ _ ?_ (fun hHeld=> ?_)
     ·(first|exact hzz.drew|exact hHeld|exact hHeld.trans hu4)
     clear hK K
     try simp only[Act.put,sT,sS,sZ]
     refine wpR [13] ?_
     refine wpC rfl (fun K hK=> ?_) AllReadyH.nil
     go_simp
     (first
  |(go_at_call 31;refine(ZfY _ _ _ _ _ _ HI4.out (Nat.le_trans (Zd5 HQ.out _) (Nat.le_trans hNN.out (by decide))) HBB.out).mono ?_;rintro e w5 ⟨rfl,rfl⟩))
     try (go_wp2_with fail)
     refine hK.out _ _ ?_ (fun hHeld=> ?_)
     ·(first|exact hzz.drew|exact hHeld|exact hHeld.trans hu4)
     clear hK K
     try simp only[Act.put,sT,sS,sZ]
     refine wpK 14 rfl ?_
     refine wpD (NoPanic.normal ?_)
     have HU4:=Lib.hid (HU3.out.trans hHeld)
     have HO4:=Lib.hid (Zb HO3.out hHeld (fun _ _=>id))
     clear hHeld
     go_wp2
     go_roundg (gk-1)
     case measure=>omega
     case rel=>exact⟨k+1,A',c',xs,by omega,by simp,rfl,Lib.hid (by rw[ZbD q' HKL.out,HKE.out,if_neg HGO.out,HXS.out,List.append_nil]),HO4,Lib.hid (by have:=HXL.out;omega),HU4⟩
    ·have HGO:=Lib.hid (show Zab q' pl=true by rw[HGB.out,hb])
     have HBB:=Lib.hid hb
     clear hb hy0 q0 hyt hpl1
     go_wp2
     refine wp_region_noPanic ?_
     refine wp_region_held_drew (S:=(fun W'=>Upd No wr W')) (by kernel_rfl) ?_ (fun hHeld=> ?_)
     ·(first|exact hzz.drew|exact hHeld|exact hHeld.trans hu4)
     refine wpK 0 rfl ?_
     refine wpK 1 rfl ?_
     refine wpK 2 rfl ?_
     refine wpK 3 rfl ?_
     refine wpK 4 rfl ?_
     refine wpK 5 rfl ?_
     refine wpK 6 rfl ?_
     refine wpK 7 rfl ?_
     refine wpK 8 rfl ?_
     refine wpK 10 rfl ?_
     refine wpK 11 rfl ?_
     refine wpK 12 rfl ?_
     refine wpR [9] ?_
     refine wpC rfl (fun K hK=> ?_) AllReadyH.nil
     go_simp
     (first
  |(go_at_call 19;refine(HCN.out _ hHeld).mono ?_;rintro e w4 ⟨A4,c4,rfl,ho4,hu4⟩;have HI4:=Lib.hid (Ints.of_owned ho4);clear ho4))
     try (go_wp2_with fail)
     refine hK.out _ _ ?_ (fun hHeld=> ?_)
     ·(first|exact hzz.drew|exact hHeld|exact hHeld.trans hu4)
     clear hK K
     try simp only[Act.put,sT,sS,sZ]
     refine wpR [13] ?_
     refine wpC rfl (fun K hK=> ?_) AllReadyH.nil
     go_simp
     (first
  |(go_at_call 31;refine(ZfY _ _ _ _ _ _ HI4.out (Nat.le_trans (Zd5 HQ.out _) (Nat.le_trans hNN.out (by decide))) HBB.out).mono ?_;rintro e w5 ⟨rfl,rfl⟩))
     try (go_wp2_with fail)
     refine hK.out _ _ ?_ (fun hHeld=> ?_)
     ·(first|exact hzz.drew|exact hHeld|exact hHeld.trans hu4)
     clear hK K
     try simp only[Act.put,sT,sS,sZ]
     refine wpK 14 rfl ?_
     refine wpD (NoPanic.normal ?_)
     have HO4:=Lib.hid (Zb HO3.out hHeld (fun _ _=>id))
     have HSR4:=Lib.hid (show Src _ (some ad) pl.length 1 (ZF pl) by have:=(HIP.out.upd hHeld (fun _ _=>id)).src;rwa [List.length_map,←Zan]at this)
     have HU4:=Lib.hid (HU3.out.trans hHeld)
     clear hHeld
     go_wp2_with (at_builtin;refine ZfN rfl rfl Zaj (v:= .slice A' xs.length c') (n:=xs.length) (m:=pl.length) (xs:=ZF xs) (news:=ZF pl) (by rfl) (by rfl) HO4.out HSR4.out (fun u hu=>by obtain⟨z,_,rfl⟩:=List.mem_map.1 hu;rfl) (by omega) (by omega) HU4.out.size ?_;intro v9 w9 hown9 hu9 hg9;obtain⟨A9,c9,rfl⟩:=Z4 hown9;have HO9:=Lib.hid hown9;have HU9:=Lib.hid hu9;clear hown9 hu9 hg9)
     go_roundg (gk-1)
     case measure=>omega
     case rel=>exact⟨k+1,A9,c9,xs++pl,by omega,by simp,by simp,Lib.hid (by rw[ZbD q' HKL.out,HKE.out,if_pos HGO.out,HXS.out]),Lib.hid (by simpa[ZF]using HO9.out),Lib.hid (by simp;have:=HXL.out;omega),Lib.hid (HU4.out.then_ HU9.out (fun i e=>Or.inr (HO3.out.lt i e).1))⟩
  ·obtain rfl:k=ps.length:=by omega
   have h1:¬((ps.length:Int)<(ps.length:Int)):=by omega
   have CS:=Lib.hid (ZfX wr w1.heap.size A' c' (xs.map fun x:Nat=>(x:Int)) (by have:=HO3.out;rw[Zan]at this;rwa [List.length_map]) (by rw[List.length_map];have:=HXL.out;have:=hpl;have h3:ps.length*4096≤4096*4096:=Nat.mul_le_mul_right _ hpl;omega))
   rw[List.length_map]at CS
   go_wp2_with fail
   refine(CS.out).mono ?_
   rintro e w4 ⟨rfl,ho4,hu4⟩
   have HO4:=Lib.hid ho4
   have HU4:=Lib.hid (HU.out.trans (HU3.out.then_ hu4 (fun i e=>Or.inr (HO3.out.lt i e).1)))
   have HRR:=Lib.hid (show ZP (xs.map fun x:Nat=>(x:Int))=ZT N q' by
    rw[Zb2,←Zfo HQ.out,←HXS.out,List.take_of_length_le (by rw[List.length_map];exact Nat.le_refl _),HC.out];rfl)
   have HLL:=Lib.hid (show(ZT N q').length=xs.length by rw[←HRR.out,Zb2,(Zaq _).length_eq,List.length_map])
   clear ho4 hu4 CS
   go_wp2
   refine bodyPost_ret (v:= .slice A' xs.length c') (by simp[results,Try.results14,go_sem]) rfl ⟨A',c',by rw[HLL.out],?_,HU4.out⟩
   rw[HLL.out,←HRR.out]
   exact ZO HO4.out HU.out.size
end Go.Proofs.Ytfcefnpnomlgbaa
/- Components of a digraph,the document's:who is reached (tenterref23.Reach). -/
namespace Go.Proofs.Ytfcefnpnomlgbaa
set_option linter.unusedSimpArgs false
set_option linter.unusedVariables false
open Go.RowKit
theorem Za3 (w:World) (F:Nat→Prop) (A:Option Addr) (c:Nat) (l:List Int) (a:Int) (h:Ints F w A l) (hl:l.length≤4398046511103) {v:Bool} (hv:decide (a∈l)=v):
  Calls Try.prog 20 #[.slice A l.length c,.int .i64 a] w fun e w'=>e= .returned (.bool v)∧w=w':=by
 subst hv
 exact ZgZ w F A c l a h hl
set_option maxRecDepth 100000 in
set_option maxHeartbeats 4000000 in
theorem ZeQ (F:Nat→Prop) (w:World) (A:Option Addr) (c:Nat) (l:List HArc) (i0:Int) (h:ArcsL F w A l) (hl:l.length≤1000) (hst:(nxA i0 false l).length≤100000):
  Calls Try.prog 25 #[.slice A l.length c,.int .i64 i0] w (Zad w (Ze l i0)):=by
 have HA:=Lib.hid h
 have HN:=Lib.hid (Zgh F w A c l i0 h (by omega))
 have HSL:=Lib.hid hst
 clear h hst
 go_enter Try.func25,Try.ntmps25
 go_wp2_with fail
 refine(HN.out).mono ?_
 rintro e w1 ⟨A1,c1,rfl,ho1,hu1⟩
 have HO1:=Lib.hid ho1
 have HU1:=Lib.hid hu1
 have H0:=Lib.hid (show itR l (l.length+1) (nxA i0 false l)=Ze l i0 from rfl)
 obtain⟨xs0,hx0⟩:∃xs0,nxA i0 false l=xs0:=⟨_,rfl⟩
 rw[hx0]at HO1 H0 HSL ⊢
 clear ho1 hu1 HN hx0
 go_wp2
 go_loopg [5,6] (l.length+1) (fun gk s i wr=>∃(k:Nat) (A5:Option Addr) (c5:Nat) (xs:List Int),k+gk=l.length+1∧i= .int .i64 (k:Int)∧s= .slice A5 xs.length c5∧Hid (itR l gk xs=Ze l i0)∧Hid (xs.length≤xs0.length+k*l.length)∧
  Hid (wr.ownsRow w.heap.size 3 1 (.slice A5 xs.length c5) xs.length (xs.map (Value.int .i64)))∧Hid (Upd No w wr))
 case atStart=>exact⟨0,A1,c1,xs0,by omega,rfl,rfl,H0,Lib.hid (by omega),HO1,HU1⟩
 case round=>
  clear H0 HO1 HU1
  obtain⟨k,A5,c5,xs,hgk,rfl,rfl,hs,hxl,hown,hu⟩:=hrel
  by_cases hk:k<l.length+1
  ·obtain⟨g1,rfl⟩:∃g1,gk=g1+1:=⟨gk-1,by omega⟩
   have e1:(k:Int)≤(l.length:Int):=by omega
   obtain⟨RR,hRR⟩:∃RR,Zt l xs l=RR:=⟨_,rfl⟩
   have HS:=Lib.hid (show itR l g1 RR=Ze l i0 by rw[←hRR];exact hs.out)
   have HR0:=Lib.hid (show Zt l xs (l.drop 0)=RR by rw[List.drop_zero];exact hRR)
   obtain⟨wo,hwo⟩:∃wo,wo=wr:=⟨_,rfl⟩
   subst hwo
   have kw:IntKind.i64.wrap ((k:Int)+1)=(k:Int)+1:=IntWalk.i64_in _ (by omega)
   have hxx:xs.length≤100000+1000*1000:=Nat.le_trans hxl.out (Nat.add_le_add HSL.out (Nat.mul_le_mul (by omega) hl))
   clear hs hRR
   go_wp2
   generalize hm0:g1+1=m0 at*
   go_loopg [5,20] l.length (fun gk s i wx=>∃(j:Nat) (A6:Option Addr) (c6:Nat) (ys:List Int),j+gk=l.length∧i= .int .i64 (j:Int)∧s= .slice A6 ys.length c6∧Hid (Zt l ys (l.drop j)=RR)∧Hid (ys.length≤xs.length+j)∧
    Hid (wx.ownsRow w.heap.size 3 1 (.slice A6 ys.length c6) ys.length (ys.map (Value.int .i64)))∧Hid (Upd No wo wx))
   case atStart=>exact⟨0,A5,c5,xs,by omega,rfl,rfl,HR0,Lib.hid (by omega),hown,Lib.hid (Upd.refl _ _)⟩
   case round=>
    clear HR0
    obtain⟨j,A6,c6,ys,hgj,rfl,rfl,hr,hyl,hown6,hu6⟩:=hrel
    by_cases hj:j<l.length
    ·obtain⟨ax,rfl,q0,q1,q2,q3⟩:=((HA.out.upd hu.out (fun _ _=>id)).upd hu6.out (fun _ _=>id)).at_ hj
     obtain⟨x,hx⟩:∃x,l[j]=x:=⟨_,rfl⟩
     rw[hx]at q0 q1 q2 q3
     have hst:=hr.out
     rw[show l.drop j=x::l.drop (j+1) by rw[←hx];exact List.drop_eq_getElem_cons hj]at hst
     have hst:Zt l (if x.f∈ys∧x.t∉ys then Zn x.t ys else ys) (l.drop (j+1))=RR:=hst
     clear hx hr
     have b1:(0:Int)≤(j:Int):=Int.natCast_nonneg _
     have b2:(j:Int)<(l.length:Int):=by omega
     have jw:IntKind.i64.wrap ((j:Int)+1)=(j:Int)+1:=IntWalk.i64_in _ (by omega)
     have uA:=(Upd.refl No wr).alloc (.cells #[.int .i64 x.f,.int .i64 x.t,.int .i64 x.kind,.int .i64 x.label] 28)
     have bo:=Blk.new wr 28 [.int .i64 x.f,.int .i64 x.t,.int .i64 x.kind,.int .i64 x.label]
     have HO6:=Lib.hid (Zb hown6.out uA (fun _ _=>id))
     have g0:=bo.cell 0
     have g1:=bo.cell 1
     simp only[List.getElem?_cons_zero,List.getElem?_cons_succ]at g0 g1
     have HU6:=Lib.hid (hu6.out.trans uA)
     have HZ:=Lib.hid (hu.out.trans HU6.out).size
     have hyy:ys.length≤4000000:=by have:=hyl.out;omega
     have HI6:=Lib.hid (Ints.of_own HO6.out)
     clear uA bo hown6 hu6
     by_cases hf:x.f∈ys
     ·have HF:=Lib.hid (Za3 _ _ A6 c6 ys x.f HI6.out (by omega) (decide_eq_true hf))
      by_cases ht:x.t∈ys
      ·have HT:=Lib.hid (Za3 _ _ A6 c6 ys x.t HI6.out (by omega) (decide_eq_true ht))
       have HST:=Lib.hid (show Zt l ys (l.drop (j+1))=RR by rw[if_neg (fun e=>e.2 ht)]at hst;exact hst)
       clear hst hf ht
       go_wp2_with fail
       refine(HF.out).mono ?_
       rintro e w2 ⟨rfl,rfl⟩
       go_wp2_with fail
       refine(HT.out).mono ?_
       rintro e w2 ⟨rfl,rfl⟩
       go_wp2
       go_roundg (gk-1)
       case measure=>omega
       case rel=>exact⟨j+1,A6,c6,ys,by omega,by simp,rfl,HST,Lib.hid (by have:=hyl.out;omega),HO6,HU6⟩
      ·have HT:=Lib.hid (Za3 _ _ A6 c6 ys x.t HI6.out (by omega) (decide_eq_false ht))
       have HST:=Lib.hid (show Zt l (Zn x.t ys) (l.drop (j+1))=RR by rw[if_pos ⟨hf,ht⟩]at hst;exact hst)
       have HP:=Lib.hid (ZgE _ _ A6 c6 ys x.t HI6.out (by omega))
       have HPL:=Lib.hid (Zdq x.t ys)
       clear hst hf ht
       go_wp2_with fail
       refine(HF.out).mono ?_
       rintro e w2 ⟨rfl,rfl⟩
       go_wp2_with fail
       refine(HT.out).mono ?_
       rintro e w2 ⟨rfl,rfl⟩
       go_wp2_with fail
       refine(HP.out).mono ?_
       rintro e w2 ⟨A2,c2,rfl,ho2,hu2⟩
       have HO2:=Lib.hid (ZO ho2 HZ.out)
       have HU2:=Lib.hid (HU6.out.trans hu2)
       clear ho2 hu2
       go_wp2
       go_roundg (gk-1)
       case measure=>omega
       case rel=>exact⟨j+1,A2,c2,Zn x.t ys,by omega,by simp,rfl,HST,Lib.hid (by have:=hyl.out;have:=HPL.out;omega),HO2,HU2⟩
     ·have HF:=Lib.hid (Za3 _ _ A6 c6 ys x.f HI6.out (by omega) (decide_eq_false hf))
      have HST:=Lib.hid (show Zt l ys (l.drop (j+1))=RR by rw[if_neg (fun e=>hf e.1)]at hst;exact hst)
      clear hst hf
      go_wp2_with fail
      refine(HF.out).mono ?_
      rintro e w2 ⟨rfl,rfl⟩
      go_wp2
      go_roundg (gk-1)
      case measure=>omega
      case rel=>exact⟨j+1,A6,c6,ys,by omega,by simp,rfl,HST,Lib.hid (by have:=hyl.out;omega),HO6,HU6⟩
    ·obtain rfl:j=l.length:=by omega
     have HY:=Lib.hid (show ys=RR by have:=hr.out;rw[List.drop_length]at this;exact this)
     clear hr
     go_wp2
     go_roundg (m0-1)
     case measure=>omega
     case rel=>exact⟨k+1,A6,c6,ys,by omega,by simp,rfl,Lib.hid (by rw[HY.out,←hm0];exact HS.out),Lib.hid (by have:=hyl.out;have:=hxl.out;rw[Nat.succ_mul];omega),hown6,Lib.hid (hu.out.trans hu6.out)⟩
  ·obtain rfl:k=l.length+1:=by omega
   obtain rfl:gk=0:=by omega
   have HX:=Lib.hid (show xs=Ze l i0 from hs.out)
   have e1:¬(((l.length+1:Nat):Int)≤(l.length:Int)):=by omega
   clear hs
   go_wp2
   go_ret
   rw[←HX.out]
   exact⟨A5,c5,rfl,hown.out,hu.out⟩
end Go.Proofs.Ytfcefnpnomlgbaa
