/- Components of a digraph: who goes round (scc.Round). -/
import Derived.Test.YtfcefnpnomlgbaaMai
import Derived.Test.YtfcefnpnomlgbaaMbb
import Derived.Test.YtfcefnpnomlgbaaMbe
import Derived.Test.YtfcefnpnomlgbaaMbf
import Derived.Test.YtfcefnpnomlgbaaMbg
import Derived.Test.YtfcefnpnomlgbaaMbi
import Derived.Test.YtfcefnpnomlgbaaMbj
import Derived.Test.YtfcefnpnomlgbaaMbo
namespace Go.Proofs.Ytfcefnpnomlgbaa
set_option linter.unusedSimpArgs false
set_option linter.unusedVariables false
open Go.RowKit
theorem Zfa (l:List Int) (x:Int):decide (ZaP l x<l.length)=decide (x∈l):=by
 unfold ZaP
 by_cases h:x∈l
 ·rw[decide_eq_true h,decide_eq_true (List.findIdx_lt_length_of_exists ⟨x,h,by simp⟩)]
 ·rw[decide_eq_false h,decide_eq_false fun h2=>h (by
   have:=List.findIdx_getElem (p:=(·==x)) (xs:=l) (w:=h2)
   rw[beq_iff_eq]at this
   rw[←this]
   exact List.getElem_mem _)]
theorem ZfC (F:Nat→Prop) (w:World) (A:Option Addr) (c:Nat) (l:List Int) (x:Int) (h:Ints F w A l) (hl:l.length≤17592186044415) {v:Bool} (hv:decide (x∈l)=v):
  Calls Try.prog 31 #[.slice A l.length c,.int .i64 x] w fun e w'=>e= .returned (.bool v)∧w=w':=by
 have HI:=Lib.hid (Zgk F w A c l x h hl)
 obtain⟨r,hr⟩:∃r:Int,(if ZaP l x<l.length then (ZaP l x:Int) else -1)=r:=⟨_,rfl⟩
 have hrv:decide ((0:Int)≤r)=v:=by
  rw[←hv,←Zfa,←hr]
  by_cases hp:ZaP l x<l.length
  ·rw[if_pos hp,decide_eq_true hp,decide_eq_true (by omega)]
  ·rw[if_neg hp,decide_eq_false hp];rfl
 rw[hr]at HI
 clear hv hr h
 subst hrv
 go_enter Try.func31,Try.ntmps31
 go_wp2_with fail
 refine(HI.out).mono ?_
 rintro e w1 ⟨rfl,rfl⟩
 go_wp2
 go_ret
 exact⟨rfl,rfl⟩
theorem Zcu {q:List HArc} {N:Nat} (hq:Zq N q) (i:Int):(nxA i false q).length≤N:=by
 have h:=ZaD (nxA i false q) ((List.range N).map fun x:Nat=>(x:Int)) (ZdP (Zch _ _ _ _ List.Pairwise.nil)) fun x hx=>by
  obtain⟨a,ha,_,rfl⟩:=mem_nxF.1 hx
  have:=hq a ha
  exact List.mem_map.2 ⟨a.t.toNat,List.mem_range.2 (by omega),by omega⟩
 rwa [List.length_map,List.length_range]at h
theorem Zfo {q:List HArc} {N:Nat} (hq:Zq N q) {p:List Nat} (h:¬1<p.length):Z6 q p=decide ((p.headD 0:Int)∈nxA (p.headD 0:Int) false q):=by
 unfold Z6
 rw[decide_eq_false h,Bool.false_or]
 congr 1
 rw[eq_iff_iff,ZN hq,mem_nxF]
def Zea (q:List HArc) (cs:List (List Nat)):List Nat:=(cs.filter (Z6 q)).flatten
theorem Zby (q:List HArc) {cs:List (List Nat)} {k:Nat} (hk:k<cs.length):Zea q (cs.take (k+1))=Zea q (cs.take k)++if Z6 q cs[k]=true then cs[k] else []:=by
 unfold Zea
 rw[List.take_succ_eq_append_getElem hk,List.filter_append,List.flatten_append]
 congr 1
 by_cases h:Z6 q cs[k]=true
 ·rw[if_pos h];simp[h]
 ·rw[if_neg h];simp[h]
theorem ZfV (L:Nat→Nat) (k:Nat) {l:List Nat} (h:l∈Zg L k):l≠[]:=by
 unfold Zg at h
 obtain⟨r,hr,rfl⟩:=List.mem_map.1 h
 obtain⟨h1,h2⟩:=mem_rootsN.1 hr
 exact List.ne_nil_of_mem (mem_membN.2 ⟨h1,h2⟩)
theorem Zag (l:List Nat):Zw l=(l.map fun x:Nat=>(x:Int)).map (Value.int .i64):=by unfold Zw;rw[List.map_map];rfl
set_option maxRecDepth 100000 in
set_option maxHeartbeats 8000000 in
theorem Zgs {w:World} {G:Nat→Prop} {p:Option Addr} {N K:Nat} {q:List HArc} (hD:DG w G p N K q) (hN:N≤4096) (mask:Int):
  Calls Try.prog 14 #[.pointer p,.int .i64 mask] w (ZaX w (Zak N (ofA mask q))):=by
 have CC:=Lib.hid (ZeP hD hN mask)
 have HQ:=Lib.hid (Zat (Zau hD) mask)
 have HD:=Lib.hid hD
 have hNN:=Lib.hid hN
 obtain⟨q',hq'⟩:∃q',ofA mask q=q':=⟨_,rfl⟩
 rw[hq']at CC HQ ⊢
 have HQM:=Lib.hid hq'
 clear hD hq' hN
 go_enter Try.func14,Try.ntmps14
 go_wp2_with fail
 refine(CC.out).mono ?_
 rintro e w1 ⟨A,c,ps,rfl,hP,hC,hu⟩
 have HP:=Lib.hid hP
 have HC:=Lib.hid hC
 have HU:=Lib.hid hu
 have hpl:ps.length≤4096:=by
  have h1:ps.length=(Zg (Za q') N).length:=by rw[←hC,List.length_map]
  rw[h1,Zco]
  exact Nat.le_trans (ZdW _ _) hNN.out
 have HDN:=Lib.hid (fun(W:World) (u:Upd No w1 W) (i:Int)=>by have:=Zdz (HD.out.upd (hu.trans u) fun _ _=>id) i mask;rw[HQM.out]at this;exact this)
 clear hP hC hu CC
 go_wp2
 go_loopg [5,12] ps.length (fun gk O i wr=>∃(k:Nat) (A':Option Addr) (c':Nat) (xs:List Nat),k+gk=ps.length∧i= .int .i64 (k:Int)∧O= .slice A' xs.length c'∧Hid (Zea q' ((ps.map PV.l).take k)=xs)∧Hid (wr.ownsRow w1.heap.size 3 1 (.slice A' xs.length c') xs.length (Zw xs))∧Hid (xs.length≤k*4096)∧Hid (Upd No w1 wr))
 case atStart=>exact⟨0,none,0,[],by omega,rfl,rfl,Lib.hid rfl,Lib.hid (World.ownsRow_nil _ _ _ _),Lib.hid (Nat.zero_le _),Lib.hid (Upd.refl _ _)⟩
 case round=>
  obtain⟨k,A',c',xs,hgk,rfl,rfl,HXS,HO3,HXL,HU3⟩:=hrel
  by_cases hk:k<ps.length
  ·have h1:(k:Int)<(ps.length:Int):=by omega
   have h0:(0:Int)≤(k:Int):=Int.natCast_nonneg _
   have kw:IntKind.i64.wrap ((k:Int)+1)=(k:Int)+1:=IntWalk.i64_in _ (by omega)
   rcases hpk:ps[k]with ⟨pA,pc,pl⟩
   have hj:ps[k]? =some ⟨pA,pc,pl⟩:=by rw[List.getElem?_eq_getElem hk,hpk]
   have hrow:=Zb (HP.out.rows k _ hj) HU3.out (fun _ _=>id)
   obtain⟨gO,cur,rfl,hgO,hbO,hncO,hlO,hxO,hcO⟩:=ZJ HP.out.own (by omega)
   have hcell:∀W,Upd No w1 W→W.cell? ⟨gO,k,none⟩=some (.slice pA pl.length pc):=fun W u=>by
    have h2:(cur.take (ps.length*1))[k]? =some (.slice pA pl.length pc):=by rw[hxO,List.getElem?_map,hj];rfl
    rw[List.getElem?_take,if_pos (by omega)]at h2
    rw[(hbO.upd u id).cell];exact h2
   have hc3:=hcell wr HU3.out
   have hmem:pl∈Zg (Za q') N:=by
    rw[←HC.out,←show(⟨pA,pc,pl⟩:PV).l=pl from rfl,←hpk]
    exact List.mem_map_of_mem (List.getElem_mem hk)
   have hplN:pl.length≤4096:=Nat.le_trans (Zdg _ _ hmem) hNN.out
   have hne:=ZfV _ _ hmem
   have HKL:=Lib.hid (show k<(ps.map PV.l).length by rw[List.length_map];exact hk)
   have HKE:=Lib.hid (show(ps.map PV.l)[k]'HKL.out=pl by rw[List.getElem_map,hpk])
   have hIp:Ints (fun i=>w.heap.size≤i) wr pA (pl.map fun x:Nat=>(x:Int)):=Ints.of_own (by
    have:=hrow
    rw[Zag]at this
    exact this)
   have HSR:=Lib.hid (show Src wr pA pl.length 1 (Zw pl) by
    have:=hIp.src
    rw[List.length_map,←Zag]at this
    exact this)
   have HIP:=Lib.hid hIp
   have HZ3:=Lib.hid HU3.out.size
   have hxl:xs.length≤4096*4096:=Nat.le_trans HXL.out (Nat.mul_le_mul_right _ (by omega))
   have hzz:Upd No wr wr:=Upd.refl _ _
   have HHD:=Lib.hid (show∃y t,pl=y::t from List.exists_cons_of_ne_nil hne)
   clear hrow hbO hlO hxO hcell hj hmem hne hIp hpk
   by_cases hlen:1<pl.length
   ·have l1:(1:Int)<(pl.length:Int):=by omega
    have HGO:=Lib.hid (show Z6 q' pl=true by unfold Z6;rw[decide_eq_true hlen];rfl)
    go_wp2
    refine wp_region_noPanic ?_
    refine wp_region_held_drew (S:=(fun W'=>Upd No wr W')) (by kernel_rfl) ?_ (fun hHeld=> ?_)
    ·(first|exact hzz.drew|exact hHeld)
    refine wpK 0 rfl ?_
    refine wpK 1 rfl ?_
    refine wpK 2 rfl ?_
    refine wpK 3 rfl ?_
    refine wpN 4 rfl ?_
    refine wpN 5 rfl ?_
    refine wpN 6 rfl ?_
    refine wpN 7 rfl ?_
    refine wpN 8 rfl ?_
    refine wpN 10 rfl ?_
    refine wpN 11 rfl ?_
    refine wpN 12 rfl ?_
    refine wpR [9] ?_
    refine wpC rfl (fun K hK=> ?_) AllReadyH.nil
    go_simp
    refine hK.out _ _ ?_ (fun hHeld=> ?_)
    ·exact hHeld
    clear hK K
    try simp only[Act.put,sT,sS,sZ]
    refine wpR [13] ?_
    refine wpC rfl (fun K hK=> ?_) AllReadyH.nil
    go_simp
    refine hK.out _ _ ?_ (fun hHeld=> ?_)
    ·exact hHeld
    clear hK K
    try simp only[Act.put,sT,sS,sZ]
    refine wpK 14 rfl ?_
    refine wpD (NoPanic.normal ?_)
    have HO4:=Lib.hid (Zb HO3.out hHeld (fun _ _=>id))
    have HSR4:=Lib.hid (show Src _ pA pl.length 1 (Zw pl) by have:=(HIP.out.upd hHeld (fun _ _=>id)).src;rwa [List.length_map,←Zag]at this)
    have HU4:=Lib.hid (HU3.out.trans hHeld)
    clear hHeld
    go_wp2_with (at_builtin;refine Zen rfl rfl ZaJ (v:= .slice A' xs.length c') (n:=xs.length) (m:=pl.length) (xs:=Zw xs) (news:=Zw pl) (by rfl) (by rfl) HO4.out HSR4.out (fun u hu=>by obtain⟨z,_,rfl⟩:=List.mem_map.1 hu;rfl) (by omega) (by omega) HU4.out.size ?_;intro v9 w9 hown9 hu9 hg9;obtain⟨A9,c9,rfl⟩:=ZV hown9;have HO9:=Lib.hid hown9;have HU9:=Lib.hid hu9;clear hown9 hu9 hg9)
    go_roundg (gk-1)
    case measure=>omega
    case rel=>exact⟨k+1,A9,c9,xs++pl,by omega,by simp,by simp,Lib.hid (by rw[Zby q' HKL.out,HKE.out,if_pos HGO.out,HXS.out]),Lib.hid (by simpa[Zw]using HO9.out),Lib.hid (by simp;have:=HXL.out;omega),Lib.hid (HU4.out.then_ HU9.out (fun i e=>Or.inr (HO3.out.lt i e).1))⟩
   ·obtain⟨y,t,hyt⟩:=HHD.out
    have ht:t=[]:=by
     cases t with
     |nil=>rfl
     |cons a t=>rw[hyt]at hlen;simp at hlen
    subst ht
    have l1:decide ((1:Int)<(pl.length:Int))=false:=decide_eq_false (by omega)
    have hpl1:pl.length=1:=by rw[hyt];rfl
    obtain⟨ad,hpa,_,_,q0⟩:=HIP.out.at_ (k:=0) (by rw[List.length_map,hpl1];omega)
    have hy0:(pl.map fun x:Nat=>(x:Int))[0]'(by rw[List.length_map,hpl1];omega)=(y:Int):=by simp[hyt]
    rw[hy0,ZcX]at q0
    subst hpa
    have p0:(0:Int)<(pl.length:Int):=by omega
    have p1:0<pl.length:=by omega
    have c0:∀W,Upd No wr W→W.cell? ad=some (.int .i64 (y:Int)):=fun W u=>u.keepNo q0
    have HGB:=Lib.hid (show Z6 q' pl=decide ((y:Int)∈nxA (y:Int) false q') by rw[Zfo HQ.out hlen,hyt];rfl)
    clear hlen
    have HCN:=Lib.hid (fun W (u:Upd No wr W)=>HDN.out W (HU3.out.trans u) (y:Int))
    cases hb:decide ((y:Int)∈nxA (y:Int) false q')
    ·have HGO:=Lib.hid (show¬Z6 q' pl=true by rw[HGB.out,hb];simp)
     have HBB:=Lib.hid hb
     clear hb hy0 q0 hyt hpl1
     go_wp2
     refine wp_region_noPanic ?_
     refine wp_region_held_drew (S:=(fun W'=>Upd No wr W')) (by kernel_rfl) ?_ (fun hHeld=> ?_)
     ·(first|exact hzz.drew|exact hHeld|exact hHeld.trans hu4)
     refine wpK 0 rfl ?_
     refine wpK 1 rfl ?_
     refine wpK 2 rfl ?_
     refine wpK 3 rfl ?_
     refine wpK 4 rfl ?_
     refine wpK 5 rfl ?_
     refine wpK 6 rfl ?_
     refine wpK 7 rfl ?_
     refine wpK 8 rfl ?_
     refine wpK 10 rfl ?_
     refine wpK 11 rfl ?_
     refine wpK 12 rfl ?_
     refine wpR [9] ?_
     refine wpC rfl (fun K hK=> ?_) AllReadyH.nil
     go_simp
     (first
  |(go_at_call 19;refine(HCN.out _ hHeld).mono ?_;rintro e w4 ⟨A4,c4,rfl,ho4,hu4⟩;have HI4:=Lib.hid (Ints.of_owned ho4);clear ho4))
     try (go_wp2_with fail)
     refine hK.out _ _ ?_ (fun hHeld=> ?_)
     ·(first|exact hzz.drew|exact hHeld|exact hHeld.trans hu4)
     clear hK K
     try simp only[Act.put,sT,sS,sZ]
     refine wpR [13] ?_
     refine wpC rfl (fun K hK=> ?_) AllReadyH.nil
     go_simp
     (first
  |(go_at_call 31;refine(ZfC _ _ _ _ _ _ HI4.out (Nat.le_trans (Zcu HQ.out _) (Nat.le_trans hNN.out (by decide))) HBB.out).mono ?_;rintro e w5 ⟨rfl,rfl⟩))
     try (go_wp2_with fail)
     refine hK.out _ _ ?_ (fun hHeld=> ?_)
     ·(first|exact hzz.drew|exact hHeld|exact hHeld.trans hu4)
     clear hK K
     try simp only[Act.put,sT,sS,sZ]
     refine wpK 14 rfl ?_
     refine wpD (NoPanic.normal ?_)
     have HU4:=Lib.hid (HU3.out.trans hHeld)
     have HO4:=Lib.hid (Zb HO3.out hHeld (fun _ _=>id))
     clear hHeld
     go_wp2
     go_roundg (gk-1)
     case measure=>omega
     case rel=>exact⟨k+1,A',c',xs,by omega,by simp,rfl,Lib.hid (by rw[Zby q' HKL.out,HKE.out,if_neg HGO.out,HXS.out,List.append_nil]),HO4,Lib.hid (by have:=HXL.out;omega),HU4⟩
    ·have HGO:=Lib.hid (show Z6 q' pl=true by rw[HGB.out,hb])
     have HBB:=Lib.hid hb
     clear hb hy0 q0 hyt hpl1
     go_wp2
     refine wp_region_noPanic ?_
     refine wp_region_held_drew (S:=(fun W'=>Upd No wr W')) (by kernel_rfl) ?_ (fun hHeld=> ?_)
     ·(first|exact hzz.drew|exact hHeld|exact hHeld.trans hu4)
     refine wpK 0 rfl ?_
     refine wpK 1 rfl ?_
     refine wpK 2 rfl ?_
     refine wpK 3 rfl ?_
     refine wpK 4 rfl ?_
     refine wpK 5 rfl ?_
     refine wpK 6 rfl ?_
     refine wpK 7 rfl ?_
     refine wpK 8 rfl ?_
     refine wpK 10 rfl ?_
     refine wpK 11 rfl ?_
     refine wpK 12 rfl ?_
     refine wpR [9] ?_
     refine wpC rfl (fun K hK=> ?_) AllReadyH.nil
     go_simp
     (first
  |(go_at_call 19;refine(HCN.out _ hHeld).mono ?_;rintro e w4 ⟨A4,c4,rfl,ho4,hu4⟩;have HI4:=Lib.hid (Ints.of_owned ho4);clear ho4))
     try (go_wp2_with fail)
     refine hK.out _ _ ?_ (fun hHeld=> ?_)
     ·(first|exact hzz.drew|exact hHeld|exact hHeld.trans hu4)
     clear hK K
     try simp only[Act.put,sT,sS,sZ]
     refine wpR [13] ?_
     refine wpC rfl (fun K hK=> ?_) AllReadyH.nil
     go_simp
     (first
  |(go_at_call 31;refine(ZfC _ _ _ _ _ _ HI4.out (Nat.le_trans (Zcu HQ.out _) (Nat.le_trans hNN.out (by decide))) HBB.out).mono ?_;rintro e w5 ⟨rfl,rfl⟩))
     try (go_wp2_with fail)
     refine hK.out _ _ ?_ (fun hHeld=> ?_)
     ·(first|exact hzz.drew|exact hHeld|exact hHeld.trans hu4)
     clear hK K
     try simp only[Act.put,sT,sS,sZ]
     refine wpK 14 rfl ?_
     refine wpD (NoPanic.normal ?_)
     have HO4:=Lib.hid (Zb HO3.out hHeld (fun _ _=>id))
     have HSR4:=Lib.hid (show Src _ (some ad) pl.length 1 (Zw pl) by have:=(HIP.out.upd hHeld (fun _ _=>id)).src;rwa [List.length_map,←Zag]at this)
     have HU4:=Lib.hid (HU3.out.trans hHeld)
     clear hHeld
     go_wp2_with (at_builtin;refine Zen rfl rfl ZaJ (v:= .slice A' xs.length c') (n:=xs.length) (m:=pl.length) (xs:=Zw xs) (news:=Zw pl) (by rfl) (by rfl) HO4.out HSR4.out (fun u hu=>by obtain⟨z,_,rfl⟩:=List.mem_map.1 hu;rfl) (by omega) (by omega) HU4.out.size ?_;intro v9 w9 hown9 hu9 hg9;obtain⟨A9,c9,rfl⟩:=ZV hown9;have HO9:=Lib.hid hown9;have HU9:=Lib.hid hu9;clear hown9 hu9 hg9)
     go_roundg (gk-1)
     case measure=>omega
     case rel=>exact⟨k+1,A9,c9,xs++pl,by omega,by simp,by simp,Lib.hid (by rw[Zby q' HKL.out,HKE.out,if_pos HGO.out,HXS.out]),Lib.hid (by simpa[Zw]using HO9.out),Lib.hid (by simp;have:=HXL.out;omega),Lib.hid (HU4.out.then_ HU9.out (fun i e=>Or.inr (HO3.out.lt i e).1))⟩
  ·obtain rfl:k=ps.length:=by omega
   have h1:¬((ps.length:Int)<(ps.length:Int)):=by omega
   have CS:=Lib.hid (ZfB wr w1.heap.size A' c' (xs.map fun x:Nat=>(x:Int)) (by have:=HO3.out;rw[Zag]at this;rwa [List.length_map]) (by rw[List.length_map];have:=HXL.out;have:=hpl;have h3:ps.length*4096≤4096*4096:=Nat.mul_le_mul_right _ hpl;omega))
   rw[List.length_map]at CS
   go_wp2_with fail
   refine(CS.out).mono ?_
   rintro e w4 ⟨rfl,ho4,hu4⟩
   have HO4:=Lib.hid ho4
   have HU4:=Lib.hid (HU.out.trans (HU3.out.then_ hu4 (fun i e=>Or.inr (HO3.out.lt i e).1)))
   have HRR:=Lib.hid (show ZC (xs.map fun x:Nat=>(x:Int))=Zak N q' by
    rw[ZbU,←Ze5 HQ.out,←HXS.out,List.take_of_length_le (by rw[List.length_map];exact Nat.le_refl _),HC.out];rfl)
   have HLL:=Lib.hid (show(Zak N q').length=xs.length by rw[←HRR.out,ZbU,(Zaj _).length_eq,List.length_map])
   clear ho4 hu4 CS
   go_wp2
   refine bodyPost_ret (v:= .slice A' xs.length c') (by simp[results,Try.results14,go_sem]) rfl ⟨A',c',by rw[HLL.out],?_,HU4.out⟩
   rw[HLL.out,←HRR.out]
   exact ZaR HO4.out HU.out.size
end Go.Proofs.Ytfcefnpnomlgbaa
/- Components of a digraph,the document's:who is reached (tenterref23.Reach). -/
namespace Go.Proofs.Ytfcefnpnomlgbaa
set_option linter.unusedSimpArgs false
set_option linter.unusedVariables false
open Go.RowKit
theorem Zge (w:World) (F:Nat→Prop) (A:Option Addr) (c:Nat) (l:List Int) (a:Int) (h:Ints F w A l) (hl:l.length≤4398046511103) {v:Bool} (hv:decide (a∈l)=v):
  Calls Try.prog 20 #[.slice A l.length c,.int .i64 a] w fun e w'=>e= .returned (.bool v)∧w=w':=by
 subst hv
 exact ZgB w F A c l a h hl
end Go.Proofs.Ytfcefnpnomlgbaa
/- Components of a digraph:the law's asking for some answers. -/
namespace Go.Proofs.Ytfcefnpnomlgbaa
set_option linter.unusedSimpArgs false
set_option linter.unusedVariables false
open Go.RowKit
def l23:List HArc:=[⟨0,1,1,0⟩,⟨1,0,2,0⟩,⟨1,2,1,0⟩]
def q23:List HArc:=ZaI 3 [] l23
theorem ZgY:Zr 3 (ofA 14 q23)=[0,0,2]:=by kernel_rfl
theorem ZgX:Zr 3 (ofA 2 q23)=[0,1,2]:=by kernel_rfl
theorem ZgW:Zak 3 (ofA 14 q23)=[0,1]:=by kernel_rfl
theorem ZgV:Zak 3 (ofA 2 q23)=[]:=by kernel_rfl
theorem ZgU:Zg (Za (ofA 14 q23)) 3=[[0,1],[2]]:=by kernel_rfl
theorem ZgT:Zr 0 (ofA 14 [])=[]:=by kernel_rfl
theorem Zb5 {w:World} {G:Nat→Prop} {p:Option Addr} {N K:Nat} {q:List HArc} (hD:DG w G p N K q) (hN:N≤4096) (mask:Int) (l:List Int) (e:Zr N (ofA mask q)=l):
  Calls Try.prog 13 #[.pointer p,.int .i64 mask] w (ZaX w l):=e▸ZcB hD hN mask
theorem Zd0 {w:World} {G:Nat→Prop} {p:Option Addr} {N K:Nat} {q:List HArc} (hD:DG w G p N K q) (hN:N≤4096) (mask:Int) (l:List Int) (e:Zak N (ofA mask q)=l):
  Calls Try.prog 14 #[.pointer p,.int .i64 mask] w (ZaX w l):=e▸Zgs hD hN mask
theorem Zee {W:World} (l:List HArc) (e:TypeId):ArcsL (fun i=>i=W.heap.size) (W.alloc (.cells (ZF l).toArray e)) (some ⟨W.heap.size,0,none⟩) l:=fun _=>by
 refine⟨_,rfl,rfl,by simp,fun i row hi j v hj=> ?_⟩
 rw[List.getElem?_map,Option.map_eq_some_iff]at hi
 obtain⟨a,ha,rfl⟩:=hi
 have e1:(⟨W.heap.size,0,none⟩:Addr).add (i*4+j)=⟨W.heap.size,i*4+j,none⟩:=by unfold Addr.add;split<;>simp_all
 rw[e1,cell_of_row _ _ _ _ e (0,0) (heap_alloc_new W _),List.getElem?_toArray]
 unfold ZF
 exact Zdw (ZbP l) (by rw[List.getElem?_map,ha];rfl) hj
theorem PartsW.read {w:World} {base:Nat} {A:Option Addr} {n c:Nat} {ps:List PV} (h:PartsW w base (.slice A n c) ps) (hn:n=ps.length) {i:Nat} {p:PV} (hi:ps[i]? =some p):
  ∃g,A=some ⟨g,0,none⟩∧w.cell? ⟨g,i,none⟩=some (.slice p.A p.l.length p.c)∧Ints (fun _=>True) w p.A (p.l.map fun x:Nat=>(x:Int)):=by
 subst hn
 have hl:i<ps.length:=(List.getElem?_eq_some_iff.1 hi).1
 have hrow:=h.rows i p hi
 obtain⟨g,cur,rfl,hg,hb,hnc,hcl,hx,hc⟩:=ZJ h.own (by omega)
 refine⟨g,rfl,?_,?_⟩
 ·have h2:(cur.take (ps.length*1))[i]? =some p.v:=by rw[hx,List.getElem?_map,hi];rfl
  rw[List.getElem?_take,if_pos (by omega)]at h2
  rw[hb.cell];exact h2
 ·rw[Zag]at hrow
  exact Ints.weak (Ints.of_own hrow) (fun _ _ _=>trivial)
set_option maxRecDepth 100000 in
set_option maxHeartbeats 4000000 in
theorem Zf1 (w:World):Calls Try.prog 5 #[] w fun e w'=>e= .returned (.bool true)∧Upd No w w':=by
 have HMa:=Lib.hid (fun(W:World) (F:Nat→Prop) (A:Option Addr) (c:Nat) (h:ArcsL F W A l23)=>(show ZD 3=3 by decide)▸ZfF F W 3 A c l23 h (by decide))
 unfold l23 at HMa
 go_enter Try.func5,Try.ntmps5
 go_wp2_with fail
 refine(HMa.out _ _ _ 3 (Zee [⟨0,1,1,0⟩,⟨1,0,2,0⟩,⟨1,2,1,0⟩] _)).mono ?_
 rintro e w1 ⟨g,rfl,hd⟩
 have U1:=Lib.hid (((Upd.refl No w).alloc _).trans hd.upd)
 obtain⟨G,hdg⟩:=hd.is
 have HDG:=Lib.hid (show DG w1 G (some ⟨g,0,none⟩) 3 3 q23 from hdg)
 have HCo:=Lib.hid (fun(W:World) (u:Upd No w1 W)=>ZgU▸ZeP (HDG.out.no u) (by decide) 14)
 have HLa:=Lib.hid (fun(W:World) (u:Upd No w1 W)=>Zb5 (HDG.out.no u) (by decide) 14 _ ZgY)
 have HLb:=Lib.hid (fun(W:World) (u:Upd No w1 W)=>Zb5 (HDG.out.no u) (by decide) 2 _ ZgX)
 have HRa:=Lib.hid (fun(W:World) (u:Upd No w1 W)=>Zd0 (HDG.out.no u) (by decide) 14 _ ZgW)
 have HRb:=Lib.hid (fun(W:World) (u:Upd No w1 W)=>Zd0 (HDG.out.no u) (by decide) 2 _ ZgV)
 have HLn:=Lib.hid (fun(W:World)=>Zb5 (DG.nil W (fun _=>False)) (by decide) 14 _ ZgT)
 clear hd hdg HMa
 go_wp2_with fail
 refine(HCo.out w1 (Upd.refl _ _)).mono ?_
 rintro e w2 ⟨A2,c2,ps,rfl,hP,hC,hu2⟩
 obtain⟨p0,p1,rfl⟩:∃p0 p1,ps=[p0,p1]:=by
  have h:=congrArg List.length hC
  rw[List.length_map]at h
  match ps,h with
  |[a,b],_=>exact⟨a,b,rfl⟩
 simp only[List.map_cons,List.map_nil,List.cons.injEq,and_true]at hC
 obtain⟨hC0,hC1⟩:=hC
 obtain⟨gO,rfl,z0,hI0⟩:=hP.read rfl (i:=0) (p:=p0) rfl
 obtain⟨g',e',z1,hI1⟩:=hP.read rfl (i:=1) (p:=p1) rfl
 cases e'
 rcases p0 with ⟨B0,d0,l0⟩
 rcases p1 with ⟨B1,d1,l1⟩
 simp only at hC0 hC1
 subst hC0 hC1
 have HZ:=Lib.hid (And.intro z0 (And.intro z1 (And.intro hI0 hI1)))
 have HU2:=Lib.hid hu2
 clear hP hu2 z0 z1 hI0 hI1 HCo
 go_wp2_with fail
 refine(HLa.out w2 HU2.out).mono ?_
 rintro e w3 ⟨A3,c3,rfl,ho3,hu3⟩
 go_wp2_with fail
 refine(Zcd _ _ _ A3 _ c3 3 [0,0,2] [0,0,2] ((Ints.of_owned ho3).upd ((Upd.refl No _).alloc _) (fun _ _=>id)) (Zar [0,0,2] _) (by decide) (by decide)).mono ?_
 rintro e w4 ⟨rfl,hv4⟩
 have HU4:=Lib.hid ((hu3.alloc _).trans hv4)
 clear ho3 hu3 hv4
 go_wp2_with fail
 refine(HLb.out w4 (HU2.out.trans HU4.out)).mono ?_
 rintro e w5 ⟨A5,c5,rfl,ho5,hu5⟩
 go_wp2_with fail
 refine(Zcd _ _ _ A5 _ c5 3 [0,1,2] [0,1,2] ((Ints.of_owned ho5).upd ((Upd.refl No _).alloc _) (fun _ _=>id)) (Zar [0,1,2] _) (by decide) (by decide)).mono ?_
 rintro e w6 ⟨rfl,hv6⟩
 have HU6:=Lib.hid (HU4.out.trans ((hu5.alloc _).trans hv6))
 clear ho5 hu5 hv6
 go_wp2_with fail
 refine(HRa.out w6 (HU2.out.trans HU6.out)).mono ?_
 rintro e w7 ⟨A7,c7,rfl,ho7,hu7⟩
 go_wp2_with fail
 refine(Zcd _ _ _ A7 _ c7 2 [0,1] [0,1] ((Ints.of_owned ho7).upd ((Upd.refl No _).alloc _) (fun _ _=>id)) (Zar [0,1] _) (by decide) (by decide)).mono ?_
 rintro e w8 ⟨rfl,hv8⟩
 have HU8:=Lib.hid (HU6.out.trans ((hu7.alloc _).trans hv8))
 clear ho7 hu7 hv8
 go_wp2_with fail
 refine(HRb.out w8 (HU2.out.trans HU8.out)).mono ?_
 rintro e w9 ⟨A9,c9,rfl,ho9,hu9⟩
 have HU9:=Lib.hid (HU8.out.trans hu9)
 have y0:=HU9.out.keepNo HZ.out.1
 clear ho9 hu9
 go_wp2_with fail
 refine(Zcd _ _ _ B0 _ d0 2 [0,1] [0,1] (HZ.out.2.2.1.upd (HU9.out.alloc _) (fun _ _=>id)) (Zar [0,1] _) (by decide) (by decide)).mono ?_
 rintro e wa ⟨rfl,hva⟩
 have HUa:=Lib.hid ((HU9.out.alloc _).trans hva)
 have y1:=HUa.out.keepNo HZ.out.2.1
 clear hva
 go_wp2_with fail
 refine(Zcd _ _ _ B1 _ d1 1 [2] [2] (HZ.out.2.2.2.upd (HUa.out.alloc _) (fun _ _=>id)) (Zar [2] _) (by decide) (by decide)).mono ?_
 rintro e wb ⟨rfl,hvb⟩
 have HUb:=Lib.hid ((HUa.out.alloc _).trans hvb)
 clear hvb
 go_wp2_with fail
 refine(HLn.out wb).mono ?_
 rintro e wc ⟨Ac,cc,rfl,hoc,huc⟩
 have HUc:=Lib.hid (HUb.out.trans huc)
 clear hoc huc
 go_wp2
 go_ret
 exact⟨rfl,(U1.out.trans HU2.out).trans HUc.out⟩
end Go.Proofs.Ytfcefnpnomlgbaa
/- Components of a digraph:the law of what is told. -/
namespace Go.Proofs.Ytfcefnpnomlgbaa
set_option linter.unusedSimpArgs false
set_option linter.unusedVariables false
open Go.RowKit
theorem ZcR (N:Nat) (q:List HArc):(Zr N q).length=N:=by unfold Zr;simp
def ZeV:Prop:=∀w:World,Calls Try.prog 5 #[] w fun e w'=>e= .returned (.bool true)∧Upd No w w'
theorem ZeS {w:World} {base c:Nat} {A:Option Addr} {l:List HArc} (h:w.ownsRow base 28 4 (.slice A l.length c) l.length (ZF l)):ArcsL (Own (.slice A l.length c)) w A l:=Recs.of_own (n:=l.length) (c:=c) (ZbP l) (by omega) h
end Go.Proofs.Ytfcefnpnomlgbaa
/- Components of a digraph,plain:what the law of one way asks. -/
namespace Go.Proofs.Ytfcefnpnomlgbaa
set_option linter.unusedSimpArgs false
set_option linter.unusedVariables false
theorem Rch.mono {nx nx':Nat→List Nat} (h:∀a b,b∈nx a→b∈nx' a) {a b:Nat} (k:Rch nx a b):Rch nx' a b:=by
 induction k with
 |refl=>exact Rch.refl _
 |step h1 h2 ih=>exact ih.step (h _ _ h2)
theorem Zfl {N:Nat} {q q2:List HArc} (hq:Zq N q) (hq2:Zq N q2) (hs:∀a∈q,a∈q2) (i:Nat):Za q2 i=Za q2 (Za q i):=by
 have hm:∀a b,b∈nxN q a→b∈nxN q2 a:=fun a b hb=>by
  obtain⟨x,hx,h1,h2⟩:=(ZN hq).1 hb
  exact(ZN hq2).2 ⟨x,hs x hx,h1,h2⟩
 have:=ZaL hq i
 exact(ZaB hq2).2 ⟨this.1.mono hm,this.2.1.mono hm⟩
theorem Zgg {N:Nat} {q:List HArc} (hq:Zq N q) {a:HArc} (ha:a∈q) (hne:Za q a.f.toNat≠Za q a.t.toNat):¬Rch (nxN q) a.t.toNat a.f.toNat:=fun h=>hne ((ZaB hq).2 ⟨Rch.one ((ZN hq).2 ⟨a,ha,by have:=hq a ha;omega,by have:=hq a ha;omega⟩),h⟩)
def SeenR (q:List HArc) (N t:Nat) (xs:List Int):Prop:=∀x∈xs,0≤x∧x<(N:Int)∧Rch (nxN q) t x.toNat
theorem SeenR.more {q:List HArc} {N t:Nat} {xs:List Int} (h:SeenR q N t xs) (hq:Zq N q) {x v:Int} (hx:x∈xs) (hv:v∈nxA x false q):0≤v∧v<(N:Int)∧Rch (nxN q) t v.toNat:=by
 obtain⟨a,ha,h1,rfl⟩:=mem_nxF.1 hv
 have h2:=hq a ha
 have h3:=h x hx
 exact⟨h2.2.2.1,h2.2.2.2,h3.2.2.step ((ZN hq).2 ⟨a,ha,by omega,by omega⟩)⟩
theorem SeenR.app {q:List HArc} {N t:Nat} {xs:List Int} {v:Int} (h:SeenR q N t xs) (hv:0≤v∧v<(N:Int)∧Rch (nxN q) t v.toNat):SeenR q N t (xs++[v]):=fun x hx=>by
 rcases List.mem_append.1 hx with hx|hx
 ·exact h x hx
 ·rw[List.mem_singleton.1 hx];exact hv
theorem Zfv {N:Nat} {q:List HArc} {m a:HArc} (h:a∈q):a∈Zav N q m:=by
 unfold Zav
 split
 ·split
  ·exact h
  ·exact(ZW m a q).2 (Or.inr h)
 ·exact h
end Go.Proofs.Ytfcefnpnomlgbaa
