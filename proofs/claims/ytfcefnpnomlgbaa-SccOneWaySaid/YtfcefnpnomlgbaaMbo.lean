/- Components of a digraph: scc.Components. -/
import Derived.Test.YtfcefnpnomlgbaaMbn
namespace Go.Proofs.Ytfcefnpnomlgbaa
set_option linter.unusedSimpArgs false
set_option linter.unusedVariables false
open Go.RowKit
theorem Zeu:SlT Try.prog 36 32 1 24:=SlT.mk_ Try.underlying36 (z:= .slice none 0 0) (by kernel_rfl) rfl (by omega)
def Zhd (wx:World) (base mb k:Nat) (L:Nat→Nat) (s:Value):Prop:=
 ∃(A:Option Addr) (c:Nat) (ps:List PV) (m:List (Int×Value)) (j:Nat) (pv:PV),s= .slice A ps.length c∧PartsW wx base s ps∧MapIs wx mb (fun n:Int=>Value.int .i64 n) m∧ps[j]? =some pv∧Zaq m (L k:Int)=some (.int .i64 (j:Int))∧
  (ps.map PV.l).modify j (·++[k])=Zg L (k+1)∧(∀r,r<k+1→L r=r→Zaq m (r:Int)=some (.int .i64 (Zao L r:Int)))∧pv.l.length≤k∧ps.length≤k+1
theorem Zck (ps:List PV) {j:Nat} {p p':PV} {k:Nat} (hj:ps[j]? =some p) (e:p'.l=p.l++[k]):(ps.set j p').map PV.l=(ps.map PV.l).modify j (·++[k]):=by
 apply List.ext_getElem?
 intro i
 rw[List.map_set,List.getElem?_set,List.getElem?_modify,List.getElem?_map]
 have hl:j<ps.length:=(List.getElem?_eq_some_iff.1 hj).1
 by_cases h:j=i
 ·subst h
  rw[if_pos rfl,if_pos (by simpa using hl),hj]
  simp[e]
 ·rw[if_neg h]
  simp[h]
theorem ZdQ (k:Nat):∀l:List (List Nat),(l++[[]]).modify l.length (·++[k])=l++[[k]]
 |[]=>rfl
 |x::l=>by
  show x::(l++[[]]).modify l.length (·++[k])=x::(l++[[k]])
  rw[ZdQ k l]
theorem Zdg (L:Nat→Nat) (k:Nat) {l:List Nat} (h:l∈Zg L k):l.length≤k:=by
 unfold Zg at h
 obtain⟨r,_,rfl⟩:=List.mem_map.1 h
 unfold Zn
 have:=List.length_filter_le (fun i=>L i==r) (List.range k)
 rwa [List.length_range]at this
set_option maxRecDepth 100000 in
set_option maxHeartbeats 8000000 in
theorem ZeP {w:World} {G:Nat→Prop} {p:Option Addr} {N K:Nat} {q:List HArc} (hD:DG w G p N K q) (hN:N≤4096) (mask:Int):
  Calls Try.prog 16 #[.pointer p,.int .i64 mask] w fun e w'=>∃A c ps,e= .returned (.slice A ps.length c)∧PartsW w' w.heap.size (.slice A ps.length c) ps∧ps.map PV.l=Zg (Za (ofA mask q)) N∧Upd No w w':=by
 have hmm:= @run_makeMap Try.prog
 obtain⟨wa,hwa⟩:∃wa,w.alloc (.map #[] 0)=wa:=⟨_,rfl⟩
 have ua:Upd No w wa:=by rw[←hwa];exact(Upd.refl No w).alloc _
 have hMa:MapIs wa w.heap.size (fun n:Int=>Value.int .i64 n) ([]:List (Int×Value)):=by rw[←hwa];exact MapIs.new w _
 have CL:=Lib.hid (ZcB (hD.upd ua fun _ _=>id) hN mask)
 have HQ:=Lib.hid (Zat (Zau hD) mask)
 have UA:=Lib.hid ua
 have HMa:=Lib.hid hMa
 have hwl:w.heap.size<wa.heap.size:=hMa.lt
 have hNN:=Lib.hid hN
 obtain⟨q',hq'⟩:∃q',ofA mask q=q':=⟨_,rfl⟩
 rw[hq']at CL HQ ⊢
 clear hD ua hMa hq'
 go_enter Try.func16,Try.ntmps16
 go_wp2_with fail
 refine(CL.out).mono ?_
 rintro e w1 ⟨A,c,rfl,ho,hu⟩
 have hlN:(Zr N q').length=N:=by unfold Zr;simp
 have HIv:=Lib.hid (show Ints (fun i=>wa.heap.size≤i) w1 A (Zr N q') from Ints.of_owned ho)
 have HM1:=Lib.hid (HMa.out.upd hu id)
 have HU1:=Lib.hid (UA.out.trans hu)
 rw[hlN]at ho ⊢
 obtain⟨mb,hmb⟩:∃mb,w.heap.size=mb:=⟨_,rfl⟩
 have HS1:=Lib.hid (show mb<wa.heap.size∧wa.heap.size≤w1.heap.size from⟨hmb▸hwl,hu.size⟩)
 have HB:=Lib.hid hmb
 rw[hmb]at HM1 ⊢
 have HLN:=Lib.hid hlN
 clear ho hu HMa hwl hmb hlN hmm hwa
 go_wp2
 go_loopg [5,14] N (fun gk O i wr=>∃(k:Nat) (A':Option Addr) (c':Nat) (ps:List PV) (m:List (Int×Value)),k+gk=N∧i= .int .i64 (k:Int)∧O= .slice A' ps.length c'∧Hid (PartsW wr w1.heap.size (.slice A' ps.length c') ps)∧Hid (ps.map PV.l=Zg (Za q') k)∧
  Hid (MapIs wr mb (fun n:Int=>Value.int .i64 n) m)∧Hid (∀r,r<k→Za q' r=r→Zaq m (r:Int)=some (.int .i64 (Zao (Za q') r:Int)))∧Hid (Upd (One mb) w1 wr))
 case atStart=>exact⟨0,none,0,[],[],by omega,rfl,rfl,Lib.hid (PartsW.nil _ _),Lib.hid rfl,HM1,Lib.hid (fun r h=>by omega),Lib.hid (Upd.refl _ _)⟩
 case round=>
  clear HM1
  obtain⟨k,A',c',ps,m,hgk,rfl,rfl,hP,hC,hM,hG,hU⟩:=hrel
  have hpl:ps.length=Zao (Za q') k:=by rw[←Zco,←hC.out,List.length_map]
  have hpk:ps.length≤k:=by rw[hpl];exact ZdW _ _
  by_cases hk:k<N
  ·have h1:(k:Int)<(N:Int):=by omega
   have h0:(0:Int)≤(k:Int):=Int.natCast_nonneg _
   have hI:=HIv.out.upd hU.out (fun i (hi:wa.heap.size≤i) (e:i=mb)=>by have:=HS1.out.1;omega)
   obtain⟨ad,rfl,_,_,q0⟩:=hI.at_ (k:=k) (by rw[HLN.out];exact hk)
   have hlk:(Zr N q')[k]'(by rw[HLN.out];exact hk)=(Za q' k:Int):=by simp[Zr]
   rw[hlk]at q0
   have kw:IntKind.i64.wrap ((k:Int)+1)=(k:Int)+1:=by have:=hNN.out;exact IntWalk.i64_in _ (by omega)
   have hle:=Zas q' k
   have HPL:=Lib.hid hpl
   clear hI hlk hpl
   go_upto_if 21 with fail
   go_cut [5] (fun s wx=>Hid (Zhd wx w1.heap.size mb k (Za q') s)∧Hid (Upd (One mb) w1 wx))
   case first=>
    by_cases hr:Za q' k=k
    ·have r0:((k:Int)==(Za q' k:Int))=true:=by rw[hr];simp
     have HR:=Lib.hid hr
     have hpm:ps.length≤4096:=by have:=hNN.out;omega
     clear hr
     go_wp2_with (first
      |(at_mapUpdate;refine Zgj rfl rfl ZeH Try.underlying62 (a:=(Za q' k:Int)) (val:= .int .i64 (ps.length:Int)) (by rfl) (by rfl) (by rfl) hM.out ?_;intro w3 hm3 hu3;have HM3:=Lib.hid hm3;have HU3:=Lib.hid hu3;have HP3:=Lib.hid (hP.out.upd hu3 (fun i hi (e:i=mb)=>by have:=HS1.out;omega));have HZ3:=Lib.hid hu3.size;clear hm3 hu3)
      |(at_builtin;refine Za4 rfl rfl Zeu (v:= .slice A' ps.length c') (n:=ps.length) (xs:=ps.map PV.v) (cells:=[.slice none 0 0]) (by rfl) rfl HP3.out.own rfl rfl (by omega) (by omega) (by have:=HZ3.out;have:=hU.out.size;omega) ?_;intro g9 c9 w9 hown9 hu9 hg9 hlt9;have HO9:=Lib.hid hown9;have HU9:=Lib.hid hu9;have HG9:=Lib.hid hg9;clear hown9 hu9 hg9 hlt9))
     go_meet
     refine⟨Lib.hid ⟨some ⟨g9,0,none⟩,c9,ps++[⟨none,0,[]⟩],ZaT m (Za q' k:Int) (.int .i64 (ps.length:Int)),ps.length,⟨none,0,[]⟩,by simp,?_,HM3.out.upd HU9.out ?_,by simp,Za0 ..,?_,?_,by simp,by simp;omega⟩,Lib.hid ((hU.out.trans HU3.out).then_ HU9.out ?_)⟩
     ·exact(by simpa using HP3.out.push HO9.out HU9.out (fun i e=>by
       rcases HG9.out with h|h
       ·left;rw[e];exact h
       ·right;omega))
     ·intro e
      have:=(hP.out.own.lt mb e).1
      have:=HS1.out;omega
     ·rw[List.map_append,hC.out,ZdJ (fun i=>Zas q' i) HR.out]
      have:ps.length=(Zg (Za q') k).length:=by rw[←hC.out,List.length_map]
      rw[this]
      exact ZdQ k _
     ·intro r hrk hrr
      by_cases e:r=k
      ·rw[e,HR.out,Za0,HPL.out]
      ·rw[HR.out,Z5 _ _ (by omega)]
       exact hG.out r (by omega) hrr
     ·intro i e
      have:=(hP.out.own.lt i e).1
      exact Or.inr this
    ·have r0:((k:Int)==(Za q' k:Int))=false:=by rw[beq_eq_false_iff_ne];omega
     have HR:=Lib.hid hr
     clear hr
     go_wp2
     go_meet
     have hlt:Za q' k<k:=by have:=HR.out;omega
     have hid:=Za2 HQ.out k
     have hjl:Zao (Za q') (Za q' k)<ps.length:=by
      have:=Zbx hid hlt
      have h2:=(List.getElem?_eq_some_iff.1 this).1
      rw[HPL.out];exact h2
     refine⟨Lib.hid ⟨A',c',ps,m,Zao (Za q') (Za q' k),ps[Zao (Za q') (Za q' k)],rfl,hP.out,hM.out,List.getElem?_eq_getElem hjl,hG.out _ hlt hid,?_,?_,?_,by omega⟩,hU⟩
     ·rw[hC.out];exact(Zel rfl hlt hid).symm
     ·intro r hrk hrr
      by_cases e:r=k
      ·exact absurd (e▸hrr) HR.out
      ·exact hG.out r (by omega) hrr
     ·refine Zdg (Za q') k ?_
      rw[←hC.out]
      exact List.mem_map_of_mem (List.getElem_mem hjl)
   case rest=>
    obtain⟨hMid,hU9⟩:=hcut
    obtain⟨A2,c2,ps2,m2,j,pv,rfl,hP2,hM2,hj,hmj,hC2,hG2,hpvl,hpsl⟩:=hMid.out
    obtain⟨w5,hw5⟩:∃w5,w5=wc:=⟨_,rfl⟩
    subst hw5
    have hjl:j<ps2.length:=(List.getElem?_eq_some_iff.1 hj).1
    obtain⟨gO,cur,rfl,hgO,hbO,hncO,hlO,hxO,hcO⟩:=ZJ hP2.own (by omega)
    have j0:(0:Int)≤(j:Int):=Int.natCast_nonneg _
    have j1:(j:Int)<(ps2.length:Int):=by omega
    rcases pv with ⟨pA,pc,pl⟩
    have hrow:=hP2.rows j _ hj
    have hcell:cur[j]? =some (.slice pA pl.length pc):=by
     have h2:(cur.take (ps2.length*1))[j]? =some (.slice pA pl.length pc):=by rw[hxO,List.getElem?_map,hj];rfl
     rw[List.getElem?_take,if_pos (by omega)]at h2
     exact h2
    obtain⟨Sx,hSx⟩:∃S:Nat→Prop,S=fun i=>Own (.slice pA pl.length pc) i∨i=gO:=⟨_,rfl⟩
    have hmbS:¬Sx mb:=by
     rw[hSx]
     rintro(e|e)
     ·have h1:=(hrow.lt mb e).1
      have:=HS1.out;omega
     ·have:=HS1.out;omega
    have hlk:∀W,Upd Sx w5 W→(Instr.lookup 62 (.map (some mb)) (.int .i64 (Za q' k:Int)) false).run Try.prog W= .ok (.int .i64 (j:Int)) W:=fun W u=>by
     have:=Ze2 ZeH Try.underlying62 Zgw (hM2.upd u hmbS) (Za q' k:Int)
     rw[hmj]at this
     exact this
    have cO:w5.cell? ⟨gO,j,none⟩=some (.slice pA pl.length pc):=by rw[hbO.cell];exact hcell
    have cO2:∀o,(w5.alloc o).cell? ⟨gO,j,none⟩=some (.slice pA pl.length pc):=fun o=>((Upd.refl No w5).alloc o).keepNo cO
    have HMBS:=Lib.hid hmbS
    have HP2:=Lib.hid hP2
    have HJ:=Lib.hid hj
    have HM2:=Lib.hid hM2
    have HC2:=Lib.hid hC2
    have HG2:=Lib.hid hG2
    have HBO:=Lib.hid hbO
    have HROW:=Lib.hid hrow
    have HSX:=Lib.hid hSx
    have HXO:=Lib.hid (show gO≥w1.heap.size∧ps2.length≤c2∧cur.length=c2*1∧cur.take (ps2.length*1)=ps2.map PV.v∧c2≤maxLen from⟨hgO,hncO,hlO,hxO,hcO⟩)
    have HNO:=Lib.hid (show¬Own (.slice pA pl.length pc) gO from fun e=>hP2.apart j _ hj gO e rfl)
    have HSZ:=Lib.hid (show w1.heap.size≤w5.heap.size from hU9.out.size)
    have hkk:k≤4096:=by have:=hNN.out;omega
    have hzz:Upd Sx w5 w5:=Upd.refl _ _
    clear hP2 hj hmj hC2 hG2 hM2 hbO hrow hSx hgO hncO hlO hxO hcO hcell hmbS hMid hP hC hM hG HPL
    go_wp2
    refine wp_region_noPanic ?_
    refine wp_region_held_drew (S:=(fun W'=>Upd Sx w5 W')) (by kernel_rfl) ?_ (fun hHeld=> ?_)
    ·(first|exact hzz.drew|exact hHeld|exact hHeld.alloc _|exact hU6|exact hU7)
    refine wpK 0 rfl ?_
    refine wpK 1 rfl ?_
    refine wpK 2 rfl ?_
    refine wpK 3 rfl ?_
    refine wpK 4 rfl ?_
    refine wpK 5 rfl ?_
    refine wpK 6 rfl ?_
    refine wpK 7 rfl ?_
    refine wpK 8 rfl ?_
    refine wpK 10 rfl ?_
    refine wpR [9,11] ?_
    refine wpC rfl (fun K hK=> ?_) ?_
    ·go_simp
     refine hK.out _ _ ?_ (fun hHeld=> ?_)
     ·(first|exact hzz.drew|exact hHeld|exact hHeld.alloc _|exact hU6|exact hU7)
     clear hK K
     try simp only[Act.put,sT,sS,sZ]
     refine wpR [11] ?_
     refine wpC rfl (fun K hK=> ?_) AllReadyH.nil
     go_simp
     refine hK.out _ _ ?_ (fun hHeld=> ?_)
     ·(first|exact hzz.drew|exact hHeld|exact hHeld.alloc _|exact hU6|exact hU7)
     clear hK K
     try simp only[Act.put,sT,sS,sZ]
     refine wpR [12] ?_
     refine wpC rfl (fun K hK=> ?_) AllReadyH.nil
     (first
   |(refine ZcD (by rfl) (by rfl) ZaJ (v:= .slice pA pl.length pc) (n:=pl.length) (xs:=Zw pl) (cells:=[.int .i64 (k:Int)]) (by rfl) (by rfl) (by first|exact Zb HROW.out ((Upd.refl No w5).drew.alloc _) (fun _ _=>id)|exact Zb HROW.out ((Upd.refl No w5).alloc _).drew (fun _ _=>id)) rfl (by exact Zdj) (by rfl) (by omega) (by omega) (by have:=HSZ.out;simp;omega) ?_;intro g6 c6 w6 hown6 hu6 hg6 hlt6;have hU6:Upd Sx w5 w6:=hHeld.trans (hu6.mono (fun i _ e=>by rw[HSX.out];exact Or.inl e));have HO6:=Lib.hid hown6;have HU6:=Lib.hid hu6;have HG6:=Lib.hid hg6;have HB6:=Lib.hid ((HBO.out.drew.alloc (.cells #[.int .i64 (k:Int)] 3)).upd hu6 HNO.out)))
     refine hK.out _ _ ?_ (fun hHeld=> ?_)
     ·(first|exact hzz.drew|exact hHeld|exact hHeld.alloc _|exact hU6|exact hU7)
     clear hK K
     try simp only[Act.put,sT,sS,sZ]
     refine wpK 13 rfl ?_
     refine wpR [14] ?_
     refine wpC rfl (fun K hK=> ?_) AllReadyH.nil
     (first
   |(refine Zz (by rfl) (by rfl) (g:=gO) (i:=j) (v:= .slice (some ⟨g6,0,none⟩) (pl.length+1) c6) (by rfl) (by rfl) HB6.out (by kernel_rfl) (by have:=HXO.out;omega) rfl ?_;intro w7 hb7 hu7;have hU7:Upd Sx w5 w7:=hU6.trans (hu7.mono (fun i _ e=>by rw[HSX.out];exact Or.inr e));have HB7:=Lib.hid hb7;have HU7:=Lib.hid hu7))
     refine hK.out _ _ ?_ (fun hHeld=> ?_)
     ·(first|exact hzz.drew|exact hHeld|exact hHeld.alloc _|exact hU6|exact hU7)
     clear hK K
     try simp only[Act.put,sT,sS,sZ]
     refine wpD (NoPanic.normal ?_)
     have HH:=Lib.hid hHeld
     have hgn:g6≠gO:=by
      have hlt:=HBO.out.lt
      rcases HG6.out with h|⟨z,h1,h2⟩
      ·intro e
       exact HNO.out (by rw[←e];exact h.symm)
      ·have h3:g6=z:=by simpa[Value.ownBlock]using h1
       simp at h2
       omega
     have HO7:=Lib.hid (Zb HO6.out HU7.out (fun i e h=>by
      have e1:g6=i:=by simpa[Value.ownBlock]using e
      have e2:i=gO:=h
      exact hgn (e1.trans e2)))
     have hg7:∀i,Own (.slice (some ⟨g6,0,none⟩) (pl.length+1) c6) i→Own (.slice pA pl.length pc) i∨w5.heap.size≤i:=by
      intro i e
      have e1:g6=i:=by simpa[Own,Value.ownBlock]using e
      rcases HG6.out with h|⟨z,h1,h2⟩
      ·left;rw[←e1];exact h.symm
      ·right
       have h3:g6=z:=by simpa[Value.ownBlock]using h1
       simp at h2
       omega
     have HP7:=Lib.hid (HP2.out.add (p':=⟨some ⟨g6,0,none⟩,c6,pl++[k]⟩) HJ.out HH.out (fun i h=>by
      rw[HSX.out]at h
      exact h.imp id (fun e=>show some gO=some i from by rw[show i=gO from e])) (Zo HB7.out HXO.out.1 HXO.out.2.1 (by rw[List.length_set];exact HXO.out.2.2.1) (by rw[List.take_set,HXO.out.2.2.2.1];simp[PV.v]) HXO.out.2.2.2.2 (by simp))
      (ZaR (base:=w1.heap.size) (by simpa[PV.v,Zw]using HO7.out) (Nat.le_refl _)) (by simpa[PV.v]using hg7))
     have HL7:=Lib.hid (Zck ps2 (p':=⟨some ⟨g6,0,none⟩,c6,pl++[k]⟩) HJ.out rfl)
     have HM7:=Lib.hid (HM2.out.upd HH.out HMBS.out)
     have HU8:=Lib.hid (hU9.out.then_ HH.out (fun i h=>by
      rw[HSX.out]at h
      right
      rcases h with h|h
      ·exact(HROW.out.lt i h).1
      ·have:=HXO.out.1;omega))
     clear hHeld hU6 hU7 hb7 hu7 hown6 hu6 hg6 hlt6 hgn hg7 hlk cO cO2 hzz
     go_wp2
     go_roundg (gk-1)
     case measure=>omega
     case rel=>exact⟨k+1,some ⟨gO,0,none⟩,c2,ps2.set j ⟨some ⟨g6,0,none⟩,c6,pl++[k]⟩,m2,by omega,by simp,by simp,Lib.hid (by simpa using HP7.out),Lib.hid (HL7.out.trans HC2.out),HM7,HG2,HU8⟩
    refine wpC rfl (fun K hK=> ?_) AllReadyH.nil
    go_simp
    refine hK.out _ _ ?_ (fun hHeld=> ?_)
    ·(first|exact hzz.drew|exact hHeld|exact hHeld.alloc _|exact hU6|exact hU7)
    clear hK K
    try simp only[Act.put,sT,sS,sZ]
    refine wpR [9] ?_
    refine wpC rfl (fun K hK=> ?_) AllReadyH.nil
    go_simp
    refine hK.out _ _ ?_ (fun hHeld=> ?_)
    ·(first|exact hzz.drew|exact hHeld|exact hHeld.alloc _|exact hU6|exact hU7)
    clear hK K
    try simp only[Act.put,sT,sS,sZ]
    refine wpR [12] ?_
    refine wpC rfl (fun K hK=> ?_) AllReadyH.nil
    (first
  |(refine ZcD (by rfl) (by rfl) ZaJ (v:= .slice pA pl.length pc) (n:=pl.length) (xs:=Zw pl) (cells:=[.int .i64 (k:Int)]) (by rfl) (by rfl) (by first|exact Zb HROW.out ((Upd.refl No w5).drew.alloc _) (fun _ _=>id)|exact Zb HROW.out ((Upd.refl No w5).alloc _).drew (fun _ _=>id)) rfl (by exact Zdj) (by rfl) (by omega) (by omega) (by have:=HSZ.out;simp;omega) ?_;intro g6 c6 w6 hown6 hu6 hg6 hlt6;have hU6:Upd Sx w5 w6:=hHeld.trans (hu6.mono (fun i _ e=>by rw[HSX.out];exact Or.inl e));have HO6:=Lib.hid hown6;have HU6:=Lib.hid hu6;have HG6:=Lib.hid hg6;have HB6:=Lib.hid ((HBO.out.drew.alloc (.cells #[.int .i64 (k:Int)] 3)).upd hu6 HNO.out)))
    refine hK.out _ _ ?_ (fun hHeld=> ?_)
    ·(first|exact hzz.drew|exact hHeld|exact hHeld.alloc _|exact hU6|exact hU7)
    clear hK K
    try simp only[Act.put,sT,sS,sZ]
    refine wpK 13 rfl ?_
    refine wpR [14] ?_
    refine wpC rfl (fun K hK=> ?_) AllReadyH.nil
    (first
  |(refine Zz (by rfl) (by rfl) (g:=gO) (i:=j) (v:= .slice (some ⟨g6,0,none⟩) (pl.length+1) c6) (by rfl) (by rfl) HB6.out (by kernel_rfl) (by have:=HXO.out;omega) rfl ?_;intro w7 hb7 hu7;have hU7:Upd Sx w5 w7:=hU6.trans (hu7.mono (fun i _ e=>by rw[HSX.out];exact Or.inr e));have HB7:=Lib.hid hb7;have HU7:=Lib.hid hu7))
    refine hK.out _ _ ?_ (fun hHeld=> ?_)
    ·(first|exact hzz.drew|exact hHeld|exact hHeld.alloc _|exact hU6|exact hU7)
    clear hK K
    try simp only[Act.put,sT,sS,sZ]
    refine wpD (NoPanic.normal ?_)
    have HH:=Lib.hid hHeld
    have hgn:g6≠gO:=by
     have hlt:=HBO.out.lt
     rcases HG6.out with h|⟨z,h1,h2⟩
     ·intro e
      exact HNO.out (by rw[←e];exact h.symm)
     ·have h3:g6=z:=by simpa[Value.ownBlock]using h1
      simp at h2
      omega
    have HO7:=Lib.hid (Zb HO6.out HU7.out (fun i e h=>by
     have e1:g6=i:=by simpa[Value.ownBlock]using e
     have e2:i=gO:=h
     exact hgn (e1.trans e2)))
    have hg7:∀i,Own (.slice (some ⟨g6,0,none⟩) (pl.length+1) c6) i→Own (.slice pA pl.length pc) i∨w5.heap.size≤i:=by
     intro i e
     have e1:g6=i:=by simpa[Own,Value.ownBlock]using e
     rcases HG6.out with h|⟨z,h1,h2⟩
     ·left;rw[←e1];exact h.symm
     ·right
      have h3:g6=z:=by simpa[Value.ownBlock]using h1
      simp at h2
      omega
    have HP7:=Lib.hid (HP2.out.add (p':=⟨some ⟨g6,0,none⟩,c6,pl++[k]⟩) HJ.out HH.out (fun i h=>by
     rw[HSX.out]at h
     exact h.imp id (fun e=>show some gO=some i from by rw[show i=gO from e])) (Zo HB7.out HXO.out.1 HXO.out.2.1 (by rw[List.length_set];exact HXO.out.2.2.1) (by rw[List.take_set,HXO.out.2.2.2.1];simp[PV.v]) HXO.out.2.2.2.2 (by simp))
     (ZaR (base:=w1.heap.size) (by simpa[PV.v,Zw]using HO7.out) (Nat.le_refl _)) (by simpa[PV.v]using hg7))
    have HL7:=Lib.hid (Zck ps2 (p':=⟨some ⟨g6,0,none⟩,c6,pl++[k]⟩) HJ.out rfl)
    have HM7:=Lib.hid (HM2.out.upd HH.out HMBS.out)
    have HU8:=Lib.hid (hU9.out.then_ HH.out (fun i h=>by
     rw[HSX.out]at h
     right
     rcases h with h|h
     ·exact(HROW.out.lt i h).1
     ·have:=HXO.out.1;omega))
    clear hHeld hU6 hU7 hb7 hu7 hown6 hu6 hg6 hlt6 hgn hg7 hlk cO cO2 hzz
    go_wp2
    go_roundg (gk-1)
    case measure=>omega
    case rel=>exact⟨k+1,some ⟨gO,0,none⟩,c2,ps2.set j ⟨some ⟨g6,0,none⟩,c6,pl++[k]⟩,m2,by omega,by simp,by simp,Lib.hid (by simpa using HP7.out),Lib.hid (HL7.out.trans HC2.out),HM7,HG2,HU8⟩
  ·obtain rfl:k=N:=by omega
   have h1:¬((k:Int)<(k:Int)):=by omega
   clear hpl hpk
   go_wp2
   refine bodyPost_ret (v:= .slice A' ps.length c') (by simp[results,Try.results16,go_sem]) rfl ⟨A',c',ps,rfl,?_,hC.out,HU1.out.then_ hU.out (fun i e=>Or.inr (by have e:i=mb:=e;have:=HB.out;omega))⟩
   have h:=hP.out
   have hb:mb≤w1.heap.size:=by have:=HS1.out;omega
   exact⟨ZaR h.own (HB.out▸hb),fun i p hp=>ZaR (h.rows i p hp) (HB.out▸hb),h.apart,h.two⟩
end Go.Proofs.Ytfcefnpnomlgbaa
