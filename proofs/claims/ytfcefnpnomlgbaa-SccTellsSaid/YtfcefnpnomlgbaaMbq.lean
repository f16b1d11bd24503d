/- Components of a digraph: the law of what is told. -/
import Derived.Test.YtfcefnpnomlgbaaMbd
import Derived.Test.YtfcefnpnomlgbaaMbf
import Derived.Test.YtfcefnpnomlgbaaMbp
namespace Go.Proofs.Ytfcefnpnomlgbaa
set_option linter.unusedSimpArgs false
set_option linter.unusedVariables false
open Go.RowKit
theorem Zam (N:Nat) (q:List HArc):(Zi N q).length=N:=by unfold Zi;simp
def Zfe:Prop:=∀w:World,Calls Try.prog 5 #[] w fun e w'=>e= .returned (.bool true)∧Upd No w w'
theorem Za6 (l:List Int) (x:Int) (f:Nat→Int):∀(n k:Nat),ZL l x k ((List.range' k n).map f)=((List.range' k n).filter fun i=>f i==x).map fun i:Nat=>(i:Int)
 |0,k=>rfl
 |n+1,k=>by
  rw[List.range'_succ,List.map_cons]
  unfold ZL
  by_cases h:f k=x
  ·rw[if_pos h,List.filter_cons_of_pos (by simpa using h),List.map_cons,Za6 l x f n (k+1)]
  ·rw[if_neg h,List.filter_cons_of_neg (by simpa using h),Za6 l x f n (k+1)]
theorem Zev (N:Nat) (q:List HArc) (r:Nat):ZL (Zi N q) (r:Int) 0 (Zi N q)=(Zl (Za q) N r).map fun i:Nat=>(i:Int):=by
 have:=Za6 (Zi N q) (r:Int) (fun i=>(Za q i:Int)) N 0
 unfold Zl Zi at*
 rw[List.range_eq_range']at*
 rw[this]
 congr 1
 apply List.filter_congr
 intro i _
 show((Za q i:Int)==(r:Int))=(Za q i==r)
 by_cases h:Za q i=r
 ·rw[h];simp
 ·rw[beq_eq_false_iff_ne.2 h,beq_eq_false_iff_ne];omega
theorem Zc8 {w:World} {base c:Nat} {A:Option Addr} {l:List HArc} (h:w.ownsRow base 28 4 (.slice A l.length c) l.length (Zw l)):ArcsL (Own (.slice A l.length c)) w A l:=Recs.of_own (n:=l.length) (c:=c) (Zeh l) (by omega) h
theorem Zep {N:Nat} {a:HArc} (h:Zc N a=true):1≤a.kind∧a.kind≤3:=by
 unfold Zc Zk at h
 simp at h
 omega
theorem Zc2 (L:Nat→Nat) (i:Nat):Zx L (i+1)=Zx L i+if L i=i then 1 else 0:=by
 unfold Zx
 rw[ZaA,List.length_append]
 split<;>rfl
theorem ZfL (L:Nat→Nat) {N r:Nat} (h:L r=r) (hr:r<N):(Zh L N)[Zx L r]? =some (Zl L N r):=by
 unfold Zh
 rw[List.getElem?_map,Za1 h hr];rfl
theorem ZeG {N:Nat} {q:List HArc} {x:HArc} (hs:ZY q) (h:Zc N x=true):Zat N q x=ZD x q:=by
 unfold Zat
 rw[if_pos h]
 split
 ·rename_i hm;exact(Zft hs hm).symm
 ·rfl
set_option maxRecDepth 100000 in
set_option maxHeartbeats 8000000 in
theorem Zga (F:Nat→Prop) (w:World) (n:Int) (A:Option Addr) (c:Nat) (l:List HArc) (mask:Int) (hL:ArcsL F w A l) (hll:l.length≤9223372036854775807) (L:Hid Zfe):
  Calls Try.prog 3 #[.int .i64 n,.slice A l.length c,.int .i64 mask] w fun e w'=>e= .returned (.bool true)∧Upd No w w':=by
 by_cases h1:12<n
 ·clear hL
  go_enter Try.func3,Try.ntmps3
  go_wp2_with fail
  refine(L.out _).mono ?_
  rintro e w1 ⟨rfl,hu1⟩
  go_wp2
  go_ret
  exact⟨rfl,hu1⟩
 by_cases h2:(60:Int)<(l.length:Int)
 ·clear hL
  go_enter Try.func3,Try.ntmps3
  go_wp2_with fail
  refine(L.out _).mono ?_
  rintro e w1 ⟨rfl,hu1⟩
  go_wp2
  go_ret
  exact⟨rfl,hu1⟩
 have hl60:l.length≤60:=by omega
 obtain⟨N,hN⟩:∃N,Zp n=N:=⟨_,rfl⟩
 have hN12:N≤12:=by rw[←hN];unfold Zp;omega
 have HMade:=Lib.hid (hN▸Zf2 F w n A c l hL (by omega))
 have HRoom:=Lib.hid (fun W=>hN▸ZgW W n)
 have HL:=Lib.hid hL
 clear hL hN
 go_enter Try.func3,Try.ntmps3
 go_wp2_with fail
 refine(HMade.out).mono ?_
 rintro e w1 ⟨g,rfl,hd⟩
 obtain⟨G,hdg⟩:=hd.is
 have HU1:=Lib.hid hd.upd
 obtain⟨Q0,hQ0⟩:∃Q0,Zaa N [] l=Q0:=⟨_,rfl⟩
 rw[hQ0]at hdg
 have HDG:=Lib.hid hdg
 have HQ0:=Lib.hid (show Zaa N [] (l.drop 0)=Q0 from hQ0)
 clear hd hdg hQ0 HMade
 go_wp2_with fail
 refine(HRoom.out w1).mono ?_
 rintro e w2 ⟨rfl,rfl⟩
 go_wp2
 go_loopg [9,33] l.length (fun gk s i wr=>∃(k:Nat) (q:List HArc) (A5:Option Addr) (c5:Nat),k+gk=l.length∧i= .int .i64 (k:Int)∧s= .slice A5 q.length c5∧Hid (Zaa N q (l.drop k)=Q0)∧Hid (ZY q)∧Hid (q.length≤k)∧Hid (∀a∈q,Zc N a=true)∧Hid (∃G,ArcsL G wr A5 q)∧Hid (Upd No w1 wr))
 case atStart=>exact⟨0,[],none,0,by omega,rfl,rfl,HQ0,Lib.hid List.Pairwise.nil,Lib.hid (Nat.le_refl _),Lib.hid (fun a h=>by cases h),Lib.hid ⟨fun _=>False,fun h=>absurd rfl h⟩,Lib.hid (Upd.refl _ _)⟩
 case round=>
  clear HQ0
  obtain⟨k,q,A5,c5,hgk,rfl,rfl,hq,hs,hql,hrt,hsl,hu⟩:=hrel
  by_cases hlt:k<l.length
  ·obtain⟨ax,rfl,q0,q1,q2,q3⟩:=((HL.out.upd HU1.out (fun _ _=>id)).upd hu.out (fun _ _=>id)).at_ hlt
   obtain⟨x,hx⟩:∃x,l[k]=x:=⟨_,rfl⟩
   rw[hx]at q0 q1 q2 q3
   have hst:=hq.out
   rw[show l.drop k=x::l.drop (k+1) by rw[←hx];exact List.drop_eq_getElem_cons hlt,Zcu]at hst
   clear hx hq
   have b1:(0:Int)≤(k:Int):=Int.natCast_nonneg _
   have b2:(k:Int)<(l.length:Int):=by omega
   have kw:IntKind.i64.wrap ((k:Int)+1)=(k:Int)+1:=IntWalk.i64_in _ (by omega)
   obtain⟨wb,hwb⟩:∃wb,wr.alloc (.cells #[.int .i64 x.f,.int .i64 x.t,.int .i64 x.kind,.int .i64 x.label] 28)=wb:=⟨_,rfl⟩
   have ub:Upd No wr wb:=by rw[←hwb];exact(Upd.refl No wr).alloc _
   have bo:Blk wb wr.heap.size 28 [.int .i64 x.f,.int .i64 x.t,.int .i64 x.kind,.int .i64 x.label]:=by rw[←hwb];exact Blk.new wr _ _
   have g0:=bo.cell 0
   have g1:=bo.cell 1
   have g2:=bo.cell 2
   have g3:=bo.cell 3
   simp only[List.getElem?_cons_zero,List.getElem?_cons_succ]at g0 g1 g2 g3
   have HUB:=Lib.hid (hu.out.trans ub)
   have HSLB:=Lib.hid (show∃G,ArcsL G wb A5 q from hsl.out.elim fun G h=>⟨G,h.upd ub (fun _ _=>id)⟩)
   have HBO:=Lib.hid bo
   clear ub bo hu hsl
   cases hr:Zc N x
   ·have HRi:=Lib.hid (hr▸Zd4 wb N x)
    have HST:=Lib.hid (show Zaa N q (l.drop (k+1))=Q0 by
     have h3:Zat N q x=q:=by unfold Zat;rw[if_neg (by rw[hr];decide)]
     rwa [h3]at hst)
    clear hst hr
    go_wp2_with fail
    refine(HRi.out).mono ?_
    rintro e w3 ⟨rfl,hu3⟩
    have HU3:=Lib.hid (HUB.out.trans hu3)
    have HSL3:=Lib.hid (show∃G,ArcsL G w3 A5 q from HSLB.out.elim fun G h=>⟨G,h.upd hu3 (fun _ _=>id)⟩)
    clear hu3
    go_wp2
    go_roundg (gk-1)
    case measure=>omega
    case rel=>exact⟨k+1,q,A5,c5,by omega,by simp,rfl,HST,hs,Lib.hid (by have:=hql.out;omega),hrt,HSL3,HU3⟩
   ·have HRi:=Lib.hid (hr▸Zd4 wb N x)
    have HST:=Lib.hid (show Zaa N (ZD x q) (l.drop (k+1))=Q0 by rwa [ZeG hs.out hr]at hst)
    have HRX:=Lib.hid hr
    clear hst hr
    go_wp2_with fail
    refine(HRi.out).mono ?_
    rintro e w3 ⟨rfl,hu3⟩
    have HU3:=Lib.hid (HUB.out.trans hu3)
    have HPu:=Lib.hid (Zfu x q▸Zg1 _ w3 A5 c5 q x (HSLB.out.choose_spec.upd hu3 (fun _ _=>id)) (by have:=hql.out;omega))
    have b3:=HBO.out.upd hu3 id
    have g0:=b3.cell 0
    have g1:=b3.cell 1
    have g2:=b3.cell 2
    have g3:=b3.cell 3
    simp only[List.getElem?_cons_zero,List.getElem?_cons_succ]at g0 g1 g2 g3
    clear hu3 b3
    go_wp2_with fail
    refine(HPu.out).mono ?_
    rintro e w4 ⟨A6,c6,rfl,ho6,hu6⟩
    have HO6:=Lib.hid (show∃G,ArcsL G w4 A6 (ZD x q) from⟨_,Zc8 ho6⟩)
    have HU6:=Lib.hid (HU3.out.trans hu6)
    have HPL:=Lib.hid (Zds x q)
    clear ho6 hu6
    go_wp2
    go_roundg (gk-1)
    case measure=>omega
    case rel=>exact⟨k+1,ZD x q,A6,c6,by omega,by simp,rfl,HST,Lib.hid (ZaB x q hs.out),Lib.hid (by have:=hql.out;have:=HPL.out;omega),Lib.hid (fun a ha=>by
      rcases(ZV x a q).1 ha with rfl|ha
      ·exact HRX.out
      ·exact hrt.out a ha),HO6,HU6⟩
  ·obtain rfl:k=l.length:=by omega
   have hqq:q=Q0:=by have:=hq.out;rw[List.drop_length]at this;exact this
   subst hqq
   have b1:¬((l.length:Int)<(l.length:Int)):=by omega
   clear hq
   obtain⟨G5,hG5⟩:=hsl.out
   have HOf:=Lib.hid (Zhx G5 wr A5 c5 q mask hG5 (fun x hx=>Zep (hrt.out x hx)) (by have:=hql.out;omega))
   have hfl:(q.filter fun x=>Zy mask x.kind).length≤60:=Nat.le_trans (List.length_filter_le _ _) (by have:=hql.out;omega)
   rw[show(q.filter fun x=>Zy mask x.kind)=ofA mask q from rfl]at HOf hfl
   have HUR:=Lib.hid hu.out
   have HDG3:=Lib.hid (fun(W:World) (u:Upd No wr W)=>HDG.out.no (hu.out.trans u))
   have HE:=Lib.hid (ZaY (Zbf HDG.out) mask)
   have hN4:N≤4096:=by omega
   have HCL:=Lib.hid (fun(W:World) (u:Upd No wr W)=>ZcK (HDG3.out W u) hN4 mask)
   have HCR:=Lib.hid (fun(W:World) (u:Upd No wr W)=>Zfb (HDG3.out W u) hN4 mask)
   have HCC:=Lib.hid (fun(W:World) (u:Upd No wr W)=>ZdR (HDG3.out W u) hN4 mask)
   clear hG5 hs hql hrt hsl hu
   obtain⟨q',hq'⟩:∃q',ofA mask q=q':=⟨_,rfl⟩
   rw[hq']at HOf hfl HE HCL HCR HCC
   clear hq' HDG3
   have HRN:=Lib.hid (show(ZT N q').length≤4096 from Nat.le_trans (Zdm q' N) (by omega))
   go_wp2_with fail
   refine(HOf.out).mono ?_
   rintro e w4 ⟨A6,c6,rfl,ho6,hu6⟩
   have hA6:=Zc8 ho6
   have HLr:=Lib.hid (fun(W:World) (u:Upd No w4 W)=>Zgg _ W A6 c6 N q' (Recs.upd hA6 u (fun _ _=>id)) (by omega) hN4)
   have HRr:=Lib.hid (fun(W:World) (u:Upd No w4 W)=>ZgA _ W A6 c6 N q' (Recs.upd hA6 u (fun _ _=>id)) (by omega) hN4)
   have HU4:=Lib.hid hu6
   clear ho6 hu6 hA6 HOf
   go_wp2_with fail
   refine(HLr.out w4 (Upd.refl _ _)).mono ?_
   rintro e w5 ⟨A7,c7,rfl,ho7,hu7⟩
   have HI7:=Lib.hid (show Ints (fun _=>True) w5 A7 (Zi N q') from(Ints.of_owned ho7).weak (fun _ _ _=>trivial))
   have HU5:=Lib.hid hu7
   clear ho7 hu7
   go_wp2_with fail
   refine(HCL.out w5 (HU4.out.trans HU5.out)).mono ?_
   rintro e w6 ⟨A8,c8,rfl,ho8,hu8⟩
   have HI8:=Lib.hid (Ints.of_owned ho8)
   have HU6:=Lib.hid hu8
   clear ho8 hu8
   go_wp2_with fail
   refine(Zdk w6 _ _ A8 A7 c8 c7 (Zi N q') HI8.out (HI7.out.upd HU6.out (fun _ _=>id)) (by rw[Zam];omega)).mono ?_
   rintro e w7 ⟨rfl,hu7⟩
   have HU7:=Lib.hid (HU6.out.trans hu7)
   clear hu7
   go_wp2_with fail
   refine(HCR.out w7 ((HU4.out.trans HU5.out).trans HU7.out)).mono ?_
   rintro e w8 ⟨A9,c9,rfl,ho9,hu9⟩
   have HI9:=Lib.hid (Ints.of_owned ho9)
   have HU8:=Lib.hid (HU7.out.trans hu9)
   clear ho9 hu9
   go_wp2_with fail
   refine(HRr.out w8 (HU5.out.trans HU8.out)).mono ?_
   rintro e w9 ⟨Aa,ca,rfl,hoa,hua⟩
   have HIa:=Lib.hid (Ints.of_owned hoa)
   have HI9b:=Lib.hid (HI9.out.upd hua (fun _ _=>id))
   have HU9:=Lib.hid (HU8.out.trans hua)
   clear hoa hua
   go_wp2_with fail
   refine(Zdk w9 _ _ A9 Aa c9 ca (ZT N q') HI9b.out HIa.out (Nat.le_trans HRN.out (by decide))).mono ?_
   rintro e wa ⟨rfl,hua⟩
   have HUa:=Lib.hid (HU9.out.trans hua)
   clear hua
   go_wp2_with fail
   refine(HCC.out wa ((HU4.out.trans HU5.out).trans HUa.out)).mono ?_
   rintro e wb ⟨AP,cP,ps,rfl,hP,hC,hub⟩
   have HP:=Lib.hid hP
   have HC:=Lib.hid hC
   have HUb:=Lib.hid (HUa.out.trans hub)
   have hpl:ps.length=Zx (Za q') N:=by rw[←Zbt,←hC,List.length_map]
   have HPL:=Lib.hid hpl
   have HIb:=Lib.hid (HI7.out.upd (HUb.out) (fun _ _=>id))
   have HUall:=Lib.hid (((HU1.out.trans HUR.out).trans (HU4.out.trans HU5.out)).trans HUb.out)
   have hp12:ps.length≤12:=by rw[hpl];exact Nat.le_trans (ZcG _ _) hN12
   rw[Zam]at*
   clear hP hC hub hpl HLr HRr HCL HCR HCC HRoom HL HDG
   go_wp2
   clear hl60 b1
   go_loopg [14,15] N (fun gk sk si wr=>∃(i:Nat),i+gk=N∧si= .int .i64 (i:Int)∧sk= .int .i64 (Zx (Za q') i:Int)∧Hid (Upd No wb wr))
   case atStart=>exact⟨0,by omega,rfl,rfl,Lib.hid (Upd.refl _ _)⟩
   case round=>
    obtain⟨i,hgi,rfl,rfl,hu⟩:=hrel
    by_cases hi:i<N
    ·have i0:(0:Int)≤(i:Int):=Int.natCast_nonneg _
     have i1:(i:Int)<(N:Int):=by omega
     have iw:IntKind.i64.wrap ((i:Int)+1)=(i:Int)+1:=IntWalk.i64_in _ (by omega)
     have HI:=Lib.hid (HIb.out.upd hu.out (fun _ _=>id))
     obtain⟨ad,rfl,_,_,y0⟩:=HI.out.at_ (k:=i) (by rw[Zam];exact hi)
     have hlk:(Zi N q')[i]'(by rw[Zam];exact hi)=(Za q' i:Int):=by simp[Zi]
     rw[hlk]at y0
     clear hlk
     by_cases hr:Za q' i=i
     ·have e1:((Za q' i:Int) != (i:Int))=false:=by rw[hr];simp
      have hat:=ZfL (Za q') hr hi
      obtain⟨j,hj⟩:∃j,Zx (Za q') i=j:=⟨_,rfl⟩
      rw[hj]at hat ⊢
      rw[←HC.out,List.getElem?_map,Option.map_eq_some_iff]at hat
      obtain⟨⟨pA,pc,pl⟩,hpj,hple0⟩:=hat
      have hple:pl=Zl (Za q') N i:=hple0
      clear hple0
      have hjl:j<ps.length:=(List.getElem?_eq_some_iff.1 hpj).1
      obtain⟨gO,rfl,z0,hIp⟩:=HP.out.read rfl hpj
      have zc:∀W,Upd No wr W→W.cell? ⟨gO,j,none⟩=some (.slice pA pl.length pc):=fun W u=>(hu.out.trans u).keepNo z0
      have hpl12:pl.length≤12:=by
       rw[hple]
       unfold Zl
       have:=List.length_filter_le (fun k=>Za q' k==i) (List.range N)
       rw[List.length_range]at this
       omega
      have HMem:=Lib.hid (show∀W,Upd No wr W→Calls Try.prog 17 #[.slice (some ad) N c7,.int .i64 (i:Int)] W fun e w'=>∃A c,e= .returned (.slice A pl.length c)∧Ints (fun _=>True) w' A (pl.map fun x:Nat=>(x:Int))∧Upd No W w' from fun W u=>by
       have h3:=Zfq _ W (some ad) c7 (Zi N q') (i:Int) (HI.out.upd u (fun _ _=>id)) (by rw[Zam];omega)
       rw[Zev,←hple,Zam]at h3
       refine h3.mono ?_
       rintro e w' ⟨A',c',rfl,ho,hu'⟩
       rw[List.length_map]at ho ⊢
       exact⟨A',c',rfl,(Ints.of_own ho).weak (fun _ _ _=>trivial),hu'⟩)
      have HSam:=Lib.hid (show∀W Aa ca,Upd No wr W→Ints (fun _=>True) W Aa (pl.map fun x:Nat=>(x:Int))→Calls Try.prog 12 #[.slice pA pl.length pc,.slice Aa pl.length ca] W fun e w'=>e= .returned (.bool true)∧Upd No W w' from fun W Aa ca u hI=>by
       have h3:=Zdk W _ _ pA Aa pc ca (pl.map fun x:Nat=>(x:Int)) (hIp.upd (hu.out.trans u) (fun _ _=>id)) hI (by rw[List.length_map];omega)
       rw[List.length_map]at h3
       exact h3)
      have j0:(0:Int)≤(j:Int):=Int.natCast_nonneg _
      have j1:(j:Int)<(ps.length:Int):=by omega
      have j2:decide ((ps.length:Int)≤(j:Int))=false:=decide_eq_false (by omega)
      have j3:decide (ps.length≤j)=false:=decide_eq_false (by omega)
      have j4:j<ps.length:=by omega
      have jw:IntKind.i64.wrap ((j:Int)+1)=(j:Int)+1:=IntWalk.i64_in _ (by omega)
      have HJ:=Lib.hid (show Zx (Za q') (i+1)=j+1 by rw[Zc2,if_pos hr,hj])
      have hzz:Upd No wr wr:=Upd.refl _ _
      clear hj hple hpj hIp hr z0
      go_wp2
      refine wp_region_noPanic ?_
      refine wp_region_held_drew (S:=(fun W'=>Upd No wr W')) (by kernel_rfl) ?_ (fun hHeld=> ?_)
      ·(first|exact hzz.drew|exact hHeld.trans hu8|exact hHeld.trans hu9)
      refine wpK 0 rfl ?_
      refine wpK 1 rfl ?_
      refine wpK 2 rfl ?_
      refine wpK 3 rfl ?_
      refine wpK 4 rfl ?_
      refine wpK 5 rfl ?_
      refine wpK 6 rfl ?_
      refine wpK 7 rfl ?_
      refine wpK 8 rfl ?_
      refine wpK 9 rfl ?_
      refine wpK 10 rfl ?_
      refine wpR [11] ?_
      refine wpC rfl (fun K hK=> ?_) AllReadyH.nil
      go_simp
      (first
  |(go_at_call 17;refine(HMem.out _ hHeld).mono ?_;rintro e w8 ⟨A8,c8,rfl,hI8,hu8⟩;have HI8:=Lib.hid hI8;clear hI8))
      try (go_wp2_with fail)
      refine hK.out _ _ ?_ (fun hHeld=> ?_)
      ·(first|exact hzz.drew|exact hHeld.trans hu8|exact hHeld.trans hu9)
      clear hK K
      try simp only[Act.put,sT,sS,sZ]
      refine wpR [12] ?_
      refine wpC rfl (fun K hK=> ?_) AllReadyH.nil
      go_simp
      (first
  |(go_at_call 12;refine(HSam.out _ _ _ hHeld HI8.out).mono ?_;rintro e w9 ⟨rfl,hu9⟩))
      try (go_wp2_with fail)
      refine hK.out _ _ ?_ (fun hHeld=> ?_)
      ·(first|exact hzz.drew|exact hHeld.trans hu8|exact hHeld.trans hu9)
      clear hK K
      try simp only[Act.put,sT,sS,sZ]
      refine wpK 13 rfl ?_
      refine wpK 14 rfl ?_
      refine wpD (NoPanic.normal ?_)
      have HU9:=Lib.hid (hu.out.trans hHeld)
      clear hHeld
      go_wp2
      go_roundg (gk-1)
      case measure=>omega
      case rel=>exact⟨i+1,by omega,by simp,by rw[HJ.out];simp,HU9⟩
     ·have e1:((Za q' i:Int) != (i:Int))=true:=by rw[bne_iff_ne];omega
      have HJ:=Lib.hid (show Zx (Za q') (i+1)=Zx (Za q') i by rw[Zc2,if_neg hr];rfl)
      clear hr
      go_wp2
      go_roundg (gk-1)
      case measure=>omega
      case rel=>exact⟨i+1,by omega,by simp,by rw[HJ.out],hu⟩
    ·obtain rfl:i=N:=by omega
     have i1:¬((i:Int)<(i:Int)):=by omega
     have e1:((Zx (Za q') i:Int)==(ps.length:Int))=true:=by rw[HPL.out];simp
     go_wp2_with fail
     refine(L.out _).mono ?_
     rintro e w9 ⟨rfl,hu9⟩
     go_wp2
     go_ret
     exact⟨rfl,(HUall.out.trans hu.out).trans hu9⟩
end Go.Proofs.Ytfcefnpnomlgbaa
