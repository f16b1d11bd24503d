/- Components of a digraph: the law of one way. -/
import Derived.Test.YtfcefnpnomlgbaaMbp
namespace Go.Proofs.Ytfcefnpnomlgbaa
set_option linter.unusedSimpArgs false
set_option linter.unusedVariables false
open Go.RowKit
def Zhe (w:World) (N:Nat) (q:List HArc) (e:Ending) (w':World):Prop:=∃A c,e= .returned (.slice A N c)∧Ints (fun i=>w.heap.size≤i) w' A (Zr N q)∧Upd No w w'
theorem ZfK {w:World} {G:Nat→Prop} {p:Option Addr} {N K:Nat} {q:List HArc} (hD:DG w G p N K q) (hN:N≤4096) (mask:Int):Calls Try.prog 13 #[.pointer p,.int .i64 mask] w (Zhe w N (ofA mask q)):=by
 refine(ZcB hD hN mask).mono ?_
 rintro e w' ⟨A,c,rfl,ho,hu⟩
 have hI:=Ints.of_owned ho
 rw[ZcR]at ho ⊢
 exact⟨A,c,rfl,hI,hu⟩
theorem Zac {F:Nat→Prop} {w:World} {A:Option Addr} {N:Nat} {q:List HArc} (h:Ints F w A (Zr N q)) {i:Nat} (hi:i<N):∃ad,A=some ad∧w.cell? (ad.add i)=some (.int .i64 (Za q i:Int)):=by
 obtain⟨ad,hA,_,_,h0⟩:=h.at_ (k:=i) (by rw[ZcR];exact hi)
 refine⟨ad,hA,?_⟩
 rw[h0]
 simp[Zr]
theorem Zf3 {w:World} {G:Nat→Prop} {p:Option Addr} {N K:Nat} {q:List HArc} (h:DG w G p N K q):q.length≤K:=by
 rcases h with ⟨rfl,rfl,rfl⟩|⟨g,rfl,out,inn,ob,ib,oh,ih,base,h1,h2,h3⟩
 ·exact Nat.zero_le _
 ·exact h2.fq
set_option maxRecDepth 100000 in
set_option maxHeartbeats 8000000 in
theorem Zfe (F:Nat→Prop) (w:World) (n:Int) (A:Option Addr) (c:Nat) (l:List HArc) (mask:Int) (m:HArc) (hL:ArcsL F w A l) (hll:l.length≤9223372036854775807) (L:Hid ZeV):
  Calls Try.prog 4 #[.int .i64 n,.slice A l.length c,.int .i64 mask,.agg m.cells.toArray] w fun e w'=>e= .returned (.bool true)∧Upd No w w':=by
 unfold HArc.cells
 by_cases h0:n<0
 ·clear hL
  go_enter Try.func4,Try.ntmps4
  go_wp2_with fail
  refine(L.out _).mono ?_
  rintro e w1 ⟨rfl,hu1⟩
  have HU1:=Lib.hid (((Upd.refl No w).alloc _).trans hu1)
  clear hu1
  go_wp2
  go_ret
  exact⟨rfl,HU1.out⟩
 by_cases h1:40<n
 ·clear hL
  go_enter Try.func4,Try.ntmps4
  go_wp2_with fail
  refine(L.out _).mono ?_
  rintro e w1 ⟨rfl,hu1⟩
  have HU1:=Lib.hid (((Upd.refl No w).alloc _).trans hu1)
  clear hu1
  go_wp2
  go_ret
  exact⟨rfl,HU1.out⟩
 by_cases h2:(120:Int)<(l.length:Int)
 ·clear hL
  go_enter Try.func4,Try.ntmps4
  go_wp2_with fail
  refine(L.out _).mono ?_
  rintro e w1 ⟨rfl,hu1⟩
  have HU1:=Lib.hid (((Upd.refl No w).alloc _).trans hu1)
  clear hu1
  go_wp2
  go_ret
  exact⟨rfl,HU1.out⟩
 obtain⟨N,rfl⟩:∃N:Nat,n=(N:Int):=⟨n.toNat,by omega⟩
 have hN:ZD (N:Int)=N:=by unfold ZD;omega
 have hN40:N≤40:=by omega
 have hl120:l.length≤120:=by omega
 have HL:=Lib.hid hL
 have HMade:=Lib.hid (fun(W:World) (u:Upd No w W)=>hN▸ZfF F W (N:Int) A c l (hL.upd u (fun _ _=>id)) (by omega))
 obtain⟨wa,hwa⟩:∃wa,w.alloc (.cells #[.int .i64 m.f,.int .i64 m.t,.int .i64 m.kind,.int .i64 m.label] 28)=wa:=⟨_,rfl⟩
 have ua:Upd No w wa:=by rw[←hwa];exact(Upd.refl No w).alloc _
 have BM:=Lib.hid (show Blk wa w.heap.size 28 [.int .i64 m.f,.int .i64 m.t,.int .i64 m.kind,.int .i64 m.label] by rw[←hwa];exact Blk.new w _ _)
 have UA:=Lib.hid ua
 clear hL hN ua
 go_enter Try.func4,Try.ntmps4
 go_wp2_with fail
 refine(L.out wa).mono ?_
 rintro e w1 ⟨rfl,hu1⟩
 have HU1:=Lib.hid (UA.out.trans hu1)
 have BM1:=Lib.hid (BM.out.upd hu1 id)
 clear hu1
 go_wp2_with fail
 refine(HMade.out w1 HU1.out).mono ?_
 rintro e w2 ⟨g,rfl,hd⟩
 have HU2:=Lib.hid (HU1.out.trans hd.upd)
 have BM2:=Lib.hid (BM1.out.upd hd.upd id)
 obtain⟨G,hdg,_,hG1⟩:=hd
 obtain⟨Q,hQ⟩:∃Q,ZaI N [] l=Q:=⟨_,rfl⟩
 rw[hQ]at hdg
 have HDG:=Lib.hid hdg
 have HOLD:=Lib.hid (hdg.old (by simp))
 have HGB:=Lib.hid (show¬G w.heap.size from fun e=>by have:=hG1 _ e;have:=BM1.out.lt;omega)
 have HG1:=Lib.hid hG1
 have HQL:=Lib.hid (Zf3 hdg)
 have HE:=Lib.hid (Zau hdg)
 have HEM:=Lib.hid (Zat (Zau hdg) mask)
 have hN4:N≤4096:=by omega
 have HCL:=Lib.hid (ZfK hdg hN4 mask)
 obtain⟨q',hq'⟩:∃q',ofA mask Q=q':=⟨_,rfl⟩
 rw[hq']at HCL HEM
 have HQM:=Lib.hid hq'
 clear hdg hG1 hQ hq' HMade UA BM BM1
 go_wp2_with fail
 refine(HCL.out).mono ?_
 rintro e w3 ⟨A3,c3,rfl,hI3,hu3⟩
 have HI3:=Lib.hid hI3
 have HU3:=Lib.hid hu3
 clear hI3 hu3 HCL
 go_wp2
 go_loopg [48] N (fun gk i wr=>∃k:Nat,k+gk=N∧i= .int .i64 (k:Int)∧Hid (Upd No w3 wr))
 case atStart=>exact⟨0,by omega,rfl,Lib.hid (Upd.refl _ _)⟩
 case round=>
  obtain⟨k,hgk,rfl,hu⟩:=hrel
  by_cases hk:k<N
  ·have b0:(0:Int)≤(k:Int):=Int.natCast_nonneg _
   have b1:(k:Int)<(N:Int):=by omega
   have kw:IntKind.i64.wrap ((k:Int)+1)=(k:Int)+1:=IntWalk.i64_in _ (by omega)
   have hle:=Zas q' k
   obtain⟨ad,rfl,c0⟩:=Zac (HI3.out.upd hu.out (fun _ _=>id)) hk
   obtain⟨ad2,e2,c2⟩:=Zac (HI3.out.upd hu.out (fun _ _=>id)) (i:=Za q' k) (by omega)
   cases e2
   rw[Za2 HEM.out]at c2
   obtain⟨x,hx⟩:∃x,Za q' k=x:=⟨_,rfl⟩
   rw[hx]at c0 c2 hle
   have x0:decide ((x:Int)<0)=false:=decide_eq_false (by omega)
   have x1:decide ((k:Int)<(x:Int))=false:=decide_eq_false (by omega)
   have x2:((x:Int) != (x:Int))=false:=by simp
   have x3:(0:Int)≤(x:Int):=Int.natCast_nonneg _
   have x4:(x:Int)<(N:Int):=by omega
   clear hx
   go_wp2
   go_roundg (gk-1)
   case measure=>omega
   case rel=>exact⟨k+1,by omega,by simp,hu⟩
  ·obtain rfl:N=k:=by omega
   have b1:¬((N:Int)<(N:Int)):=by omega
   have HAr:=Lib.hid (HQM.out▸Zgq (HDG.out.no (HU3.out.trans hu.out)) mask)
   go_wp2_with fail
   refine(HAr.out).mono ?_
   rintro e w5 ⟨A5,c5,rfl,ho5,hu5⟩
   have HA5:=Lib.hid (ZeS ho5)
   have HU5:=Lib.hid (HU3.out.trans (hu.out.trans hu5))
   have HI5:=Lib.hid (HI3.out.upd (hu.out.trans hu5) (fun _ _=>id))
   have hlq:q'.length≤120:=by rw[←HQM.out];exact Nat.le_trans (List.length_filter_le _ _) (Nat.le_trans HQL.out hl120)
   clear ho5 hu5 hu HAr
   go_wp2
   go_loopg [73] q'.length (fun gk i wr=>∃k:Nat,k+gk=q'.length∧i= .int .i64 (k:Int)∧Hid (Upd No w5 wr))
   case atStart=>exact⟨0,by omega,rfl,Lib.hid (Upd.refl _ _)⟩
   case round=>
    obtain⟨k,hgk,rfl,hu⟩:=hrel
    by_cases hk:k<q'.length
    ·obtain⟨ax,rfl,q0,q1,q2,q3⟩:=(HA5.out.upd hu.out (fun _ _=>id)).at_ hk
     obtain⟨x,hx⟩:∃x,q'[k]=x:=⟨_,rfl⟩
     rw[hx]at q0 q1 q2 q3
     have hxm:x∈q':=by rw[←hx];exact List.getElem_mem hk
     have hxe:=HEM.out x hxm
     rcases x with ⟨xf',xt',xk,xl⟩
     obtain⟨xf,rfl⟩:∃xf:Nat,xf'=(xf:Int):=⟨xf'.toNat,by have:=hxe.1;simp only at this;omega⟩
     obtain⟨xt,rfl⟩:∃xt:Nat,xt'=(xt:Int):=⟨xt'.toNat,by have:=hxe.2.2.1;simp only at this;omega⟩
     have hf:xf<N:=by have:=hxe.2.1;simp only at this;omega
     have ht:xt<N:=by have:=hxe.2.2.2;simp only at this;omega
     have HNW:=Lib.hid (fun hne=>Zgg HEM.out hxm hne)
     have HXM:=Lib.hid hxm
     simp only at q0 q1 q2 q3
     clear hx hxe hxm
     have b1:(0:Int)≤(k:Int):=Int.natCast_nonneg _
     have b2:(k:Int)<(q'.length:Int):=by omega
     obtain⟨wb,hwb⟩:∃wb,wr.alloc (.cells #[.int .i64 (xf:Int),.int .i64 (xt:Int),.int .i64 xk,.int .i64 xl] 28)=wb:=⟨_,rfl⟩
     have ub:Upd No wr wb:=by rw[←hwb];exact(Upd.refl No wr).alloc _
     have HBO:=Lib.hid (show Blk wb wr.heap.size 28 [.int .i64 (xf:Int),.int .i64 (xt:Int),.int .i64 xk,.int .i64 xl] by rw[←hwb];exact Blk.new wr _ _)
     have HUB:=Lib.hid (hu.out.trans ub)
     have g0:=HBO.out.cell 0
     have g1:=HBO.out.cell 1
     simp only[List.getElem?_cons_zero,List.getElem?_cons_succ]at g0 g1
     obtain⟨ad,rfl,cf⟩:=Zac (HI5.out.upd HUB.out (fun _ _=>id)) hf
     obtain⟨ad2,e2,ct⟩:=Zac (HI5.out.upd HUB.out (fun _ _=>id)) ht
     cases e2
     have f0:(0:Int)≤(xf:Int):=Int.natCast_nonneg _
     have f1:(xf:Int)<(N:Int):=by omega
     have t0:(0:Int)≤(xt:Int):=Int.natCast_nonneg _
     have t1:(xt:Int)<(N:Int):=by omega
     clear ub hu
     by_cases he:Za q' xf=Za q' xt
     ·have e1:((Za q' xf:Int)==(Za q' xt:Int))=true:=by rw[he];simp
      clear he
      go_wp2
      go_quiet (fail)
      go_wp2
      go_roundg (gk-1)
      case measure=>omega
      case rel=>exact⟨k+1,by omega,by go_num,Lib.hid (HUB.out.drewN _)⟩
     ·have e1:((Za q' xf:Int)==(Za q' xt:Int))=false:=by rw[beq_eq_false_iff_ne];omega
      have HNF:=Lib.hid (show¬Rch (nxN q') xt xf from by have:=HNW.out;exact this (by simpa using he))
      clear he
      go_wp2
      go_quiet (fail)
      generalize hwz:wb.drewN nq=wz at*
      have uz:Upd No wb wz:=by rw[←hwz];exact(Upd.refl No wb).drewN nq
      have HUZ:=Lib.hid (HUB.out.trans uz)
      have HBZ:=Lib.hid (HBO.out.upd uz id)
      have g0:=HBZ.out.cell 0
      have g1:=HBZ.out.cell 1
      simp only[List.getElem?_cons_zero,List.getElem?_cons_succ]at g0 g1
      have HDZ:=Lib.hid (fun(W:World) (u:Upd No wz W) (i:Int)=>HQM.out▸Zdz (HDG.out.no (HU5.out.trans (HUZ.out.trans u))) i mask)
      obtain⟨wy,hwy⟩:∃wy,wz.alloc (.cells #[.int .i64 (xt:Int)] 3)=wy:=⟨_,rfl⟩
      have uy:Upd No wz wy:=by rw[←hwy];exact(Upd.refl No wz).alloc _
      have HOY:=Lib.hid (show wy.ownsRow wz.heap.size 3 1 (.slice (some ⟨wz.heap.size,0,none⟩) 1 1) 1 [.int .i64 (xt:Int)] by
       rw[←hwy]
       exact Zo (Blk.new wz _ _) (Nat.le_refl _) (Nat.le_refl _) rfl rfl (by decide) rfl)
      have HUY:=Lib.hid uy
      have HSE:=Lib.hid (show SeenR q' N xt [(xt:Int)] from fun y hy=>by
       rw[List.mem_singleton.1 hy]
       exact⟨by omega,by omega,by simpa using Rch.refl xt⟩)
      clear hwz uz uy cf ct HUB HBO
      go_wp2
      generalize hm0:gk=m0 at*
      go_loopg [15,16] (N+1) (fun gk s i wv=>∃(j:Nat) (A6:Option Addr) (c6:Nat) (xs:List Int),j+gk=N+1∧i= .int .i64 (j:Int)∧s= .slice A6 xs.length c6∧Hid (SeenR q' N xt xs)∧Hid (xs.length≤1+j*4096)∧Hid (wv.ownsRow wz.heap.size 3 1 (.slice A6 xs.length c6) xs.length (xs.map (Value.int .i64)))∧Hid (Upd No wz wv))
      case atStart=>exact⟨0,some ⟨wz.heap.size,0,none⟩,1,[(xt:Int)],by omega,rfl,rfl,HSE,Lib.hid (by simp),HOY,HUY⟩
      case round=>
       clear HSE HOY HUY
       obtain⟨j,A6,c6,xs,hgj,rfl,rfl,hse,hxl,hown,hv⟩:=hrel
       obtain⟨wv,hwv⟩:∃wv,wv=wr:=⟨_,rfl⟩
       subst hwv
       have j0:(0:Int)≤(j:Int):=Int.natCast_nonneg _
       have jw:IntKind.i64.wrap ((j:Int)+1)=(j:Int)+1:=IntWalk.i64_in _ (by omega)
       have hj41:j≤41:=by omega
       have hxx:xs.length≤1+41*4096:=Nat.le_trans hxl.out (Nat.add_le_add_left (Nat.mul_le_mul_right _ hj41) _)
       by_cases hjx:j<xs.length
       ·have d1:decide ((j:Int)<(xs.length:Int))=true:=decide_eq_true (by omega)
        have d2:(j:Int)<(xs.length:Int):=by omega
        by_cases hjn:j≤N
        ·have d3:(j:Int)≤(N:Int):=by omega
         have d4:decide ((j:Int)≤(N:Int))=true:=decide_eq_true d3
         obtain⟨ay,hay,_,_,y0⟩:=(Ints.of_own hown.out).at_ hjx
         obtain⟨y,hy⟩:∃y,xs[j]=y:=⟨_,rfl⟩
         rw[hy]at y0
         have HYM:=Lib.hid (show y∈xs by rw[←hy];exact List.getElem_mem hjx)
         subst hay
         have HNx:=Lib.hid (HDZ.out wv hv.out y)
         have hnl:=Zcu HEM.out y
         obtain⟨ns,hns⟩:∃ns,nxA y false q'=ns:=⟨_,rfl⟩
         rw[hns]at HNx hnl
         have HNS:=Lib.hid hns
         clear hy hns
         go_wp2_with fail
         refine(HNx.out).mono ?_
         rintro e w8 ⟨B8,d8,rfl,ho8,hu8⟩
         have HI8:=Lib.hid (Ints.of_owned ho8)
         have HO8:=Lib.hid (Zb hown.out hu8 (fun _ _=>id))
         have HU8:=Lib.hid (hv.out.trans hu8)
         have HSE:=Lib.hid (show SeenR q' N xt xs from hse.out)
         clear ho8 hu8 HNx y0
         go_wp2
         generalize hm1:gk=m1 at*
         obtain⟨T,hT⟩:∃T:Nat→Prop,T=fun i=>wz.heap.size≤i∧i<wv.heap.size:=⟨_,rfl⟩
         have HT:=Lib.hid (fun i=>(show T i↔wz.heap.size≤i∧i<wv.heap.size by rw[hT]))
         have HOT:=Lib.hid (show∀i,Own (.slice (some ay) 0 0) i→T i∨w8.heap.size≤i from fun i e=>Or.inl ((HT.out i).2 (hown.out.lt i (Zct e))))
         clear hT
         go_loopg [15,110] ns.length (fun gk s i wt=>∃(p:Nat) (A7:Option Addr) (c7:Nat) (ys:List Int),p+gk=ns.length∧i= .int .i64 (p:Int)∧s= .slice A7 ys.length c7∧Hid (SeenR q' N xt ys)∧Hid (ys.length≤xs.length+p)∧Hid (wt.ownsRow wz.heap.size 3 1 (.slice A7 ys.length c7) ys.length (ys.map (Value.int .i64)))∧Hid (Upd T w8 wt)∧Hid (∀i,Own (.slice A7 0 0) i→T i∨w8.heap.size≤i))
         case atStart=>exact⟨0,_,c6,xs,by omega,rfl,rfl,HSE,Lib.hid (by omega),HO8,Lib.hid (Upd.refl _ _),HOT⟩
         case round=>
          clear HO8 HOT
          obtain⟨p,A7,c7,ys,hgp,rfl,rfl,hsy,hyl,howy,ht8,hot⟩:=hrel
          by_cases hp:p<ns.length
          ·obtain⟨av,hav,_,_,v0⟩:=(HI8.out.upd ht8.out (fun i (hi:wv.heap.size≤i) e=>by have:=(HT.out i).1 e;omega)).at_ hp
           obtain⟨v,hvv⟩:∃v,ns[p]=v:=⟨_,rfl⟩
           rw[hvv]at v0
           have hvm:v∈nxA y false q':=by rw[HNS.out,←hvv];exact List.getElem_mem hp
           have HVR:=Lib.hid (HSE.out.more HEM.out HYM.out hvm)
           have p0:(0:Int)≤(p:Int):=Int.natCast_nonneg _
           have p1:(p:Int)<(ns.length:Int):=by omega
           have pw:IntKind.i64.wrap ((p:Int)+1)=(p:Int)+1:=IntWalk.i64_in _ (by omega)
           have hne:(v==(xf:Int))=false:=by
            rw[beq_eq_false_iff_ne]
            intro e
            refine HNF.out ?_
            have:=HVR.out.2.2
            rw[e]at this
            simpa using this
           have b9:=(HBZ.out.upd HU8.out id).upd ht8.out (fun e=>by have:=(HT.out _).1 e;have:=HBZ.out.lt;omega)
           have g0:=b9.cell 0
           simp only[List.getElem?_cons_zero]at g0
           have hyy:ys.length≤1+41*4096+4096:=by have:=hyl.out;omega
           subst hav
           clear hvv hvm b9
           cases hin:decide (v∈ys)
           ·have HIN:=Lib.hid (Zge wr _ A7 c7 ys v (Ints.of_own howy.out) (by omega) hin)
            clear hin
            go_wp2_with fail
            refine(HIN.out).mono ?_
            rintro e wq ⟨rfl,rfl⟩
            go_wp2_with (at_builtin;refine Za4 rfl rfl ZaJ (v:= .slice A7 ys.length c7) (n:=ys.length) (xs:=ys.map (Value.int .i64)) (cells:=[.int .i64 v]) (by rfl) rfl howy.out rfl rfl (by omega) (by omega) (Nat.le_trans HU8.out.size ht8.out.size) ?_;intro g9 c9 w9 hown9 hu9 hg9 hlt9;have HO9:=Lib.hid hown9;have HU9:=Lib.hid hu9;have HG9:=Lib.hid hg9;clear hown9 hu9 hg9 hlt9)
            go_roundg (gk-1)
            case measure=>omega
            case rel=>exact⟨p+1,some ⟨g9,0,none⟩,c9,ys++[v],by omega,by simp,by simp,Lib.hid (hsy.out.app HVR.out),Lib.hid (by simp;have:=hyl.out;omega),Lib.hid (by simpa using HO9.out),Lib.hid (ht8.out.then_ HU9.out (fun i e=>hot.out i (Zct e))),Lib.hid (fun i e=>by
              have e1:=ZfY e
              rcases HG9.out with h|h
              ·exact hot.out i (Zct (e1▸h))
              ·right;have:=ht8.out.size;omega)⟩
           ·have HIN:=Lib.hid (Zge wr _ A7 c7 ys v (Ints.of_own howy.out) (by omega) hin)
            clear hin
            go_wp2_with fail
            refine(HIN.out).mono ?_
            rintro e wq ⟨rfl,rfl⟩
            go_wp2
            go_roundg (gk-1)
            case measure=>omega
            case rel=>exact⟨p+1,A7,c7,ys,by omega,by simp,rfl,hsy,Lib.hid (by have:=hyl.out;omega),howy,ht8,hot⟩
          ·obtain rfl:ns.length=p:=by omega
           have p1:¬((ns.length:Int)<(ns.length:Int)):=by omega
           go_wp2
           go_roundg (m1-1)
           case measure=>omega
           case rel=>exact⟨j+1,A7,c7,ys,by omega,by simp,rfl,hsy,Lib.hid (by have:=hyl.out;have:=hxl.out;rw[Nat.succ_mul];omega),howy,Lib.hid (HU8.out.then_ ht8.out (fun i e=>Or.inr ((HT.out i).1 e).1))⟩
        ·have d4:decide ((j:Int)≤(N:Int))=false:=decide_eq_false (by omega)
         go_wp2
         go_roundg (m0-1)
         case measure=>omega
         case rel=>exact⟨k+1,by omega,by go_num,Lib.hid (HUZ.out.trans hv.out)⟩
       ·have d1:decide ((j:Int)<(xs.length:Int))=false:=decide_eq_false (by omega)
        go_wp2
        go_roundg (m0-1)
        case measure=>omega
        case rel=>exact⟨k+1,by omega,by go_num,Lib.hid (HUZ.out.trans hv.out)⟩
    ·obtain rfl:q'.length=k:=by omega
     have b1:¬((q'.length:Int)<(q'.length:Int)):=by omega
     have HDW:=Lib.hid (HDG.out.no (HU5.out.trans hu.out))
     have HAd:=Lib.hid (ZfG HDW.out (by omega) m)
     have HIW:=Lib.hid (HI5.out.upd hu.out (fun _ _=>id))
     have bm:=BM2.out.upd (HU5.out.trans hu.out) id
     have e0:=bm.cell 0
     have e1:=bm.cell 1
     have e2:=bm.cell 2
     have e3:=bm.cell 3
     simp only[List.getElem?_cons_zero,List.getElem?_cons_succ]at e0 e1 e2 e3
     have HUW:=Lib.hid (HU5.out.trans hu.out)
     clear bm hu
     go_wp2_with fail
     refine(HAd.out).mono ?_
     rintro e w8 ⟨G8,rfl,hd8,hu8,hg8⟩
     have HI9:=Lib.hid (HIW.out.upd hu8 (fun i hi e=>by have:=HOLD.out i e;omega))
     have HUX:=Lib.hid (show Upd No w w8 from(HU2.out.trans HUW.out).then_ hu8 (fun i e=>Or.inr (by have:=HG1.out i e;have:=HU1.out.size;omega)))
     have HSM:=Lib.hid (fun i=>Zfl HEM.out (Zat (Zau hd8) mask) (fun a ha=>mem_ofA.2 ⟨Zfv (mem_ofA.1 (HQM.out▸ha)).1,(mem_ofA.1 (HQM.out▸ha)).2⟩) i)
     have HCL:=Lib.hid (ZfK hd8 hN4 mask)
     obtain⟨q2,hq2⟩:∃q2,ofA mask (Zav N Q m)=q2:=⟨_,rfl⟩
     rw[hq2]at HCL HSM
     clear hd8 hu8 hg8 hq2 HAd HDW HIW e0 e1 e2 e3
     go_wp2_with fail
     refine(HCL.out).mono ?_
     rintro e w9 ⟨Ab,cb,rfl,hIb,hub⟩
     have HIb:=Lib.hid hIb
     have HIc:=Lib.hid (HI9.out.upd hub (fun _ _=>id))
     have HUb:=Lib.hid (HUX.out.trans hub)
     clear hIb hub HCL
     go_wp2
     go_loopg [136] N (fun gk i wr=>∃k:Nat,k+gk=N∧i= .int .i64 (k:Int)∧Hid (Upd No w9 wr))
     case atStart=>exact⟨0,by omega,rfl,Lib.hid (Upd.refl _ _)⟩
     case round=>
      obtain⟨k,hgk,rfl,hu⟩:=hrel
      by_cases hk:k<N
      ·have b0:(0:Int)≤(k:Int):=Int.natCast_nonneg _
       have b1:(k:Int)<(N:Int):=by omega
       have kw:IntKind.i64.wrap ((k:Int)+1)=(k:Int)+1:=IntWalk.i64_in _ (by omega)
       have hle:=Zas q' k
       obtain⟨a1,z1,c1⟩:=Zac (HIc.out.upd hu.out (fun _ _=>id)) hk
       obtain⟨a2,z2,c2⟩:=Zac (HIb.out.upd hu.out (fun _ _=>id)) hk
       obtain⟨a3,z3,c3⟩:=Zac (HIb.out.upd hu.out (fun _ _=>id)) (i:=Za q' k) (by omega)
       rw[z2]at z3
       obtain rfl:a2=a3:=Option.some.inj z3
       rw[←HSM.out k]at c3
       obtain⟨x,hx⟩:∃x,Za q' k=x:=⟨_,rfl⟩
       obtain⟨y,hy⟩:∃y,Za q2 k=y:=⟨_,rfl⟩
       rw[hx]at c1 c3 hle
       rw[hy]at c2 c3
       have C1:∀W,Upd No wr W→W.cell? (a1.add k)=some (.int .i64 (x:Int)):=fun W u=>u.keepNo c1
       have C2:∀W,Upd No wr W→W.cell? (a2.add k)=some (.int .i64 (y:Int)):=fun W u=>u.keepNo c2
       have C3:∀W,Upd No wr W→W.cell? (a2.add x)=some (.int .i64 (y:Int)):=fun W u=>u.keepNo c3
       have x3:(0:Int)≤(x:Int):=Int.natCast_nonneg _
       have x4:(x:Int)<(N:Int):=by omega
       have x5:k<N:=hk
       have x6:x<N:=by omega
       have hzz:Upd No wr wr:=Upd.refl _ _
       have x7:((N:Int) != (N:Int))=false:=by simp
       have x8:((y:Int) != (y:Int))=false:=by simp
       have Z1:=Lib.hid z1
       have Z2:=Lib.hid z2
       subst z1 z2
       clear hx hy c1 c2 c3 z3
       go_wp2
       refine wp_region_noPanic ?_
       refine wp_region_held_drew (S:=(fun W'=>Upd No wr W')) (by kernel_rfl) ?_ (fun hHeld=> ?_)
       ·exact hzz.drew
       refine wpK 0 rfl ?_
       refine wpK 1 rfl ?_
       refine wpK 2 rfl ?_
       refine wpK 3 rfl ?_
       refine wpK 4 rfl ?_
       refine wpK 5 rfl ?_
       refine wpK 6 rfl ?_
       refine wpK 7 rfl ?_
       refine wpK 8 rfl ?_
       refine wpK 9 rfl ?_
       refine wpK 10 rfl ?_
       refine wpK 11 rfl ?_
       refine wpK 12 rfl ?_
       refine wpK 13 rfl ?_
       refine wpK 14 rfl ?_
       refine wpK 15 rfl ?_
       refine wpK 16 rfl ?_
       refine wpK 17 rfl ?_
       refine wpD (NoPanic.normal ?_)
       have HU9:=Lib.hid (hu.out.trans hHeld)
       clear hHeld
       go_wp2
       go_roundg (gk-1)
       case measure=>omega
       case rel=>exact⟨k+1,by omega,by simp,HU9⟩
      ·obtain rfl:N=k:=by omega
       have b1:¬((N:Int)<(N:Int)):=by omega
       have HUU:=Lib.hid (HUb.out.trans hu.out)
       clear hu
       go_wp2
       go_ret
       exact⟨rfl,HUU.out⟩
end Go.Proofs.Ytfcefnpnomlgbaa
