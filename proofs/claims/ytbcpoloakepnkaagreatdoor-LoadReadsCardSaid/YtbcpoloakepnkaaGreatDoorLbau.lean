/- Scripts out of numbers: commands are right. -/
import Derived.Test.YtbcpoloakepnkaaGreatDoorLbat
namespace Go.Proofs.YtbcpoloakepnkaaGreatDoor
set_option linter.unusedVariables false
set_option linter.unusedSimpArgs false
section
open Go.RowKit
def Zf (n:Int):Prop:=0≤n∧n≤2147483647
set_option maxRecDepth 100000 in
set_option maxHeartbeats 8000000 in
theorem Zak (F:Nat→Prop) (w:World) (k i:Int) (d:Bool) (A:Option Addr) (c:Nat) (xs:List HOp) (a b p q:Int) (hx:HOps F w A xs) (hl:xs.length≤4095) (hok:∀o∈xs,opB o=true) (ni:Zf i) (na:Zf a) (nb:Zf b) (np:Zf p)
  {sw:ByteArray} {la mo:Int} (HS:∀W:World,Calls Tryz.prog 30 #[.int .i64 k] W fun e w'=>e= .returned (.agg #[.string sw,.int .i64 la,.int .i64 mo])∧Upd No W w') (hsw:sw.toList.isEmpty=false)
  (HU:∀W:World,Calls Tryz.prog 50 #[.agg #[.int .i64 k,.int .i64 i,.bool d,.slice A xs.length c,.int .i64 0,.slice none 0 0,.int .i64 a,.int .i64 b,.int .i64 p,.int .i64 q]] W fun e w'=>e= .returned (.agg #[.int .i64 k,.int .i64 i,.bool d,.slice A xs.length c,.int .i64 0,.slice none 0 0,.int .i64 a,.int .i64 b,.int .i64 p,.int .i64 q])∧Upd No W w')
  (H9:(k==9)=false∨((k==9)=true∧(Zk q).toList.isEmpty=false)):
  Calls Tryz.prog 34 #[.agg #[.int .i64 k,.int .i64 i,.bool d,.slice A xs.length c,.int .i64 0,.slice none 0 0,.int .i64 a,.int .i64 b,.int .i64 p,.int .i64 q]] w fun e w'=>e= .returned (.bool true)∧Upd No w w':=by
 obtain⟨z,hz⟩:∃z,w.heap.size=z:=⟨_,rfl⟩;obtain⟨wb,hwb⟩:∃wb,w.alloc (.cells #[.int .i64 k,.int .i64 i,.bool d,.slice A xs.length c,.int .i64 0,.slice none 0 0,.int .i64 a,.int .i64 b,.int .i64 p,.int .i64 q] 36)=wb:=⟨_,rfl⟩;have ub:Upd No w wb:=by rw[←hwb];exact(Upd.refl No w).alloc _
 have bb:Blk wb z 36 [.int .i64 k,.int .i64 i,.bool d,.slice A xs.length c,.int .i64 0,.slice none 0 0,.int .i64 a,.int .i64 b,.int .i64 p,.int .i64 q]:=by rw[←hwb,←hz];exact Blk.new w _ _
 have a0:∀W,Upd No wb W→W.cell? ⟨z,0,none⟩=some (.int .i64 k):=fun W u=>(bb.upd u id).cell 0
 have a1:∀W,Upd No wb W→W.cell? ⟨z,1,none⟩=some (.int .i64 i):=fun W u=>(bb.upd u id).cell 1
 have a2:∀W,Upd No wb W→W.cell? ⟨z,2,none⟩=some (.bool d):=fun W u=>(bb.upd u id).cell 2
 have a3:∀W,Upd No wb W→W.cell? ⟨z,3,none⟩=some (.slice A xs.length c):=fun W u=>(bb.upd u id).cell 3
 have a4:∀W,Upd No wb W→W.cell? ⟨z,4,none⟩=some (.int .i64 0):=fun W u=>(bb.upd u id).cell 4
 have a5:∀W,Upd No wb W→W.cell? ⟨z,5,none⟩=some (.slice none 0 0):=fun W u=>(bb.upd u id).cell 5
 have a6:∀W,Upd No wb W→W.cell? ⟨z,6,none⟩=some (.int .i64 a):=fun W u=>(bb.upd u id).cell 6
 have a7:∀W,Upd No wb W→W.cell? ⟨z,7,none⟩=some (.int .i64 b):=fun W u=>(bb.upd u id).cell 7
 have a8:∀W,Upd No wb W→W.cell? ⟨z,8,none⟩=some (.int .i64 p):=fun W u=>(bb.upd u id).cell 8
 have a9:∀W,Upd No wb W→W.cell? ⟨z,9,none⟩=some (.int .i64 q):=fun W u=>(bb.upd u id).cell 9
 have hhz:Upd No wb wb:=Upd.refl _ _;have CS:=Qh HS;have CU:=Qh HU;have CA:=Qh (fun W (u:Upd No wb W)=>ZdH F W k i d A c xs a b p q (HOps.upd hx (ub.trans u) (fun _ _=>id)) (by omega));have HO:=Qh (fun W (u:Upd No wb W)=>HOps.upd hx (ub.trans u) (fun _ _=>id));have HK:=Qh hok;have NI:=Qh ni;have NA:=Qh na;have NB:=Qh nb;have NP:=Qh np;have N0:=Qh (show Zf 0 from⟨by decide,by decide⟩);have UB:=Qh ub;have HSW:=hsw;have hfd:∀W:World,(Instr.field 66 (.agg #[.string sw,.int .i64 la,.int .i64 mo]) 0).run Tryz.prog W= .ok (.string sw) W:=fun W=>by kernel_rfl
 have el:decide (4095<(xs.length:Int))=false:=decide_eq_false (by omega);clear ub bb hx hok ni na nb np HS HU
 go_enter Tryz.func34,Tryz.ntmps34
 go_upto_region 1 with fail
 go_cut [37] (fun s wx=>s= .bool false∧Upd No wb wx)
 case first=>
  rcases H9 with h9|⟨h9,hc9⟩
  ·have hhy:=hhz;refine wp_region_noPanic ?_;refine wp_region_held_drew (S:=(fun W'=>Upd No wb W')) (by kernel_rfl) ?_ (fun hHeld=> ?_)
   ·(first|exact hhz.drew|exact hHeld.trans hu4)
   refine wpK 0 rfl ?_;refine wpK 1 rfl ?_;refine wpR [2] ?_;refine wpC rfl (fun K hK=> ?_) AllReadyH.nil;go_simp
   (first
  |(go_at_call 30;refine(CS.out _).mono ?_;rintro e w4 ⟨rfl,hu4⟩))
   try (go_wp2_with fail)
   refine hK.out _ _ ?_ (fun hHeld=> ?_)
   ·(first|exact hhz.drew|exact hHeld.trans hu4)
   clear hK K
   try simp only[Act.put,sT,sS,sZ]
   refine wpK 3 rfl ?_;refine wpK 4 rfl ?_;refine wpK 5 rfl ?_;refine wpK 6 rfl ?_;refine wpK 7 rfl ?_;refine wpR [8] ?_;refine wpC rfl (fun K hK=> ?_) AllReadyH.nil;go_simp
   (first
  |(go_at_call 50;refine(CU.out _).mono ?_;rintro e w4 ⟨rfl,hu4⟩))
   try (go_wp2_with fail)
   refine hK.out _ _ ?_ (fun hHeld=> ?_)
   ·(first|exact hhz.drew|exact hHeld.trans hu4)
   clear hK K
   try simp only[Act.put,sT,sS,sZ]
   refine wpR [9] ?_;refine wpC rfl (fun K hK=> ?_) AllReadyH.nil;go_simp
   (first
  |(go_at_call 49;refine(CA.out _ hHeld).mono ?_;rintro e w4 ⟨rfl,hu4⟩))
   try (go_wp2_with fail)
   refine hK.out _ _ ?_ (fun hHeld=> ?_)
   ·(first|exact hhz.drew|exact hHeld.trans hu4)
   clear hK K
   try simp only[Act.put,sT,sS,sZ]
   refine wpK 10 rfl ?_;refine wpK 11 rfl ?_;refine wpK 12 rfl ?_;refine wpK 13 rfl ?_;refine wpK 14 rfl ?_;refine wpK 15 rfl ?_;refine wpK 16 rfl ?_;refine wpK 17 rfl ?_;refine wpK 18 rfl ?_;refine wpK 19 rfl ?_;refine wpK 20 rfl ?_;refine wpK 21 rfl ?_;refine wpK 22 rfl ?_;refine wpK 23 rfl ?_;refine wpN 24 rfl ?_;refine wpN 25 rfl ?_;refine wpR [26] ?_;refine wpC rfl (fun K hK=> ?_) AllReadyH.nil;go_simp;refine hK.out _ _ ?_ (fun hHeld=> ?_)
   ·exact hHeld
   clear hK K
   try simp only[Act.put,sT,sS,sZ]
   refine wpN 27 rfl ?_;refine wpK 28 rfl ?_;refine wpK 29 rfl ?_;refine wpD (NoPanic.normal ?_)
   go_wp2_with fail
   go_meet
   exact⟨rfl,hHeld⟩
  ·have hhy:=hhz;refine wp_region_noPanic ?_;refine wp_region_held_drew (S:=(fun W'=>Upd No wb W')) (by kernel_rfl) ?_ (fun hHeld=> ?_)
   ·(first|exact hhz.drew|exact hHeld|exact hHeld.trans hu4)
   refine wpK 0 rfl ?_;refine wpK 1 rfl ?_;refine wpR [2] ?_;refine wpC rfl (fun K hK=> ?_) AllReadyH.nil;go_simp
   (first
  |(go_at_call 30;refine(CS.out _).mono ?_;rintro e w4 ⟨rfl,hu4⟩))
   try (go_wp2_with fail)
   refine hK.out _ _ ?_ (fun hHeld=> ?_)
   ·(first|exact hhz.drew|exact hHeld|exact hHeld.trans hu4)
   clear hK K
   try simp only[Act.put,sT,sS,sZ]
   refine wpK 3 rfl ?_;refine wpK 4 rfl ?_;refine wpK 5 rfl ?_;refine wpK 6 rfl ?_;refine wpK 7 rfl ?_;refine wpR [8] ?_;refine wpC rfl (fun K hK=> ?_) AllReadyH.nil;go_simp
   (first
  |(go_at_call 50;refine(CU.out _).mono ?_;rintro e w4 ⟨rfl,hu4⟩))
   try (go_wp2_with fail)
   refine hK.out _ _ ?_ (fun hHeld=> ?_)
   ·(first|exact hhz.drew|exact hHeld|exact hHeld.trans hu4)
   clear hK K
   try simp only[Act.put,sT,sS,sZ]
   refine wpR [9] ?_;refine wpC rfl (fun K hK=> ?_) AllReadyH.nil;go_simp
   (first
  |(go_at_call 49;refine(CA.out _ hHeld).mono ?_;rintro e w4 ⟨rfl,hu4⟩))
   try (go_wp2_with fail)
   refine hK.out _ _ ?_ (fun hHeld=> ?_)
   ·(first|exact hhz.drew|exact hHeld|exact hHeld.trans hu4)
   clear hK K
   try simp only[Act.put,sT,sS,sZ]
   refine wpK 10 rfl ?_;refine wpK 11 rfl ?_;refine wpK 12 rfl ?_;refine wpK 13 rfl ?_;refine wpK 14 rfl ?_;refine wpK 15 rfl ?_;refine wpK 16 rfl ?_;refine wpK 17 rfl ?_;refine wpK 18 rfl ?_;refine wpK 19 rfl ?_;refine wpK 20 rfl ?_;refine wpK 21 rfl ?_;refine wpK 22 rfl ?_;refine wpK 23 rfl ?_;refine wpK 24 rfl ?_;refine wpK 25 rfl ?_;refine wpR [26] ?_;refine wpC rfl (fun K hK=> ?_) AllReadyH.nil;go_simp
   (first
  |(go_at_call 38;refine(Zb2 _ q).mono ?_;rintro e w4 ⟨rfl,rfl⟩))
   try (go_wp2_with fail)
   refine hK.out _ _ ?_ (fun hHeld=> ?_)
   ·(first|exact hhz.drew|exact hHeld|exact hHeld.trans hu4)
   clear hK K
   try simp only[Act.put,sT,sS,sZ]
   refine wpK 27 rfl ?_;refine wpK 28 rfl ?_;refine wpK 29 rfl ?_;refine wpD (NoPanic.normal ?_)
   go_wp2_with fail
   go_meet
   exact⟨rfl,hHeld⟩
 case rest=>
  obtain⟨rfl,hu1⟩:=hcut;obtain⟨w1,hw1⟩:∃w1,w1=wc:=⟨_,rfl⟩;subst hw1;obtain⟨y,hy⟩:∃y,w1.heap.size=y:=⟨_,rfl⟩;obtain⟨w2,hw2⟩:∃w2,w1.alloc (.cells #[.int .i64 i,.int .i64 b,.int .i64 0,.int .i64 a,.int .i64 p] 3)=w2:=⟨_,rfl⟩;have hu2:Upd No wb w2:=by rw[←hw2];exact hu1.alloc _
  have by2:Blk w2 y 3 [.int .i64 i,.int .i64 b,.int .i64 0,.int .i64 a,.int .i64 p]:=by rw[←hw2,←hy];exact Blk.new w1 _ _
  have HY:=Qh (fun W (u:Upd No w2 W)=>by2.upd u id);clear CS CU CA HSW H9;go_wp2;clear hw2 hy by2 hu1
  go_loopg [57] 6 (fun gk s gw=>∃j:Nat,j+gk=6∧j≤5∧s= .int .i64 (j:Int)∧Upd No w2 gw)
  case atStart=>exact⟨0,by omega,by omega,rfl,Upd.refl _ _⟩
  case round=>
   obtain⟨j,hgk,hj5,rfl,hu⟩:=hrel;have hq:=(HY.out _ hu).cell j;obtain rfl|rfl|rfl|rfl|rfl|rfl:j=0∨j=1∨j=2∨j=3∨j=4∨j=5:=by omega
   ·simp only[Qz,Qs]at hq;have e1:decide (i<0)=false:=decide_eq_false (by have:=NI.out;unfold Zf at this;omega);have e2:decide (2147483647<i)=false:=decide_eq_false (by have:=NI.out;unfold Zf at this;omega);go_wp2
    go_roundg (gk-1)
    case measure=>omega
    case rel=>exact⟨0+1,by omega,by omega,rfl,hu⟩
   ·simp only[Qz,Qs]at hq;have e1:decide (b<0)=false:=decide_eq_false (by have:=NB.out;unfold Zf at this;omega);have e2:decide (2147483647<b)=false:=decide_eq_false (by have:=NB.out;unfold Zf at this;omega);go_wp2
    go_roundg (gk-1)
    case measure=>omega
    case rel=>exact⟨1+1,by omega,by omega,rfl,hu⟩
   ·simp only[Qz,Qs]at hq;have e1:decide (0<0)=false:=decide_eq_false (by have:=N0.out;unfold Zf at this;omega);have e2:decide (2147483647<0)=false:=decide_eq_false (by have:=N0.out;unfold Zf at this;omega);go_wp2
    go_roundg (gk-1)
    case measure=>omega
    case rel=>exact⟨2+1,by omega,by omega,rfl,hu⟩
   ·simp only[Qz,Qs]at hq;have e1:decide (a<0)=false:=decide_eq_false (by have:=NA.out;unfold Zf at this;omega);have e2:decide (2147483647<a)=false:=decide_eq_false (by have:=NA.out;unfold Zf at this;omega);go_wp2
    go_roundg (gk-1)
    case measure=>omega
    case rel=>exact⟨3+1,by omega,by omega,rfl,hu⟩
   ·simp only[Qz,Qs]at hq;have e1:decide (p<0)=false:=decide_eq_false (by have:=NP.out;unfold Zf at this;omega);have e2:decide (2147483647<p)=false:=decide_eq_false (by have:=NP.out;unfold Zf at this;omega);go_wp2
    go_roundg (gk-1)
    case measure=>omega
    case rel=>exact⟨4+1,by omega,by omega,rfl,hu⟩
   ·have hwr:Upd No wb wr:=hu2.trans hu;go_wp2;clear hq HY NI NA NB NP N0 a0 a1 a2 a3 a4 a5 a6 a7 a8 a9 hgk hj5;obtain⟨v1,hv1⟩:∃v1,v1=wr:=⟨_,rfl⟩;subst hv1;have hv:=hu;clear hu
    generalize gk=m0 at*
    go_loopg [72] xs.length (fun gk s gw=>∃j:Nat,j+gk=xs.length∧s= .int .i64 (j:Int)∧Upd No wb gw)
    case atStart=>exact⟨0,by omega,rfl,hwr⟩
    case round=>
     clear hwr hv;obtain⟨j,hgk,rfl,hu⟩:=hrel
     by_cases hlt:j<xs.length
     ·obtain⟨ad,hAd,q0,q1,q2,q3⟩:=(HO.out _ hu).at_ hlt;obtain⟨x,hx⟩:∃x,xs[j]=x:=⟨_,rfl⟩;simp only[hx]at q0 q1 q2 q3;subst hAd;have OX:=Qh (show ZcG (opB x)=0 by rw[HK.out x (hx▸List.getElem_mem hlt)];rfl);have b1:(0:Int)≤(j:Int):=Qn _;have b2:(j:Int)<(xs.length:Int):=by omega
      obtain⟨zx,hzx⟩:∃zx,wr.heap.size=zx:=⟨_,rfl⟩;obtain⟨wx,hwx⟩:∃wx,wr.alloc (.cells #[.bool x.read,.int .i64 x.key,.int .i64 x.tx,.int .i64 x.nth] 82)=wx:=⟨_,rfl⟩;have ux:Upd No wr wx:=by rw[←hwx];exact(Upd.refl No wr).alloc _
      have bx:Blk wx zx 82 [.bool x.read,.int .i64 x.key,.int .i64 x.tx,.int .i64 x.nth]:=by rw[←hwx,←hzx];exact Blk.new wr _ _
      have x0:=bx.cell 0;have x1:=bx.cell 1;have x2:=bx.cell 2;have x3:=bx.cell 3;simp only[Qz,Qs]at x0 x1 x2 x3;clear hx
      go_wp2_with fail
      refine(Zat _ x).mono ?_;rintro e w9 ⟨he,hu9⟩;rw[OX.out]at he;subst he;go_wp2
      go_roundg (gk-1)
      case measure=>omega
      case rel=>exact⟨j+1,by omega,by go_num,(hu.trans ux).trans hu9⟩
     ·obtain rfl:j=xs.length:=by omega
      go_wp2
      go_ret
      exact⟨rfl,UB.out.trans hu⟩
end
end Go.Proofs.YtbcpoloakepnkaaGreatDoor
