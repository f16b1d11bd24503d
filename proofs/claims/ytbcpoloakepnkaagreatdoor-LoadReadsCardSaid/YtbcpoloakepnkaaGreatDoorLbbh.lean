/- Scripts out of numbers: limits are right; a text is cut into lines. -/
import Derived.Test.YtbcpoloakepnkaaGreatDoorLbbg
namespace Go.Proofs.YtbcpoloakepnkaaGreatDoor
set_option linter.unusedVariables false
set_option linter.unusedSimpArgs false
section
open Go.RowKit
theorem Zd9 {W:World} {b:Nat} {ty:TypeId} {c0 c1 c2 c3 c4 c5 c6 c7 c8 c9 c10 c11 c12 c13 c14:Value} (h:Blk W b ty [c0,c1,c2,c3,c4,c5,c6,c7,c8,c9,c10,c11,c12,c13,c14]) (v0 v1 v2 v3 v4 v5 v6 v7 v8 v9 v10 v11 v12 v13 v14:Value):
  Blk (((((((((((((((W.setCell ⟨b,0,none⟩ v0).setCell ⟨b,1,none⟩ v1).setCell ⟨b,2,none⟩ v2).setCell ⟨b,3,none⟩ v3).setCell ⟨b,4,none⟩ v4).setCell ⟨b,5,none⟩ v5).setCell ⟨b,6,none⟩ v6).setCell ⟨b,7,none⟩ v7).setCell ⟨b,8,none⟩ v8).setCell ⟨b,9,none⟩ v9).setCell ⟨b,10,none⟩ v10).setCell ⟨b,11,none⟩ v11).setCell ⟨b,12,none⟩ v12).setCell ⟨b,13,none⟩ v13).setCell ⟨b,14,none⟩ v14) b ty [v0,v1,v2,v3,v4,v5,v6,v7,v8,v9,v10,v11,v12,v13,v14]∧Upd (One b) W (((((((((((((((W.setCell ⟨b,0,none⟩ v0).setCell ⟨b,1,none⟩ v1).setCell ⟨b,2,none⟩ v2).setCell ⟨b,3,none⟩ v3).setCell ⟨b,4,none⟩ v4).setCell ⟨b,5,none⟩ v5).setCell ⟨b,6,none⟩ v6).setCell ⟨b,7,none⟩ v7).setCell ⟨b,8,none⟩ v8).setCell ⟨b,9,none⟩ v9).setCell ⟨b,10,none⟩ v10).setCell ⟨b,11,none⟩ v11).setCell ⟨b,12,none⟩ v12).setCell ⟨b,13,none⟩ v13).setCell ⟨b,14,none⟩ v14):=by
 refine⟨?_,((((((((((((((((Upd.refl _ _).setOne 0 _).setOne 1 _).setOne 2 _).setOne 3 _).setOne 4 _).setOne 5 _).setOne 6 _).setOne 7 _).setOne 8 _).setOne 9 _).setOne 10 _).setOne 11 _).setOne 12 _).setOne 13 _).setOne 14 _)⟩;have:=(((((((((((((((h.set_ 0 v0).set_ 1 v1).set_ 2 v2).set_ 3 v3).set_ 4 v4).set_ 5 v5).set_ 6 v6).set_ 7 v7).set_ 8 v8).set_ 9 v9).set_ 10 v10).set_ 11 v11).set_ 12 v12).set_ 13 v13).set_ 14 v14)
 simpa only[List.set_cons_zero,List.set_cons_succ]using this
def ZcL (a b c d e:Int):List Value:=[.int .i64 a,.int .i64 1,.int .i64 4096,.int .i64 b,.int .i64 1,.int .i64 4095,.int .i64 c,.int .i64 1,.int .i64 1048576,.int .i64 d,.int .i64 0,.int .i64 4096,.int .i64 e,.int .i64 64,.int .i64 65536]
set_option maxRecDepth 100000 in
set_option maxHeartbeats 4000000 in
theorem Zdb (w:World) (a b c d e:Int):Calls Tryz.prog 32 #[.agg #[.int .i64 a,.int .i64 b,.int .i64 c,.int .i64 d,.int .i64 e]] w fun en w'=>en= .returned (.agg (ZcL a b c d e).toArray)∧Upd No w w':=by
 obtain⟨z,hz⟩:∃z,w.heap.size=z:=⟨_,rfl⟩;obtain⟨wb,hwb⟩:∃wb,w.alloc (.cells #[.int .i64 a,.int .i64 b,.int .i64 c,.int .i64 d,.int .i64 e] 26)=wb:=⟨_,rfl⟩;have ub:Upd No w wb:=by rw[←hwb];exact(Upd.refl No w).alloc _
 have bb:Blk wb z 26 [.int .i64 a,.int .i64 b,.int .i64 c,.int .i64 d,.int .i64 e]:=by rw[←hwb,←hz];exact Blk.new w _ _
 obtain⟨y,hy⟩:∃y,wb.heap.size=y:=⟨_,rfl⟩;obtain⟨wc,hwc⟩:∃wc,wb.alloc (.cells #[.int .i64 0,.int .i64 0,.int .i64 0,.int .i64 0,.int .i64 0,.int .i64 0,.int .i64 0,.int .i64 0,.int .i64 0,.int .i64 0,.int .i64 0,.int .i64 0,.int .i64 0,.int .i64 0,.int .i64 0] 72)=wc:=⟨_,rfl⟩;have uc:Upd No wb wc:=by rw[←hwc];exact(Upd.refl No wb).alloc _
 have bc:=bb.upd uc id;have UB:=Qh (ub.trans uc);have a0:=bc.cell 0;have a1:=bc.cell 1;have a2:=bc.cell 2;have a3:=bc.cell 3;have a4:=bc.cell 4;simp only[Qz,Qs]at a0 a1 a2 a3 a4;have by_:Blk wc y 72 [.int .i64 0,.int .i64 0,.int .i64 0,.int .i64 0,.int .i64 0,.int .i64 0,.int .i64 0,.int .i64 0,.int .i64 0,.int .i64 0,.int .i64 0,.int .i64 0,.int .i64 0,.int .i64 0,.int .i64 0]:=by rw[←hwc,←hy];exact Blk.new wb _ _
 have k0:=by_.cell 0;have f0:=by_.free 0;have k1:=by_.cell 1;have f1:=by_.free 1;have k2:=by_.cell 2;have f2:=by_.free 2;have k3:=by_.cell 3;have f3:=by_.free 3;have k4:=by_.cell 4;have f4:=by_.free 4;have k5:=by_.cell 5;have f5:=by_.free 5;have k6:=by_.cell 6;have f6:=by_.free 6;have k7:=by_.cell 7;have f7:=by_.free 7;have k8:=by_.cell 8;have f8:=by_.free 8;have k9:=by_.cell 9;have f9:=by_.free 9;have k10:=by_.cell 10;have f10:=by_.free 10;have k11:=by_.cell 11;have f11:=by_.free 11;have k12:=by_.cell 12;have f12:=by_.free 12;have k13:=by_.cell 13;have f13:=by_.free 13;have k14:=by_.cell 14;have f14:=by_.free 14;simp only[Qz,Qs]at k0 k1 k2 k3 k4 k5 k6 k7 k8 k9 k10 k11 k12 k13 k14;have BY:=Qh by_;have HB:=Qh (show ZcL a b c d e=[.int .i64 a,.int .i64 1,.int .i64 4096,.int .i64 b,.int .i64 1,.int .i64 4095,.int .i64 c,.int .i64 1,.int .i64 1048576,.int .i64 d,.int .i64 0,.int .i64 4096,.int .i64 e,.int .i64 64,.int .i64 65536] from rfl);have hyw:w.heap.size≤y:=by rw[←hy];exact ub.size
 clear ub bb uc bc by_
 go_enter Tryz.func32,Tryz.ntmps32
 go_wp2;obtain⟨bs,us⟩:=Zd9 BY.out (.int .i64 a) (.int .i64 1) (.int .i64 4096) (.int .i64 b) (.int .i64 1) (.int .i64 4095) (.int .i64 c) (.int .i64 1) (.int .i64 1048576) (.int .i64 d) (.int .i64 0) (.int .i64 4096) (.int .i64 e) (.int .i64 64) (.int .i64 65536)
 generalize (((((((((((((((wc.setCell ⟨y,0,none⟩ (.int .i64 a)).setCell ⟨y,1,none⟩ (.int .i64 1)).setCell ⟨y,2,none⟩ (.int .i64 4096)).setCell ⟨y,3,none⟩ (.int .i64 b)).setCell ⟨y,4,none⟩ (.int .i64 1)).setCell ⟨y,5,none⟩ (.int .i64 4095)).setCell ⟨y,6,none⟩ (.int .i64 c)).setCell ⟨y,7,none⟩ (.int .i64 1)).setCell ⟨y,8,none⟩ (.int .i64 1048576)).setCell ⟨y,9,none⟩ (.int .i64 d)).setCell ⟨y,10,none⟩ (.int .i64 0)).setCell ⟨y,11,none⟩ (.int .i64 4096)).setCell ⟨y,12,none⟩ (.int .i64 e)).setCell ⟨y,13,none⟩ (.int .i64 64)).setCell ⟨y,14,none⟩ (.int .i64 65536))=wz at*
 have q0:=bs.cell 0;have q1:=bs.cell 1;have q2:=bs.cell 2;have q3:=bs.cell 3;have q4:=bs.cell 4;have q5:=bs.cell 5;have q6:=bs.cell 6;have q7:=bs.cell 7;have q8:=bs.cell 8;have q9:=bs.cell 9;have q10:=bs.cell 10;have q11:=bs.cell 11;have q12:=bs.cell 12;have q13:=bs.cell 13;have q14:=bs.cell 14;simp only[Qz,Qs]at q0 q1 q2 q3 q4 q5 q6 q7 q8 q9 q10 q11 q12 q13 q14;have hu:=UB.out.then_ us fun i e=> .inr (by unfold One at e;omega)
 refine bodyPost_ret (v:= .agg #[.int .i64 a,.int .i64 1,.int .i64 4096,.int .i64 b,.int .i64 1,.int .i64 4095,.int .i64 c,.int .i64 1,.int .i64 1048576,.int .i64 d,.int .i64 0,.int .i64 4096,.int .i64 e,.int .i64 64,.int .i64 65536]) (by simp[results,Tryz.results32,go_sem,q0,q1,q2,q3,q4,q5,q6,q7,q8,q9,q10,q11,q12,q13,q14]) rfl ⟨by rw[HB.out],hu⟩
set_option maxRecDepth 100000 in
set_option maxHeartbeats 4000000 in
theorem ZdX (w:World) (a b c d e:Int) (ha:1≤a∧a≤4096) (hb:1≤b∧b≤4095) (hc:1≤c∧c≤1048576) (hd:0≤d∧d≤4096) (he:64≤e∧e≤65536):
  Calls Tryz.prog 13 #[.agg #[.int .i64 a,.int .i64 b,.int .i64 c,.int .i64 d,.int .i64 e]] w fun en w'=>en= .returned (.bool true)∧Upd No w w':=by
 obtain⟨z,hz⟩:∃z,w.heap.size=z:=⟨_,rfl⟩;obtain⟨wb,hwb⟩:∃wb,w.alloc (.cells #[.int .i64 a,.int .i64 b,.int .i64 c,.int .i64 d,.int .i64 e] 26)=wb:=⟨_,rfl⟩;have ub:Upd No w wb:=by rw[←hwb];exact(Upd.refl No w).alloc _
 have bb:Blk wb z 26 [.int .i64 a,.int .i64 b,.int .i64 c,.int .i64 d,.int .i64 e]:=by rw[←hwb,←hz];exact Blk.new w _ _
 have a0:=bb.cell 0;have a1:=bb.cell 1;have a2:=bb.cell 2;have a3:=bb.cell 3;have a4:=bb.cell 4;simp only[Qz,Qs]at a0 a1 a2 a3 a4;have CB:=Qh (Zdb wb a b c d e);unfold ZcL at CB;have UB:=Qh ub;have HA:=Qh ha;have HBb:=Qh hb;have HC:=Qh hc;have HD:=Qh hd;have HE:=Qh he;clear ub bb ha hb hc hd he
 go_enter Tryz.func13,Tryz.ntmps13
 go_wp2_with fail
 refine(CB.out).mono ?_;rintro e w1 ⟨rfl,hu1⟩;have HU1:=Qh (UB.out.trans hu1);clear hu1;go_wp2
 go_loopg [7] 5 (fun gk i wr=>∃j:Nat,j+gk=5∧i= .int .i64 (j:Int)∧Hid (Upd No w wr))
 case atStart=>exact⟨0,by omega,rfl,HU1⟩
 case round=>
  obtain⟨j,hgk,rfl,hu⟩:=hrel;have hj:j≤5:=by omega
  obtain⟨y,hy⟩:∃y,wr.heap.size=y:=⟨_,rfl⟩;obtain⟨w2,hw2⟩:∃w2,wr.alloc (.cells #[.int .i64 0,.int .i64 0,.int .i64 0] 71)=w2:=⟨_,rfl⟩;have u2:Upd No w w2:=by rw[←hw2];exact hu.out.alloc _
  have b2:Blk w2 y 71 [.int .i64 0,.int .i64 0,.int .i64 0]:=by rw[←hw2,←hy];exact Blk.new wr _ _
  have k0:=b2.cell 0;have k1:=b2.cell 1;have k2:=b2.cell 2;have f0:=b2.free 0;have f1:=b2.free 1;have f2:=b2.free 2;simp only[Qz,Qs]at k0 k1 k2;have B2:=Qh b2;have U2:=Qh u2;have HYW:=Qh (show w.heap.size≤y by rw[←hy];exact hu.out.size);clear b2 u2;obtain rfl|rfl|rfl|rfl|rfl|rfl:j=0∨j=1∨j=2∨j=3∨j=4∨j=5:=by omega
  ·have e1:decide (a<1)=false:=decide_eq_false (by have:=HA.out;omega);have e2:decide (4096<a)=false:=decide_eq_false (by have:=HA.out;omega);have hix:∀W:World,(Instr.index 72 (.agg #[.int .i64 a,.int .i64 1,.int .i64 4096,.int .i64 b,.int .i64 1,.int .i64 4095,.int .i64 c,.int .i64 1,.int .i64 1048576,.int .i64 d,.int .i64 0,.int .i64 4096,.int .i64 e,.int .i64 64,.int .i64 65536]) (.int .i64 0)).run Tryz.prog W= .ok (.agg #[.int .i64 a,.int .i64 1,.int .i64 4096]) W:=fun W=>by kernel_rfl
   go_upto_region 4 with fail
   have b3:=((B2.out.set_ 0 (.int .i64 a)).set_ 1 (.int .i64 1)).set_ 2 (.int .i64 4096);have u3:=(((Upd.refl (One y) w2).setOne 0 (.int .i64 a)).setOne 1 (.int .i64 1)).setOne 2 (.int .i64 4096);simp only[List.set_cons_zero,List.set_cons_succ]at b3;have HU3:=Qh (U2.out.then_ u3 fun i e=> .inr (by have:=HYW.out;unfold One at e;omega))
   generalize ((w2.setCell ⟨y,0,none⟩ (.int .i64 a)).setCell ⟨y,1,none⟩ (.int .i64 1)).setCell ⟨y,2,none⟩ (.int .i64 4096)=w3 at*
   have g0:=b3.cell 0;have g1:=b3.cell 1;have g2:=b3.cell 2;simp only[Qz,Qs]at g0 g1 g2;clear b3 u3 k0 k1 k2 f0 f1 f2 hw2;go_wp2
   go_roundg (gk-1)
   case measure=>omega
   case rel=>exact⟨0+1,by omega,rfl,HU3⟩
  ·have e1:decide (b<1)=false:=decide_eq_false (by have:=HBb.out;omega);have e2:decide (4095<b)=false:=decide_eq_false (by have:=HBb.out;omega);have hix:∀W:World,(Instr.index 72 (.agg #[.int .i64 a,.int .i64 1,.int .i64 4096,.int .i64 b,.int .i64 1,.int .i64 4095,.int .i64 c,.int .i64 1,.int .i64 1048576,.int .i64 d,.int .i64 0,.int .i64 4096,.int .i64 e,.int .i64 64,.int .i64 65536]) (.int .i64 1)).run Tryz.prog W= .ok (.agg #[.int .i64 b,.int .i64 1,.int .i64 4095]) W:=fun W=>by kernel_rfl
   go_upto_region 4 with fail
   have b3:=((B2.out.set_ 0 (.int .i64 b)).set_ 1 (.int .i64 1)).set_ 2 (.int .i64 4095);have u3:=(((Upd.refl (One y) w2).setOne 0 (.int .i64 b)).setOne 1 (.int .i64 1)).setOne 2 (.int .i64 4095);simp only[List.set_cons_zero,List.set_cons_succ]at b3;have HU3:=Qh (U2.out.then_ u3 fun i e=> .inr (by have:=HYW.out;unfold One at e;omega))
   generalize ((w2.setCell ⟨y,0,none⟩ (.int .i64 b)).setCell ⟨y,1,none⟩ (.int .i64 1)).setCell ⟨y,2,none⟩ (.int .i64 4095)=w3 at*
   have g0:=b3.cell 0;have g1:=b3.cell 1;have g2:=b3.cell 2;simp only[Qz,Qs]at g0 g1 g2;clear b3 u3 k0 k1 k2 f0 f1 f2 hw2;go_wp2
   go_roundg (gk-1)
   case measure=>omega
   case rel=>exact⟨1+1,by omega,rfl,HU3⟩
  ·have e1:decide (c<1)=false:=decide_eq_false (by have:=HC.out;omega);have e2:decide (1048576<c)=false:=decide_eq_false (by have:=HC.out;omega);have hix:∀W:World,(Instr.index 72 (.agg #[.int .i64 a,.int .i64 1,.int .i64 4096,.int .i64 b,.int .i64 1,.int .i64 4095,.int .i64 c,.int .i64 1,.int .i64 1048576,.int .i64 d,.int .i64 0,.int .i64 4096,.int .i64 e,.int .i64 64,.int .i64 65536]) (.int .i64 2)).run Tryz.prog W= .ok (.agg #[.int .i64 c,.int .i64 1,.int .i64 1048576]) W:=fun W=>by kernel_rfl
   go_upto_region 4 with fail
   have b3:=((B2.out.set_ 0 (.int .i64 c)).set_ 1 (.int .i64 1)).set_ 2 (.int .i64 1048576);have u3:=(((Upd.refl (One y) w2).setOne 0 (.int .i64 c)).setOne 1 (.int .i64 1)).setOne 2 (.int .i64 1048576);simp only[List.set_cons_zero,List.set_cons_succ]at b3;have HU3:=Qh (U2.out.then_ u3 fun i e=> .inr (by have:=HYW.out;unfold One at e;omega))
   generalize ((w2.setCell ⟨y,0,none⟩ (.int .i64 c)).setCell ⟨y,1,none⟩ (.int .i64 1)).setCell ⟨y,2,none⟩ (.int .i64 1048576)=w3 at*
   have g0:=b3.cell 0;have g1:=b3.cell 1;have g2:=b3.cell 2;simp only[Qz,Qs]at g0 g1 g2;clear b3 u3 k0 k1 k2 f0 f1 f2 hw2;go_wp2
   go_roundg (gk-1)
   case measure=>omega
   case rel=>exact⟨2+1,by omega,rfl,HU3⟩
  ·have e1:decide (d<0)=false:=decide_eq_false (by have:=HD.out;omega);have e2:decide (4096<d)=false:=decide_eq_false (by have:=HD.out;omega);have hix:∀W:World,(Instr.index 72 (.agg #[.int .i64 a,.int .i64 1,.int .i64 4096,.int .i64 b,.int .i64 1,.int .i64 4095,.int .i64 c,.int .i64 1,.int .i64 1048576,.int .i64 d,.int .i64 0,.int .i64 4096,.int .i64 e,.int .i64 64,.int .i64 65536]) (.int .i64 3)).run Tryz.prog W= .ok (.agg #[.int .i64 d,.int .i64 0,.int .i64 4096]) W:=fun W=>by kernel_rfl
   go_upto_region 4 with fail
   have b3:=((B2.out.set_ 0 (.int .i64 d)).set_ 1 (.int .i64 0)).set_ 2 (.int .i64 4096);have u3:=(((Upd.refl (One y) w2).setOne 0 (.int .i64 d)).setOne 1 (.int .i64 0)).setOne 2 (.int .i64 4096);simp only[List.set_cons_zero,List.set_cons_succ]at b3;have HU3:=Qh (U2.out.then_ u3 fun i e=> .inr (by have:=HYW.out;unfold One at e;omega))
   generalize ((w2.setCell ⟨y,0,none⟩ (.int .i64 d)).setCell ⟨y,1,none⟩ (.int .i64 0)).setCell ⟨y,2,none⟩ (.int .i64 4096)=w3 at*
   have g0:=b3.cell 0;have g1:=b3.cell 1;have g2:=b3.cell 2;simp only[Qz,Qs]at g0 g1 g2;clear b3 u3 k0 k1 k2 f0 f1 f2 hw2;go_wp2
   go_roundg (gk-1)
   case measure=>omega
   case rel=>exact⟨3+1,by omega,rfl,HU3⟩
  ·have e1:decide (e<64)=false:=decide_eq_false (by have:=HE.out;omega);have e2:decide (65536<e)=false:=decide_eq_false (by have:=HE.out;omega);have hix:∀W:World,(Instr.index 72 (.agg #[.int .i64 a,.int .i64 1,.int .i64 4096,.int .i64 b,.int .i64 1,.int .i64 4095,.int .i64 c,.int .i64 1,.int .i64 1048576,.int .i64 d,.int .i64 0,.int .i64 4096,.int .i64 e,.int .i64 64,.int .i64 65536]) (.int .i64 4)).run Tryz.prog W= .ok (.agg #[.int .i64 e,.int .i64 64,.int .i64 65536]) W:=fun W=>by kernel_rfl
   go_upto_region 4 with fail
   have b3:=((B2.out.set_ 0 (.int .i64 e)).set_ 1 (.int .i64 64)).set_ 2 (.int .i64 65536);have u3:=(((Upd.refl (One y) w2).setOne 0 (.int .i64 e)).setOne 1 (.int .i64 64)).setOne 2 (.int .i64 65536);simp only[List.set_cons_zero,List.set_cons_succ]at b3;have HU3:=Qh (U2.out.then_ u3 fun i e=> .inr (by have:=HYW.out;unfold One at e;omega))
   generalize ((w2.setCell ⟨y,0,none⟩ (.int .i64 e)).setCell ⟨y,1,none⟩ (.int .i64 64)).setCell ⟨y,2,none⟩ (.int .i64 65536)=w3 at*
   have g0:=b3.cell 0;have g1:=b3.cell 1;have g2:=b3.cell 2;simp only[Qz,Qs]at g0 g1 g2;clear b3 u3 k0 k1 k2 f0 f1 f2 hw2;go_wp2
   go_roundg (gk-1)
   case measure=>omega
   case rel=>exact⟨4+1,by omega,rfl,HU3⟩
  ·go_wp2
   go_ret
   exact⟨rfl,hu.out⟩
end
end Go.Proofs.YtbcpoloakepnkaaGreatDoor
