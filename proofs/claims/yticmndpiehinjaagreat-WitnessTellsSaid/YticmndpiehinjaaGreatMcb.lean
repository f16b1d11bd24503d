/- Witnesses: the law that they are what the document says: the walk. -/
import Derived.Test.YticmndpiehinjaaGreatMbx
import Derived.Test.YticmndpiehinjaaGreatMca
namespace Go.Proofs.YticmndpiehinjaaGreat
set_option linter.unusedVariables false
set_option linter.unusedSimpArgs false
section
open Go.RowKit
section
variable {w:World} {A B:Option Addr} {c d n m:Nat} {ap a0 a1 a2 a3 a4 bp b0 b1 b2 b3 b4:Int} {aw bw:List Edge} {v:Bool}
theorem Zik (ha:EdX w A aw) (hb:EdX w B bw) (la:aw.length≤100000) (lb:bw.length≤100000) (hn:aw.length=n) (hm:bw.length=m)
  (hv:decide ((⟨ap,aw,⟨a0,a1,⟨a2,a3,a4⟩⟩⟩:HWit)=⟨bp,bw,⟨b0,b1,⟨b2,b3,b4⟩⟩⟩)=v):
  Calls Tryz.prog 8 #[.agg #[.int .i64 ap,.slice A n c,.int .i64 a0,.int .i64 a1,.int .i64 a2,.int .i64 a3,.int .i64 a4],.agg #[.int .i64 bp,.slice B m d,.int .i64 b0,.int .i64 b1,.int .i64 b2,.int .i64 b3,.int .i64 b4]] w fun e w'=>e= .returned (.bool v)∧Upd No w w':=by
 subst hn hm hv;exact Zqu w A B c d ⟨ap,aw,⟨a0,a1,⟨a2,a3,a4⟩⟩⟩ ⟨bp,bw,⟨b0,b1,⟨b2,b3,b4⟩⟩⟩ ha hb la lb
theorem Zqq (ha:EdX w A aw) (hb:EdX w B bw) (la:aw.length≤100000) (lb:bw.length≤100000) (hn:aw.length=n) (hm:bw.length=m)
  (hv:ZdO ⟨ap,aw,⟨a0,a1,⟨a2,a3,a4⟩⟩⟩ ⟨bp,bw,⟨b0,b1,⟨b2,b3,b4⟩⟩⟩=v):
  Calls Tryz.prog 12 #[.agg #[.int .i64 ap,.slice A n c,.int .i64 a0,.int .i64 a1,.int .i64 a2,.int .i64 a3,.int .i64 a4],.agg #[.int .i64 bp,.slice B m d,.int .i64 b0,.int .i64 b1,.int .i64 b2,.int .i64 b3,.int .i64 b4]] w fun e w'=>e= .returned (.bool v)∧Upd No w w':=by
 subst hn hm hv;exact Zqw w A B c d ⟨ap,aw,⟨a0,a1,⟨a2,a3,a4⟩⟩⟩ ⟨bp,bw,⟨b0,b1,⟨b2,b3,b4⟩⟩⟩ ha hb la lb
end
theorem ZiH (l:List Edge) (p:Int) (hl:l.length≤2000):(Zbn l p).1.walk.length≤2000:=by
 unfold Zbn
 split
 ·simp[Zeh]
 ·split
  ·simp[Zeh]
  ·rcases Zq0 l (Zbr p) (Zce p) (by omega)with h|h
   ·simp only;omega
   ·simp only;rw[h];simp
theorem Zne (l:List HBad) (p:Int):(ZcX l p).1.walk.length≤2000:=by
 cases l<;>simp[ZcX,Zeh]
theorem ZqB (h:Hist) (p:Int) (hl:Z0 h=true):(ofX h p).1.walk.length≤2000:=by
 unfold ofX
 split
 ·exact Zne _ _
 ·exact ZiH _ _ (by unfold Zal;rw[List.length_map];have:=Zf2 hl;omega)
set_option maxRecDepth 100000 in
set_option maxHeartbeats 8000000 in
theorem Zqj (F:Nat→Prop) (w:World) (txs:List HTx) (ords:List HOrd) (A:Option Addr) (c:Nat) (B:Option Addr) (d:Nat) (p:Int) (E:Option Addr) (ec:Nat) (l:List Edge)
  (ap a0 a1 a2 a3 a4 bp b0 b1 b2 b3 b4:Int) (X Y:Option Addr) (xc yc:Nat) (aw bw:List Edge) (H:Hist.lies F w ⟨txs,ords,A,c,B,d⟩) (HE:EdX w E l) (HA:EdX w X aw) (HB:EdX w Y bw) (hll:l.length≤4398046511103) (hla:aw.length≤4398046511103) (hlb:bw.length≤4398046511103)
  (L:Hid (∀w,Calls Tryz.prog 5 #[] w fun e w'=>e= .returned (.bool true)∧Upd No w w')):
  Calls Tryz.prog 3 #[.agg #[.slice A txs.length c,.slice B ords.length d],.int .i64 p,.slice E l.length ec,.agg #[.int .i64 ap,.slice X aw.length xc,.int .i64 a0,.int .i64 a1,.int .i64 a2,.int .i64 a3,.int .i64 a4],
   .agg #[.int .i64 bp,.slice Y bw.length yc,.int .i64 b0,.int .i64 b1,.int .i64 b2,.int .i64 b3,.int .i64 b4]] w fun e w'=>e= .returned (.bool true)∧Upd No w w':=by
 obtain⟨z,hz⟩:∃z,w.heap.size=z:=⟨_,rfl⟩;obtain⟨w1,hw1⟩:∃w1,w.alloc (.cells #[.slice A txs.length c,.slice B ords.length d] 25)=w1:=⟨_,rfl⟩;have s1:w1.heap.size=z+1:=by rw[←hw1,←hz];simp
 obtain⟨w2,hw2⟩:∃w2,w1.alloc (.cells #[.int .i64 ap,.slice X aw.length xc,.int .i64 a0,.int .i64 a1,.int .i64 a2,.int .i64 a3,.int .i64 a4] 32)=w2:=⟨_,rfl⟩;have s2:w2.heap.size=z+1+1:=by rw[←hw2,←s1];simp
 obtain⟨wb,hwb⟩:∃wb,w2.alloc (.cells #[.int .i64 bp,.slice Y bw.length yc,.int .i64 b0,.int .i64 b1,.int .i64 b2,.int .i64 b3,.int .i64 b4] 32)=wb:=⟨_,rfl⟩;have u1:Upd No w w1:=by rw[←hw1];exact(Upd.refl No w).alloc _
 have u2:Upd No w1 w2:=by rw[←hw2];exact(Upd.refl No w1).alloc _
 have u3:Upd No w2 wb:=by rw[←hwb];exact(Upd.refl No w2).alloc _
 have k1:Blk w1 z 25 [.slice A txs.length c,.slice B ords.length d]:=by rw[←hw1,←hz];exact Blk.new w _ _
 have k2:Blk w2 (z+1) 32 [.int .i64 ap,.slice X aw.length xc,.int .i64 a0,.int .i64 a1,.int .i64 a2,.int .i64 a3,.int .i64 a4]:=by rw[←hw2,←s1];exact Blk.new w1 _ _
 have k3:Blk wb (z+1+1) 32 [.int .i64 bp,.slice Y bw.length yc,.int .i64 b0,.int .i64 b1,.int .i64 b2,.int .i64 b3,.int .i64 b4]:=by rw[←hwb,←s2];exact Blk.new w2 _ _
 have h0:∀W,Upd No wb W→W.cell? ⟨z,0,none⟩=some (.slice A txs.length c):=fun W u=>(k1.upd ((u2.trans u3).trans u) id).cell 0
 have h1:∀W,Upd No wb W→W.cell? ⟨z,1,none⟩=some (.slice B ords.length d):=fun W u=>(k1.upd ((u2.trans u3).trans u) id).cell 1
 have x0:∀W,Upd No wb W→W.cell? ⟨z+1,0,none⟩=some (.int .i64 ap):=fun W u=>(k2.upd (u3.trans u) id).cell 0
 have x1:∀W,Upd No wb W→W.cell? ⟨z+1,1,none⟩=some (.slice X aw.length xc):=fun W u=>(k2.upd (u3.trans u) id).cell 1
 have x2:∀W,Upd No wb W→W.cell? ⟨z+1,2,none⟩=some (.int .i64 a0):=fun W u=>(k2.upd (u3.trans u) id).cell 2
 have x3:∀W,Upd No wb W→W.cell? ⟨z+1,3,none⟩=some (.int .i64 a1):=fun W u=>(k2.upd (u3.trans u) id).cell 3
 have x4:∀W,Upd No wb W→W.cell? ⟨z+1,4,none⟩=some (.int .i64 a2):=fun W u=>(k2.upd (u3.trans u) id).cell 4
 have x5:∀W,Upd No wb W→W.cell? ⟨z+1,5,none⟩=some (.int .i64 a3):=fun W u=>(k2.upd (u3.trans u) id).cell 5
 have x6:∀W,Upd No wb W→W.cell? ⟨z+1,6,none⟩=some (.int .i64 a4):=fun W u=>(k2.upd (u3.trans u) id).cell 6
 have y0:∀W,Upd No wb W→W.cell? ⟨z+1+1,0,none⟩=some (.int .i64 bp):=fun W u=>(k3.upd u id).cell 0
 have y1:∀W,Upd No wb W→W.cell? ⟨z+1+1,1,none⟩=some (.slice Y bw.length yc):=fun W u=>(k3.upd u id).cell 1
 have y2:∀W,Upd No wb W→W.cell? ⟨z+1+1,2,none⟩=some (.int .i64 b0):=fun W u=>(k3.upd u id).cell 2
 have y3:∀W,Upd No wb W→W.cell? ⟨z+1+1,3,none⟩=some (.int .i64 b1):=fun W u=>(k3.upd u id).cell 3
 have y4:∀W,Upd No wb W→W.cell? ⟨z+1+1,4,none⟩=some (.int .i64 b2):=fun W u=>(k3.upd u id).cell 4
 have y5:∀W,Upd No wb W→W.cell? ⟨z+1+1,5,none⟩=some (.int .i64 b3):=fun W u=>(k3.upd u id).cell 5
 have y6:∀W,Upd No wb W→W.cell? ⟨z+1+1,6,none⟩=some (.int .i64 b4):=fun W u=>(k3.upd u id).cell 6
 have hr:Upd No wb wb:=Upd.refl _ _;have U0:=Qh ((u1.trans u2).trans u3);have GH:=Qh (H.upd U0.out (fun _ _=>id));have GE:=Qh (fun W (u:Upd No wb W)=>EdX.upd HE (U0.out.trans u));have GA:=Qh (fun W (u:Upd No wb W)=>EdX.upd HA (U0.out.trans u));have GB:=Qh (fun W (u:Upd No wb W)=>EdX.upd HB (U0.out.trans u));obtain⟨v,hv⟩:∃v,Z0 ⟨txs,ords,A,c,B,d⟩=v:=⟨_,rfl⟩;have HV:=Qh hv;have CL:=Qh (ZqH GH.out hv);clear u1 u2 u3 k1 k2 k3 hv H HE HA HB
 go_enter Tryz.func3,Tryz.ntmps3
 cases v
 ·go_wp2_with fail
  refine(CL.out).mono ?_;rintro e w3 ⟨rfl,hu3⟩
  go_wp2_with fail
  refine(L.out _).mono ?_;rintro e w4 ⟨rfl,hu4⟩;go_wp2
  go_ret
  exact⟨rfl,(U0.out.trans hu3).trans hu4⟩
 by_cases g1:40<l.length
 ·have e1:decide ((40:Int)<(l.length:Int))=true:=decide_eq_true (by omega)
  go_wp2_with fail
  refine(CL.out).mono ?_;rintro e w3 ⟨rfl,hu3⟩
  go_wp2_with fail
  refine(L.out _).mono ?_;rintro e w4 ⟨rfl,hu4⟩;go_wp2
  go_ret
  exact⟨rfl,(U0.out.trans hu3).trans hu4⟩
 have e1:decide ((40:Int)<(l.length:Int))=false:=decide_eq_false (by omega)
 by_cases g2:40<aw.length
 ·have e2:decide ((40:Int)<(aw.length:Int))=true:=decide_eq_true (by omega)
  go_wp2_with fail
  refine(CL.out).mono ?_;rintro e w3 ⟨rfl,hu3⟩
  go_wp2_with fail
  refine(L.out _).mono ?_;rintro e w4 ⟨rfl,hu4⟩;go_wp2
  go_ret
  exact⟨rfl,(U0.out.trans hu3).trans hu4⟩
 have e2:decide ((40:Int)<(aw.length:Int))=false:=decide_eq_false (by omega)
 by_cases g3:40<bw.length
 ·have e3:decide ((40:Int)<(bw.length:Int))=true:=decide_eq_true (by omega)
  go_wp2_with fail
  refine(CL.out).mono ?_;rintro e w3 ⟨rfl,hu3⟩
  go_wp2_with fail
  refine(L.out _).mono ?_;rintro e w4 ⟨rfl,hu4⟩;go_wp2
  go_ret
  exact⟨rfl,(U0.out.trans hu3).trans hu4⟩
 have e3:decide ((40:Int)<(bw.length:Int))=false:=decide_eq_false (by omega);have G1:=Qh g1;have G2:=Qh g2;have G3:=Qh g3;have CO:=Qh (fun W (u:Upd No wb W) q=>wOf F W txs ords A c B d q (GH.out.upd u (fun _ _=>id)) HV.out);have CR:=Qh (fun W (u:Upd No wb W) q=>ZsI F W txs ords A c B d q (GH.out.upd u (fun _ _=>id)) HV.out);have HOL:=Qh (fun q=>ZqB ⟨txs,ords,A,c,B,d⟩ q HV.out);clear g1 g2 g3
 go_wp2_with fail
 refine(CL.out).mono ?_;rintro e w3 ⟨rfl,hu3⟩;go_wp2
 go_loopg [11] 8 (fun gk i wr=>∃q:Int,i= .int .i64 q∧-1≤q∧q+(gk:Int)=7∧Upd No wb wr)
 case atStart=>exact⟨-1,rfl,by omega,by omega,hu3⟩
 case round=>
  clear hu3;obtain⟨q,rfl,hq1,hq2,hu⟩:=hrel
  by_cases hq:q≤6
  ·have hqb:decide (q≤6)=true:=decide_eq_true hq;have hw:IntKind.i64.wrap (q+1)=q+1:=IntWalk.i64_in _ (by omega);obtain⟨⟨⟨xp,xw,⟨r0,r1,⟨r2,r3,r4⟩⟩⟩,xb⟩,hx⟩:∃x,ofX ⟨txs,ords,A,c,B,d⟩ q=x:=⟨_,rfl⟩;have C1:=Qh (CO.out wr hu q);have C2:=Qh (fun W (u:Upd No wb W)=>CR.out W u q);have HL:=Qh (HOL.out q);rw[hx]at C1 C2 HL;clear hx
   go_wp2_with fail
   refine C1.out.mono ?_;rintro e w5 hh;obtain⟨A5,c5,rfl,hx5,hu5⟩:=hh.part rfl rfl;have u5:Upd No wb (w5.alloc (.cells #[.int .i64 xp,.slice A5 xw.length c5,.int .i64 r0,.int .i64 r1,.int .i64 r2,.int .i64 r3,.int .i64 r4] 32)):=(hu.trans hu5).alloc _;have B5:=Qh (Blk.new w5 32 [.int .i64 xp,.slice A5 xw.length c5,.int .i64 r0,.int .i64 r1,.int .i64 r2,.int .i64 r3,.int .i64 r4]);have X5:=Qh (hx5.upd ((Upd.refl No w5).alloc (.cells #[.int .i64 xp,.slice A5 xw.length c5,.int .i64 r0,.int .i64 r1,.int .i64 r2,.int .i64 r3,.int .i64 r4] 32)));clear hh hx5 hu5
   go_wp2_with fail
   refine(C2.out _ u5).mono ?_;rintro e w6 hh;obtain⟨A6,c6,rfl,hx6,hu6⟩:=hh.part rfl rfl;have u6:Upd No wb (w6.alloc (.cells #[.int .i64 xp,.slice A6 xw.length c6,.int .i64 r0,.int .i64 r1,.int .i64 r2,.int .i64 r3,.int .i64 r4] 32)):=(u5.trans hu6).alloc _;have B6:=Blk.new w6 32 [.int .i64 xp,.slice A6 xw.length c6,.int .i64 r0,.int .i64 r1,.int .i64 r2,.int .i64 r3,.int .i64 r4];have X6:=Qh (hx6.upd ((Upd.refl No w6).alloc (.cells #[.int .i64 xp,.slice A6 xw.length c6,.int .i64 r0,.int .i64 r1,.int .i64 r2,.int .i64 r3,.int .i64 r4] 32)));have u56:=hu6.alloc (.cells #[.int .i64 xp,.slice A6 xw.length c6,.int .i64 r0,.int .i64 r1,.int .i64 r2,.int .i64 r3,.int .i64 r4] 32);have B56:=B5.out.upd u56 id;have X56:=Qh (X5.out.upd u56);have U6:=Qh u6;have m0:=B56.cell 0;have m1:=B56.cell 1;have m2:=B56.cell 2;have m3:=B56.cell 3;have m4:=B56.cell 4;have m5:=B56.cell 5;have m6:=B56.cell 6;simp only[Qz,Qs]at m0 m1 m2 m3 m4 m5 m6;clear hh hx6 hu6 u5 B5 X5 u56 B56 B6;have CS:=Qh (Zik (c:=c5) (d:=c6) (v:=true) (ap:=xp) (a0:=r0) (a1:=r1) (a2:=r2) (a3:=r3) (a4:=r4) (bp:=xp) (b0:=r0) (b1:=r1) (b2:=r2) (b3:=r3) (b4:=r4) X56.out X6.out (Nat.le_trans HL.out (by decide)) (Nat.le_trans HL.out (by decide)) rfl rfl (by simp))
   go_wp2_with fail
   refine(CS.out).mono ?_;rintro e w7 ⟨rfl,hu7⟩;go_wp2
   go_roundg (gk-1)
   case measure=>omega
   case rel=>exact⟨q+1,rfl,by omega,by omega,U6.out.trans hu7⟩
  ·have hqb:decide (q≤6)=false:=decide_eq_false hq;obtain⟨⟨⟨xp,xw,⟨r0,r1,⟨r2,r3,r4⟩⟩⟩,xb⟩,hx⟩:∃x,Zbn l p=x:=⟨_,rfl⟩
   have C1:=Qh (show Calls Tryz.prog 9 #[.slice E l.length ec,.int .i64 p] wr (ToldW wr (Zbn l p)) by
    obtain⟨G,hG⟩:=GE.out wr hu;exact ZlV G wr E ec l p hG (by have:=G1.out;omega))
   have C2:=Qh (fun W (u:Upd No wb W)=>(show Calls Tryz.prog 10 #[.slice E l.length ec,.int .i64 p] W (ToldW W (Zbn l p)) by
    obtain⟨G,hG⟩:=GE.out W u;exact Zls G W E ec l p hG (by have:=G1.out;omega)))
   have HL:=Qh (ZiH l p (by have:=G1.out;omega));rw[hx]at C1 C2 HL;clear hx
   go_wp2_with fail
   refine C1.out.mono ?_;rintro e w5 hh;obtain⟨A5,c5,rfl,hx5,hu5⟩:=hh.part rfl rfl;have u5:Upd No wb (w5.alloc (.cells #[.int .i64 xp,.slice A5 xw.length c5,.int .i64 r0,.int .i64 r1,.int .i64 r2,.int .i64 r3,.int .i64 r4] 32)):=(hu.trans hu5).alloc _;have B5:=Qh (Blk.new w5 32 [.int .i64 xp,.slice A5 xw.length c5,.int .i64 r0,.int .i64 r1,.int .i64 r2,.int .i64 r3,.int .i64 r4]);have X5:=Qh (hx5.upd ((Upd.refl No w5).alloc (.cells #[.int .i64 xp,.slice A5 xw.length c5,.int .i64 r0,.int .i64 r1,.int .i64 r2,.int .i64 r3,.int .i64 r4] 32)));clear hh hx5 hu5
   go_wp2_with fail
   refine(C2.out _ u5).mono ?_;rintro e w6 hh;obtain⟨A6,c6,rfl,hx6,hu6⟩:=hh.part rfl rfl;have u6:Upd No wb (w6.alloc (.cells #[.int .i64 xp,.slice A6 xw.length c6,.int .i64 r0,.int .i64 r1,.int .i64 r2,.int .i64 r3,.int .i64 r4] 32)):=(u5.trans hu6).alloc _;have B6:=Qh (Blk.new w6 32 [.int .i64 xp,.slice A6 xw.length c6,.int .i64 r0,.int .i64 r1,.int .i64 r2,.int .i64 r3,.int .i64 r4]);have X6:=Qh (hx6.upd ((Upd.refl No w6).alloc (.cells #[.int .i64 xp,.slice A6 xw.length c6,.int .i64 r0,.int .i64 r1,.int .i64 r2,.int .i64 r3,.int .i64 r4] 32)));have u56:Upd No _ (w6.alloc (.cells #[.int .i64 xp,.slice A6 xw.length c6,.int .i64 r0,.int .i64 r1,.int .i64 r2,.int .i64 r3,.int .i64 r4] 32)):=hu6.alloc _;have B56:=Qh (B5.out.upd u56 id);have X56:=Qh (X5.out.upd u56);have U6:=Qh u6;clear hh hx6 hu6 u5 B5 X5 u56
   go_wp2_with fail
   obtain⟨wz,hwz⟩:∃wz,w6.alloc (.cells #[.int .i64 xp,.slice A6 xw.length c6,.int .i64 r0,.int .i64 r1,.int .i64 r2,.int .i64 r3,.int .i64 r4] 32)=wz:=⟨_,rfl⟩;rw[hwz]at B6 X6 B56 X56 U6 u6 ⊢;clear hwz;have m0:∀W,Upd No wz W→W.cell? ⟨w5.heap.size,0,none⟩=some (.int .i64 xp):=fun W u=>(B56.out.upd u id).cell 0
   have m1:∀W,Upd No wz W→W.cell? ⟨w5.heap.size,1,none⟩=some (.slice A5 xw.length c5):=fun W u=>(B56.out.upd u id).cell 1
   have m2:∀W,Upd No wz W→W.cell? ⟨w5.heap.size,2,none⟩=some (.int .i64 r0):=fun W u=>(B56.out.upd u id).cell 2
   have m3:∀W,Upd No wz W→W.cell? ⟨w5.heap.size,3,none⟩=some (.int .i64 r1):=fun W u=>(B56.out.upd u id).cell 3
   have m4:∀W,Upd No wz W→W.cell? ⟨w5.heap.size,4,none⟩=some (.int .i64 r2):=fun W u=>(B56.out.upd u id).cell 4
   have m5:∀W,Upd No wz W→W.cell? ⟨w5.heap.size,5,none⟩=some (.int .i64 r3):=fun W u=>(B56.out.upd u id).cell 5
   have m6:∀W,Upd No wz W→W.cell? ⟨w5.heap.size,6,none⟩=some (.int .i64 r4):=fun W u=>(B56.out.upd u id).cell 6
   have n0:∀W,Upd No wz W→W.cell? ⟨w6.heap.size,0,none⟩=some (.int .i64 xp):=fun W u=>(B6.out.upd u id).cell 0
   have n1:∀W,Upd No wz W→W.cell? ⟨w6.heap.size,1,none⟩=some (.slice A6 xw.length c6):=fun W u=>(B6.out.upd u id).cell 1
   have n2:∀W,Upd No wz W→W.cell? ⟨w6.heap.size,2,none⟩=some (.int .i64 r0):=fun W u=>(B6.out.upd u id).cell 2
   have n3:∀W,Upd No wz W→W.cell? ⟨w6.heap.size,3,none⟩=some (.int .i64 r1):=fun W u=>(B6.out.upd u id).cell 3
   have n4:∀W,Upd No wz W→W.cell? ⟨w6.heap.size,4,none⟩=some (.int .i64 r2):=fun W u=>(B6.out.upd u id).cell 4
   have n5:∀W,Upd No wz W→W.cell? ⟨w6.heap.size,5,none⟩=some (.int .i64 r3):=fun W u=>(B6.out.upd u id).cell 5
   have n6:∀W,Upd No wz W→W.cell? ⟨w6.heap.size,6,none⟩=some (.int .i64 r4):=fun W u=>(B6.out.upd u id).cell 6
   have xz0:∀W,Upd No wz W→W.cell? ⟨z+1,0,none⟩=some (.int .i64 ap):=fun W u=>x0 W (U6.out.trans u)
   have xz1:∀W,Upd No wz W→W.cell? ⟨z+1,1,none⟩=some (.slice X aw.length xc):=fun W u=>x1 W (U6.out.trans u)
   have xz2:∀W,Upd No wz W→W.cell? ⟨z+1,2,none⟩=some (.int .i64 a0):=fun W u=>x2 W (U6.out.trans u)
   have xz3:∀W,Upd No wz W→W.cell? ⟨z+1,3,none⟩=some (.int .i64 a1):=fun W u=>x3 W (U6.out.trans u)
   have xz4:∀W,Upd No wz W→W.cell? ⟨z+1,4,none⟩=some (.int .i64 a2):=fun W u=>x4 W (U6.out.trans u)
   have xz5:∀W,Upd No wz W→W.cell? ⟨z+1,5,none⟩=some (.int .i64 a3):=fun W u=>x5 W (U6.out.trans u)
   have xz6:∀W,Upd No wz W→W.cell? ⟨z+1,6,none⟩=some (.int .i64 a4):=fun W u=>x6 W (U6.out.trans u)
   have yz0:∀W,Upd No wz W→W.cell? ⟨z+1+1,0,none⟩=some (.int .i64 bp):=fun W u=>y0 W (U6.out.trans u)
   have yz1:∀W,Upd No wz W→W.cell? ⟨z+1+1,1,none⟩=some (.slice Y bw.length yc):=fun W u=>y1 W (U6.out.trans u)
   have yz2:∀W,Upd No wz W→W.cell? ⟨z+1+1,2,none⟩=some (.int .i64 b0):=fun W u=>y2 W (U6.out.trans u)
   have yz3:∀W,Upd No wz W→W.cell? ⟨z+1+1,3,none⟩=some (.int .i64 b1):=fun W u=>y3 W (U6.out.trans u)
   have yz4:∀W,Upd No wz W→W.cell? ⟨z+1+1,4,none⟩=some (.int .i64 b2):=fun W u=>y4 W (U6.out.trans u)
   have yz5:∀W,Upd No wz W→W.cell? ⟨z+1+1,5,none⟩=some (.int .i64 b3):=fun W u=>y5 W (U6.out.trans u)
   have yz6:∀W,Upd No wz W→W.cell? ⟨z+1+1,6,none⟩=some (.int .i64 b4):=fun W u=>y6 W (U6.out.trans u)
   have hzz:Upd No wz wz:=Upd.refl _ _;obtain⟨lv,hlv⟩:∃lv,ZdO ⟨ap,aw,⟨a0,a1,⟨a2,a3,a4⟩⟩⟩ ⟨bp,bw,⟨b0,b1,⟨b2,b3,b4⟩⟩⟩=lv:=⟨_,rfl⟩;obtain⟨sv,hsv⟩:∃sv,decide ((⟨ap,aw,⟨a0,a1,⟨a2,a3,a4⟩⟩⟩:HWit)=⟨bp,bw,⟨b0,b1,⟨b2,b3,b4⟩⟩⟩)=sv:=⟨_,rfl⟩;have D1:=Qh (fun W (u:Upd No wz W)=>Zik (c:=c5) (d:=c6) (v:=true) (ap:=xp) (a0:=r0) (a1:=r1) (a2:=r2) (a3:=r3) (a4:=r4) (bp:=xp) (b0:=r0) (b1:=r1) (b2:=r2) (b3:=r3) (b4:=r4) (X56.out.upd u) (X6.out.upd u) (Nat.le_trans HL.out (by decide)) (Nat.le_trans HL.out (by decide)) rfl rfl (by simp));have D2:=Qh (fun W (u:Upd No wz W)=>Zkp (c:=xc) (d:=yc) (GA.out W (U6.out.trans u)) (GB.out W (U6.out.trans u)) (by have:=G2.out;omega) (by have:=G3.out;omega) rfl rfl hlv);have D3:=Qh (fun W (u:Upd No wz W)=>Zqq (c:=xc) (d:=yc) (GA.out W (U6.out.trans u)) (GB.out W (U6.out.trans u)) (by have:=G2.out;omega) (by have:=G3.out;omega) rfl rfl hlv);have D4:=Qh (fun W (u:Upd No wz W)=>ZjT (c:=xc) (d:=yc) (GA.out W (U6.out.trans u)) (GB.out W (U6.out.trans u)) (by have:=G2.out;omega) (by have:=G3.out;omega) rfl rfl hsv);have D5:=Qh (fun W (u:Upd No wz W)=>Zik (c:=xc) (d:=yc) (GA.out W (U6.out.trans u)) (GB.out W (U6.out.trans u)) (by have:=G2.out;omega) (by have:=G3.out;omega) rfl rfl hsv);have q1:(lv==lv)=true:=by simp
   have q2:(sv==sv)=true:=by simp
   have q3:(xb==xb)=true:=by simp
   clear hlv hsv u6 h0 h1 x0 x1 x2 x3 x4 x5 x6 y0 y1 y2 y3 y4 y5 y6 hr;refine wp_region_noPanic ?_;refine wp_region_held_drew (S:=(fun W'=>Upd No wz W')) (by kernel_rfl) ?_ (fun hHeld=> ?_)
   ·(first|exact hzz.drew|exact hHeld.trans hu9|exact hHeld)
   refine wpK 0 rfl ?_;refine wpK 1 rfl ?_;refine wpK 2 rfl ?_;refine wpK 3 rfl ?_;refine wpK 4 rfl ?_;refine wpK 5 rfl ?_;refine wpR [6] ?_;refine wpC rfl (fun K hK=> ?_) AllReadyH.nil;go_simp
   (first
  |(go_at_call 8;refine Calls.mono (D1.out _ hHeld) ?_;rintro r w9 ⟨rfl,hu9⟩))
   try (go_wp2_with fail)
   refine hK.out _ _ ?_ (fun hHeld=> ?_)
   ·(first|exact hzz.drew|exact hHeld.trans hu9|exact hHeld)
   clear hK K
   try simp only[Act.put,sT,sS,sZ]
   refine wpK 7 rfl ?_;refine wpK 8 rfl ?_;refine wpK 9 rfl ?_;refine wpK 10 rfl ?_;refine wpK 12 rfl ?_;refine wpK 13 rfl ?_;refine wpR [11] ?_;refine wpC rfl (fun K hK=> ?_) AllReadyH.nil;go_simp
   (first
  |(go_at_call 11;refine Calls.mono (D2.out _ hHeld) ?_;rintro r w9 ⟨rfl,hu9⟩))
   try (go_wp2_with fail)
   refine hK.out _ _ ?_ (fun hHeld=> ?_)
   ·(first|exact hzz.drew|exact hHeld.trans hu9|exact hHeld)
   clear hK K
   try simp only[Act.put,sT,sS,sZ]
   refine wpR [14] ?_;refine wpC rfl (fun K hK=> ?_) AllReadyH.nil;go_simp
   (first
  |(go_at_call 12;refine Calls.mono (D3.out _ hHeld) ?_;rintro r w9 ⟨rfl,hu9⟩))
   try (go_wp2_with fail)
   refine hK.out _ _ ?_ (fun hHeld=> ?_)
   ·(first|exact hzz.drew|exact hHeld.trans hu9|exact hHeld)
   clear hK K
   try simp only[Act.put,sT,sS,sZ]
   refine wpK 15 rfl ?_;refine wpK 16 rfl ?_;refine wpK 17 rfl ?_;refine wpK 18 rfl ?_;refine wpK 19 rfl ?_;refine wpK 21 rfl ?_;refine wpK 22 rfl ?_;refine wpR [20] ?_;refine wpC rfl (fun K hK=> ?_) AllReadyH.nil;go_simp
   (first
  |(go_at_call 13;refine Calls.mono (D4.out _ hHeld) ?_;rintro r w9 ⟨rfl,hu9⟩))
   try (go_wp2_with fail)
   refine hK.out _ _ ?_ (fun hHeld=> ?_)
   ·(first|exact hzz.drew|exact hHeld.trans hu9|exact hHeld)
   clear hK K
   try simp only[Act.put,sT,sS,sZ]
   refine wpR [23] ?_;refine wpC rfl (fun K hK=> ?_) AllReadyH.nil;go_simp
   (first
  |(go_at_call 8;refine Calls.mono (D5.out _ hHeld) ?_;rintro r w9 ⟨rfl,hu9⟩))
   try (go_wp2_with fail)
   refine hK.out _ _ ?_ (fun hHeld=> ?_)
   ·(first|exact hzz.drew|exact hHeld.trans hu9|exact hHeld)
   clear hK K
   try simp only[Act.put,sT,sS,sZ]
   refine wpK 24 rfl ?_;refine wpK 25 rfl ?_;refine wpK 26 rfl ?_;refine wpR [27] ?_;refine wpC rfl (fun K hK=> ?_) AllReadyH.nil;go_simp
   (first
  |(go_at_call 5;refine Calls.mono (L.out _) ?_;rintro r w9 ⟨rfl,hu9⟩))
   try (go_wp2_with fail)
   refine hK.out _ _ ?_ (fun hHeld=> ?_)
   ·(first|exact hzz.drew|exact hHeld.trans hu9|exact hHeld)
   clear hK K
   try simp only[Act.put,sT,sS,sZ]
   refine wpK 28 rfl ?_;refine wpK 29 rfl ?_;refine wpD (NoPanic.normal ?_);have HH:=Qh hHeld;clear hHeld;go_wp2
   go_ret
   exact⟨rfl,U0.out.trans (U6.out.trans HH.out)⟩
end
end Go.Proofs.YticmndpiehinjaaGreat
