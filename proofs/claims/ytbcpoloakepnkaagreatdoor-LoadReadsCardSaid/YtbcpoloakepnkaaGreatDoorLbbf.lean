/- Scripts out of numbers: a command is filled. -/
import Derived.BigRegion
import Derived.Test.YtbcpoloakepnkaaGreatDoorLbbd
import Derived.Test.YtbcpoloakepnkaaGreatDoorLbbe
namespace Go.Proofs.YtbcpoloakepnkaaGreatDoor
set_option linter.unusedVariables false
set_option linter.unusedSimpArgs false
section
open Go.RowKit
def Zq (t:Nat):List Value:=[.int .i64 (t:Int),.int .i64 0,.bool false,.slice none 0 0,.int .i64 0,.slice none 0 0,.int .i64 0,.int .i64 0,.int .i64 0,.int .i64 0]
def Z7 (w:World) (g:Nat) (e:Ending) (w':World):Prop:=e= .returned (.int .i64 0)∧(∃(k i ok ky id pl ph:Int) (d:Bool) (A B:Option Addr) (n c m r:Nat),Blk w' g 36 [.int .i64 k,.int .i64 i,.bool d,.slice A n c,.int .i64 ok,.slice B m r,.int .i64 ky,.int .i64 id,.int .i64 pl,.int .i64 ph])∧Upd (One g) w w'
set_option maxRecDepth 100000 in
set_option maxHeartbeats 2000000 in
theorem ZdQ (w:World) (g:Nat) (A:Option Addr) (c:Nat) (j:Int) (hj:Zf j) (hb:Blk w g 36 (Zq 3)) (hs:Strz (fun _=>True) w A [Za j]):
  Calls Tryz.prog 31 #[.pointer (some ⟨g,0,none⟩),.slice A 1 c] w (Z7 w g):=by
 have CN:=Qh (Zal w A c [j] hs (fun n hn=>by rw[List.mem_singleton.1 hn];exact hj) (by simp));have c0:=hb.cell 0;simp only[Zq,Qz]at c0;have HB:=Qh hb;clear hb hs
 go_enter Tryz.func31,Tryz.ntmps31
 go_wp2_with fail
 refine(CN.out).mono ?_;rintro e w1 ⟨B,d,rfl,hi,hu1⟩;obtain⟨ad,rfl,_,_,q⟩:=hi (by simp);have q0:w1.cell? ad=some (.int .i64 j):=by have:=q 0 j rfl;simpa[Addr.add]using this
 clear q hi;have b1:=HB.out.upd hu1 id;have c0:=b1.cell 0;have c4:=b1.cell 4;have c5:=b1.cell 5;have c6:=b1.cell 6;have c7:=b1.cell 7;have c8:=b1.cell 8;have c9:=b1.cell 9;have f4:=b1.free 4;have f5:=b1.free 5;have f6:=b1.free 6;have f7:=b1.free 7;have f8:=b1.free 8;have f9:=b1.free 9;simp only[Zq,Qz,Qs]at c0 c4 c5 c6 c7 c8 c9;have HU1:=Qh (show Upd (One g) w w1 from hu1.mono fun _ _ e=>e.elim);have B1:=Qh b1;clear b1 hu1;go_wp2
 go_ret
 exact⟨rfl,⟨_,_,_,_,_,_,_,_,_,_,_,_,_,_,B1.out.set_ 7 _⟩,HU1.out.setOne 7 _⟩
set_option maxRecDepth 100000 in
set_option maxHeartbeats 2000000 in
theorem ZdU (w:World) (g:Nat) (A:Option Addr) (c:Nat) (hb:Blk w g 36 (Zq 6)):
  Calls Tryz.prog 31 #[.pointer (some ⟨g,0,none⟩),.slice A 0 c] w (Z7 w g):=by
 have CN:=Qh (Zal w A c [] (fun h=>absurd rfl h) (fun n hn=>by simp at hn) (by simp));have c0:=hb.cell 0;simp only[Zq,Qz]at c0;have HB:=Qh hb;clear hb
 go_enter Tryz.func31,Tryz.ntmps31
 go_wp2_with fail
 refine(CN.out).mono ?_;rintro e w1 ⟨B,d,rfl,hi,hu1⟩;clear hi;have b1:=HB.out.upd hu1 id;have c0:=b1.cell 0;have c4:=b1.cell 4;have c5:=b1.cell 5;have c6:=b1.cell 6;have c7:=b1.cell 7;have c8:=b1.cell 8;have c9:=b1.cell 9;have f4:=b1.free 4;have f5:=b1.free 5;have f6:=b1.free 6;have f7:=b1.free 7;have f8:=b1.free 8;have f9:=b1.free 9;simp only[Zq,Qz,Qs]at c0 c4 c5 c6 c7 c8 c9;have HU1:=Qh (show Upd (One g) w w1 from hu1.mono fun _ _ e=>e.elim);have B1:=Qh b1;clear b1 hu1;go_wp2
 go_ret
 exact⟨rfl,⟨_,_,_,_,_,_,_,_,_,_,_,_,_,_,B1.out⟩,HU1.out⟩
set_option maxRecDepth 100000 in
set_option maxHeartbeats 2000000 in
theorem ZdT (w:World) (g:Nat) (A:Option Addr) (c:Nat) (hb:Blk w g 36 (Zq 7)):
  Calls Tryz.prog 31 #[.pointer (some ⟨g,0,none⟩),.slice A 0 c] w (Z7 w g):=by
 have CN:=Qh (Zal w A c [] (fun h=>absurd rfl h) (fun n hn=>by simp at hn) (by simp));have c0:=hb.cell 0;simp only[Zq,Qz]at c0;have HB:=Qh hb;clear hb
 go_enter Tryz.func31,Tryz.ntmps31
 go_wp2_with fail
 refine(CN.out).mono ?_;rintro e w1 ⟨B,d,rfl,hi,hu1⟩;clear hi;have b1:=HB.out.upd hu1 id;have c0:=b1.cell 0;have c4:=b1.cell 4;have c5:=b1.cell 5;have c6:=b1.cell 6;have c7:=b1.cell 7;have c8:=b1.cell 8;have c9:=b1.cell 9;have f4:=b1.free 4;have f5:=b1.free 5;have f6:=b1.free 6;have f7:=b1.free 7;have f8:=b1.free 8;have f9:=b1.free 9;simp only[Zq,Qz,Qs]at c0 c4 c5 c6 c7 c8 c9;have HU1:=Qh (show Upd (One g) w w1 from hu1.mono fun _ _ e=>e.elim);have B1:=Qh b1;clear b1 hu1;go_wp2
 go_ret
 exact⟨rfl,⟨_,_,_,_,_,_,_,_,_,_,_,_,_,_,B1.out⟩,HU1.out⟩
set_option maxRecDepth 100000 in
set_option maxHeartbeats 2000000 in
theorem ZdS (w:World) (g:Nat) (A:Option Addr) (c:Nat) (hb:Blk w g 36 (Zq 8)):
  Calls Tryz.prog 31 #[.pointer (some ⟨g,0,none⟩),.slice A 0 c] w (Z7 w g):=by
 have CN:=Qh (Zal w A c [] (fun h=>absurd rfl h) (fun n hn=>by simp at hn) (by simp));have c0:=hb.cell 0;simp only[Zq,Qz]at c0;have HB:=Qh hb;clear hb
 go_enter Tryz.func31,Tryz.ntmps31
 go_wp2_with fail
 refine(CN.out).mono ?_;rintro e w1 ⟨B,d,rfl,hi,hu1⟩;clear hi;have b1:=HB.out.upd hu1 id;have c0:=b1.cell 0;have c4:=b1.cell 4;have c5:=b1.cell 5;have c6:=b1.cell 6;have c7:=b1.cell 7;have c8:=b1.cell 8;have c9:=b1.cell 9;have f4:=b1.free 4;have f5:=b1.free 5;have f6:=b1.free 6;have f7:=b1.free 7;have f8:=b1.free 8;have f9:=b1.free 9;simp only[Zq,Qz,Qs]at c0 c4 c5 c6 c7 c8 c9;have HU1:=Qh (show Upd (One g) w w1 from hu1.mono fun _ _ e=>e.elim);have B1:=Qh b1;clear b1 hu1;go_wp2
 go_ret
 exact⟨rfl,⟨_,_,_,_,_,_,_,_,_,_,_,_,_,_,B1.out⟩,HU1.out⟩
set_option maxRecDepth 100000 in
set_option maxHeartbeats 2000000 in
theorem ZdP (w:World) (g:Nat) (A:Option Addr) (c:Nat) (k j p:Int) (hk:Zf k) (hj:Zf j) (hp:Zf p) (hb:Blk w g 36 (Zq 5)) (hs:Strz (fun _=>True) w A [Za k,Za j,Za p]):
  Calls Tryz.prog 31 #[.pointer (some ⟨g,0,none⟩),.slice A 3 c] w (Z7 w g):=by
 have CN:=Qh (Zal w A c [k,j,p] hs (fun n hn=>by simp only[List.mem_cons,List.not_mem_nil,or_false]at hn;rcases hn with rfl|rfl|rfl<;>assumption) (by simp));have c0:=hb.cell 0;simp only[Zq,Qz]at c0;have HB:=Qh hb;clear hb hs
 go_enter Tryz.func31,Tryz.ntmps31
 go_wp2_with fail
 refine(CN.out).mono ?_;rintro e w1 ⟨B,d,rfl,hi,hu1⟩;obtain⟨ad,rfl,_,hlt,q⟩:=hi (by simp);have q0:w1.cell? ad=some (.int .i64 k):=by have:=q 0 k rfl;simpa[Addr.add]using this
 have q1:=q 1 j rfl;have q2:=q 2 p rfl;have q1s:=q1;have q2s:=q2;simp[Addr.add]at q1s q2s;clear q hi;have b1:=HB.out.upd hu1 id;have c0:=b1.cell 0;have c4:=b1.cell 4;have c5:=b1.cell 5;have c6:=b1.cell 6;have c7:=b1.cell 7;have c8:=b1.cell 8;have c9:=b1.cell 9;have f4:=b1.free 4;have f5:=b1.free 5;have f6:=b1.free 6;have f7:=b1.free 7;have f8:=b1.free 8;have f9:=b1.free 9;simp only[Zq,Qz,Qs]at c0 c4 c5 c6 c7 c8 c9;have HU1:=Qh (show Upd (One g) w w1 from hu1.mono fun _ _ e=>e.elim);have B1:=Qh b1;clear b1 hu1
 go_upto_region 23 with fail
 go_region
 go_wp2
 go_ret
 exact⟨rfl,⟨_,_,_,_,_,_,_,_,_,_,_,_,_,_,(((B1.out.set_ 6 _).set_ 7 _).set_ 8 _).drew⟩,(((HU1.out.setOne 6 _).setOne 7 _).setOne 8 _).drew⟩
set_option maxRecDepth 100000 in
set_option maxHeartbeats 2000000 in
theorem ZdO (w:World) (g:Nat) (A:Option Addr) (c:Nat) (p:Int) (hp:1≤p∧p≤5) (hb:Blk w g 36 (Zq 9)) (hs:Strz (fun _=>True) w A [Zk p]):
  Calls Tryz.prog 31 #[.pointer (some ⟨g,0,none⟩),.slice A 1 c] w (Z7 w g):=by
 have e:ZbY (Zk p)=p:=by
  obtain rfl|rfl|rfl|rfl|rfl:p=1∨p=2∨p=3∨p=4∨p=5:=by omega
  all_goals decide
 have CP:=Qh (Zem w (Zk p));rw[e]at CP;obtain⟨ad,rfl,_,hlt,q⟩:=hs (by simp);have q0:w.cell? ad=some (.string (Zk p)):=by have:=q 0 (Zk p) rfl;simpa[Addr.add]using this
 clear q hs e
 generalize Zk p=cp at*
 have hp0:(p==0)=false:=by rw[beq_eq_false_iff_ne];omega
 have c0:=hb.cell 0;simp only[Zq,Qz]at c0;have HB:=Qh hb;clear hb
 go_enter Tryz.func31,Tryz.ntmps31
 go_wp2_with fail
 refine(CP.out).mono ?_;rintro e w1 ⟨rfl,hu1⟩;have h0:w1.cell? ⟨g,9,none⟩=w1.cell? ⟨g,9,none⟩:=rfl;clear h0;have b1:=HB.out.upd hu1 id;have c0:=b1.cell 0;have c4:=b1.cell 4;have c5:=b1.cell 5;have c6:=b1.cell 6;have c7:=b1.cell 7;have c8:=b1.cell 8;have c9:=b1.cell 9;have f4:=b1.free 4;have f5:=b1.free 5;have f6:=b1.free 6;have f7:=b1.free 7;have f8:=b1.free 8;have f9:=b1.free 9;simp only[Zq,Qz,Qs]at c0 c4 c5 c6 c7 c8 c9;have HU1:=Qh (show Upd (One g) w w1 from hu1.mono fun _ _ e=>e.elim);have B1:=Qh b1;clear b1 hu1;go_wp2
 go_ret
 exact⟨rfl,⟨_,_,_,_,_,_,_,_,_,_,_,_,_,_,B1.out.set_ 9 _⟩,HU1.out.setOne 9 _⟩
end
/- Scripts out of numbers:a line is read. -/
section
open Go.RowKit
def Zb5 (v:Value):Prop:=∃(v0 v1 v4 v6 v7 v8 v9:Int) (v2:Bool) (A3 A5:Option Addr) (n3 m3 n5 m5:Nat),v= .agg #[.int .i64 v0,.int .i64 v1,.bool v2,.slice A3 n3 m3,.int .i64 v4,.slice A5 n5 m5,.int .i64 v6,.int .i64 v7,.int .i64 v8,.int .i64 v9]
set_option maxRecDepth 100000 in
set_option maxHeartbeats 8000000 in
theorem Z5 (w:World) (hm:MaxL w) {t:Nat} (h1:1≤t) (h9:t≤9) (rest:List ByteArray) {la mo:Int} (hsaid:∀W:World,Calls Tryz.prog 30 #[.int .i64 (t:Int)] W fun e w'=>e= .returned (.agg #[.string (ZA t),.int .i64 la,.int .i64 mo])∧Upd No W w')
  (hla:la≤(rest.length:Int)+1) (hmo:(rest.length:Int)+1≤mo) (hw:∀x∈ZA t::rest,WordB x) (hl:(Zo (ZA t::rest)).size≤1000000) (hn:rest.length≤100000)
  (hfill:∀(W:World) (g:Nat) (A:Option Addr) (c:Nat),Upd No w W→rest.length≤c→Blk W g 36 (Zq t)→Strz (fun _=>True) W A rest→Calls Tryz.prog 31 #[.pointer (some ⟨g,0,none⟩),.slice A rest.length c] W (Z7 W g)):
  Calls Tryz.prog 12 #[.string (Zo (ZA t::rest))] w fun e w'=>(∃v,Zb5 v∧e= .returned (.tuple #[v,.int .i64 0]))∧Upd No w w':=by
 obtain⟨z,hz⟩:∃z,w.heap.size=z:=⟨_,rfl⟩;obtain⟨wb,hwb⟩:∃wb,w.alloc (.cells #[.int .i64 0,.int .i64 0,.bool false,.slice none 0 0,.int .i64 0,.slice none 0 0,.int .i64 0,.int .i64 0,.int .i64 0,.int .i64 0] 36)=wb:=⟨_,rfl⟩;have ub:Upd No w wb:=by rw[←hwb];exact(Upd.refl No w).alloc _
 have bb:Blk wb z 36 [.int .i64 0,.int .i64 0,.bool false,.slice none 0 0,.int .i64 0,.slice none 0 0,.int .i64 0,.int .i64 0,.int .i64 0,.int .i64 0]:=by rw[←hwb,←hz];exact Blk.new w _ _
 have CW:=Qh (Zdv wb (hm.upd ub) (ZA t::rest) (by simp) hw hl (by simp;omega));have CF:=Qh (fun W=>Zei W h1 h9);have CS:=Qh hsaid;have CI:=Qh hfill;obtain⟨N,hN⟩:∃N,rest.length=N:=⟨_,rfl⟩;have HL:=Qh (show(ZA t::rest).length=N+1 by rw[List.length_cons,hN]);rw[HL.out]at CW;rw[hN]at CI hla hmo hn;obtain⟨ln,hln⟩:∃ln,Zo (ZA t::rest)=ln:=⟨_,rfl⟩;rw[hln]at CW ⊢;have UB:=Qh ub;have HB:=Qh (fun W (u:Upd No wb W)=>bb.upd u id);have b0:(0:Int)<((N+1:Nat):Int):=by omega
 have b1:decide (((N+1:Nat):Int)<la)=false:=decide_eq_false (by omega);have b2:decide (mo<((N+1:Nat):Int))=false:=decide_eq_false (by omega);have b3:(((N+1:Nat):Int)==0)=false:=by rw[beq_eq_false_iff_ne];omega
 have b4:(N+1==0)=false:=by rw[beq_eq_false_iff_ne];omega
 have b5:((t:Int)==0)=false:=by rw[beq_eq_false_iff_ne];omega
 have b6:(t==0)=false:=by rw[beq_eq_false_iff_ne];omega
 clear ub bb hm hw hl hsaid hfill hln hN
 go_enter Tryz.func12,Tryz.ntmps12
 go_wp2_with fail
 refine(CW.out).mono ?_;rintro e w1 ⟨A,rfl,hs1,hu1⟩;obtain⟨ad,rfl,_,_,q⟩:=hs1 (by simp);have HS:=Qh hs1;have q0:w1.cell? ad=some (.string (ZA t)):=by have:=q 0 _ rfl;simpa[Addr.add]using this
 have HU1:=Qh (UB.out.trans hu1);have HW1:=Qh hu1;clear q hs1 hu1 CW;have CF1:=Qh (CF.out w1);clear CF
 go_wp2_with fail
 refine(CF1.out).mono ?_;rintro e w2 ⟨rfl,hu2⟩;have HU2:=Qh (HU1.out.trans hu2);have HW2:=Qh (HW1.out.trans hu2);have HS2:=Qh (HS.out.upd hu2 (fun _ _=>id));obtain⟨y,hy⟩:∃y,w2.heap.size=y:=⟨_,rfl⟩;obtain⟨w3,hw3⟩:∃w3,w2.alloc (.cells #[.int .i64 0,.int .i64 0,.bool false,.slice none 0 0,.int .i64 0,.slice none 0 0,.int .i64 0,.int .i64 0,.int .i64 0,.int .i64 0] 36)=w3:=⟨_,rfl⟩;have hu3:Upd No w2 w3:=by rw[←hw3];exact(Upd.refl No w2).alloc _
 have b3w:Blk w3 y 36 [.int .i64 0,.int .i64 0,.bool false,.slice none 0 0,.int .i64 0,.slice none 0 0,.int .i64 0,.int .i64 0,.int .i64 0,.int .i64 0]:=by rw[←hw3,←hy];exact Blk.new w2 _ _
 have k0:=b3w.cell 0;have f0:=b3w.free 0;have k1:=b3w.cell 1;have f1:=b3w.free 1;have k2:=b3w.cell 2;have f2:=b3w.free 2;have k3:=b3w.cell 3;have f3:=b3w.free 3;have k4:=b3w.cell 4;have f4:=b3w.free 4;have k5:=b3w.cell 5;have f5:=b3w.free 5;have k6:=b3w.cell 6;have f6:=b3w.free 6;have k7:=b3w.cell 7;have f7:=b3w.free 7;have k8:=b3w.cell 8;have f8:=b3w.free 8;have k9:=b3w.cell 9;have f9:=b3w.free 9;simp only[Qz,Qs]at k0 k1 k2 k3 k4 k5 k6 k7 k8 k9;have B3:=Qh b3w;have HU3:=Qh hu3;clear hu2 hu3 b3w
 go_upto_region 7 with fail
 obtain⟨b4,us⟩:=ZH B3.out (.int .i64 (t:Int)) (.int .i64 0) (.bool false) (.slice none 0 0) (.int .i64 0) (.slice none 0 0) (.int .i64 0) (.int .i64 0) (.int .i64 0) (.int .i64 0);have HU4:=Qh ((HU2.out.trans HU3.out).then_ us fun i e=> .inr (by have:=HU2.out.size;unfold One at e;omega));have HZ4:=Qh ((HW2.out.trans HU3.out).then_ us fun i e=> .inr (by have:=HW2.out.size;unfold One at e;omega));have HK4:=Qh (show Upd No w2 _ from HU3.out.then_ us fun i e=> .inr (by unfold One at e;omega))
 generalize ((((((((((w3.setCell ⟨y,0,none⟩ (.int .i64 (t:Int))).setCell ⟨y,1,none⟩ (.int .i64 0)).setCell ⟨y,2,none⟩ (.bool false)).setCell ⟨y,3,none⟩ (.slice none 0 0)).setCell ⟨y,4,none⟩ (.int .i64 0)).setCell ⟨y,5,none⟩ (.slice none 0 0)).setCell ⟨y,6,none⟩ (.int .i64 0)).setCell ⟨y,7,none⟩ (.int .i64 0)).setCell ⟨y,8,none⟩ (.int .i64 0)).setCell ⟨y,9,none⟩ (.int .i64 0))=w4 at*
 clear us k0 f0 k1 f1 k2 f2 k3 f3 k4 f4 k5 f5 k6 f6 k7 f7 k8 f8 k9 f9 hw3 B3 HU3;have B4:=Qh (show Blk w4 y 36 (Zq t) from b4);have k0:=b4.cell 0;simp only[Qz]at k0;have CS4:=Qh (CS.out w4);clear b4 CS
 go_wp2_with fail
 refine(CS4.out).mono ?_;rintro e w5 ⟨rfl,hu5⟩;have k0:=hu5.keepNo k0;obtain⟨x,hx⟩:∃x,w5.heap.size=x:=⟨_,rfl⟩;obtain⟨w6,hw6⟩:∃w6,w5.alloc (.cells #[.string ⟨#[]⟩,.int .i64 0,.int .i64 0] 66)=w6:=⟨_,rfl⟩;have hu6:Upd No w5 w6:=by rw[←hw6];exact(Upd.refl No w5).alloc _
 have b6w:Blk w6 x 66 [.string ⟨#[]⟩,.int .i64 0,.int .i64 0]:=by rw[←hw6,←hx];exact Blk.new w5 _ _
 have g0:=b6w.cell 0;have g1:=b6w.cell 1;have g2:=b6w.cell 2;have e0:=b6w.free 0;have e1:=b6w.free 1;have e2:=b6w.free 2;have k0:=hu6.keepNo k0;simp only[Qz,Qs]at g0 g1 g2;have B6:=Qh b6w;have HU6:=Qh (HU4.out.trans (hu5.trans hu6));have HZ6:=Qh (HZ4.out.trans (hu5.trans hu6));have HK6:=Qh (hu5.trans hu6);have HX6:=Qh (show w4.heap.size≤x from by have:=hu5.size;omega);clear hu5 hu6 b6w
 go_upto_region 8 with fail
 have b7:=((B6.out.set_ 0 (.string (ZA t))).set_ 1 (.int .i64 la)).set_ 2 (.int .i64 mo);have us:=(((Upd.refl (One x) w6).setOne 0 (.string (ZA t))).setOne 1 (.int .i64 la)).setOne 2 (.int .i64 mo);simp only[List.set_cons_zero,List.set_cons_succ]at b7;have hlt:=B4.out.lt;have HN7:=Qh (show∀i,One x i→¬i<w4.heap.size from fun i e e2=>by have:=HX6.out;unfold One at e;omega);have k0:=us.keep k0 (show¬One x y from fun e=>HN7.out y e hlt);have HU7:=Qh (HU6.out.then_ us fun i e=> .inr (by have:=HN7.out i e;have:=HU4.out.size;omega));have HZ7:=Qh (HZ6.out.then_ us fun i e=> .inr (by have:=HN7.out i e;have:=HZ4.out.size;omega));have HK7:=Qh (HK6.out.then_ us fun i e=> .inr (by have:=HN7.out i e;omega))
 generalize (((w6.setCell ⟨x,0,none⟩ (.string (ZA t))).setCell ⟨x,1,none⟩ (.int .i64 la)).setCell ⟨x,2,none⟩ (.int .i64 mo))=w7 at*
 have g1:=b7.cell 1;have g2:=b7.cell 2;simp only[Qz,Qs]at g1 g2;clear us b7 g0 e0 e1 e2 hw6 B6;have HS7:=Qh (((HS2.out.upd HK4.out (fun _ _=>id)).upd HK7.out (fun _ _=>id)).cut (i:=1) (c:=N+1) (by rw[HL.out];omega));have CI7:=Qh (CI.out w7 y (ZO (some ad) (N+1) 1 1) N HU7.out (Nat.le_refl _) (B4.out.upd HK7.out id) HS7.out)
 have hcut:∀W,(Instr.slice 41 (.slice (some ad) (N+1) (N+1)) (some (.int .i64 1)) none none).run Tryz.prog W= .ok (.slice (ZO (some ad) (N+1) 1 1) N N) W:=fun W=>by
  have:=ZaM (P:=Tryz.prog) W Zz (some ad) (N+1) (N+1) 1 (by omega);rw[show N+1-1=N by omega]at this;exact this
 have b1':decide ((N:Int)+1<la)=false:=decide_eq_false (by omega);have b2':decide (mo<(N:Int)+1)=false:=decide_eq_false (by omega)
 generalize ZO (some ad) (N+1) 1 1=A1 at*
 clear CI
 go_wp2_with fail
 refine(CI7.out).mono ?_;rintro e w8 ⟨rfl,⟨v0,v1,v4,v6,v7,v8,v9,v2,A3,A5,n3,m3,n5,m5,b8⟩,hu8⟩;have HU8:=Qh (HU7.out.then_ hu8 fun i e=> .inr (by have:=HU2.out.size;unfold One at e;omega));have bz:=HB.out _ (HZ7.out.then_ hu8 fun i e=> .inr (by have:=HW2.out.size;unfold One at e;omega));have z0:=bz.cell 0;have h20:=bz.free 0;have p0:=b8.cell 0;have z1:=bz.cell 1;have h21:=bz.free 1;have p1:=b8.cell 1;have z2:=bz.cell 2;have h22:=bz.free 2;have p2:=b8.cell 2;have z3:=bz.cell 3;have h23:=bz.free 3;have p3:=b8.cell 3;have z4:=bz.cell 4;have h24:=bz.free 4;have p4:=b8.cell 4;have z5:=bz.cell 5;have h25:=bz.free 5;have p5:=b8.cell 5;have z6:=bz.cell 6;have h26:=bz.free 6;have p6:=b8.cell 6;have z7:=bz.cell 7;have h27:=bz.free 7;have p7:=b8.cell 7;have z8:=bz.cell 8;have h28:=bz.free 8;have p8:=b8.cell 8;have z9:=bz.cell 9;have h29:=bz.free 9;have p9:=b8.cell 9;simp only[Qz,Qs]at z0 p0 z1 p1 z2 p2 z3 p3 z4 p4 z5 p5 z6 p6 z7 p7 z8 p8 z9 p9;have BZ:=Qh bz;clear bz b8 hu8;go_wp2;obtain⟨bs,us⟩:=ZH BZ.out (.int .i64 v0) (.int .i64 v1) (.bool v2) (.slice A3 n3 m3) (.int .i64 v4) (.slice A5 n5 m5) (.int .i64 v6) (.int .i64 v7) (.int .i64 v8) (.int .i64 v9)
 generalize ((((((((((w8.setCell ⟨z,0,none⟩ (.int .i64 v0)).setCell ⟨z,1,none⟩ (.int .i64 v1)).setCell ⟨z,2,none⟩ (.bool v2)).setCell ⟨z,3,none⟩ (.slice A3 n3 m3)).setCell ⟨z,4,none⟩ (.int .i64 v4)).setCell ⟨z,5,none⟩ (.slice A5 n5 m5)).setCell ⟨z,6,none⟩ (.int .i64 v6)).setCell ⟨z,7,none⟩ (.int .i64 v7)).setCell ⟨z,8,none⟩ (.int .i64 v8)).setCell ⟨z,9,none⟩ (.int .i64 v9))=wz at*
 have r0:=bs.cell 0;have r1:=bs.cell 1;have r2:=bs.cell 2;have r3:=bs.cell 3;have r4:=bs.cell 4;have r5:=bs.cell 5;have r6:=bs.cell 6;have r7:=bs.cell 7;have r8:=bs.cell 8;have r9:=bs.cell 9;simp only[Qz,Qs]at r0 r1 r2 r3 r4 r5 r6 r7 r8 r9;have hu9:=HU8.out.then_ us fun i e=> .inr (by unfold One at e;omega)
 refine bodyPost_ret (v:= .tuple #[.agg #[.int .i64 v0,.int .i64 v1,.bool v2,.slice A3 n3 m3,.int .i64 v4,.slice A5 n5 m5,.int .i64 v6,.int .i64 v7,.int .i64 v8,.int .i64 v9],.int .i64 0]) (by simp[results,Tryz.results12,go_sem,r0,r1,r2,r3,r4,r5,r6,r7,r8,r9]) rfl ⟨⟨_,⟨_,_,_,_,_,_,_,_,_,_,_,_,_,_,rfl⟩,rfl⟩,hu9⟩
set_option maxRecDepth 100000 in
set_option maxHeartbeats 2000000 in
theorem Zc8 (w:World):Calls Tryz.prog 12 #[.string ⟨#[]⟩] w fun e w'=>(∃v,Zb5 v∧e= .returned (.tuple #[v,.int .i64 12]))∧Upd No w w':=by
 obtain⟨z,hz⟩:∃z,w.heap.size=z:=⟨_,rfl⟩;obtain⟨wb,hwb⟩:∃wb,w.alloc (.cells #[.int .i64 0,.int .i64 0,.bool false,.slice none 0 0,.int .i64 0,.slice none 0 0,.int .i64 0,.int .i64 0,.int .i64 0,.int .i64 0] 36)=wb:=⟨_,rfl⟩;have ub:Upd No w wb:=by rw[←hwb];exact(Upd.refl No w).alloc _
 have bz:Blk wb z 36 [.int .i64 0,.int .i64 0,.bool false,.slice none 0 0,.int .i64 0,.slice none 0 0,.int .i64 0,.int .i64 0,.int .i64 0,.int .i64 0]:=by rw[←hwb,←hz];exact Blk.new w _ _
 have z0:=bz.cell 0;have h20:=bz.free 0;have z1:=bz.cell 1;have h21:=bz.free 1;have z2:=bz.cell 2;have h22:=bz.free 2;have z3:=bz.cell 3;have h23:=bz.free 3;have z4:=bz.cell 4;have h24:=bz.free 4;have z5:=bz.cell 5;have h25:=bz.free 5;have z6:=bz.cell 6;have h26:=bz.free 6;have z7:=bz.cell 7;have h27:=bz.free 7;have z8:=bz.cell 8;have h28:=bz.free 8;have z9:=bz.cell 9;have h29:=bz.free 9;simp only[Qz,Qs]at z0 z1 z2 z3 z4 z5 z6 z7 z8 z9;have BZ:=Qh bz;have UB:=Qh ub;clear bz ub
 have CW:Calls Tryz.prog 28 #[.string ⟨#[]⟩] wb fun e w'=>e= .returned (.tuple #[.slice none 0 0,.int .i64 0])∧wb=w':=by
  clear z0 z1 z2 z3 z4 z5 z6 z7 z8 z9 h20 h21 h22 h23 h24 h25 h26 h27 h28 h29 hwb;have he:(⟨#[]⟩:ByteArray).toList.isEmpty=true:=by kernel_rfl
  go_enter Tryz.func28,Tryz.ntmps28
  go_wp2
  go_ret2
  exact⟨rfl,rfl⟩
 have CW:=Qh CW
 go_enter Tryz.func12,Tryz.ntmps12
 go_wp2_with fail
 refine(CW.out).mono ?_;rintro e w1 ⟨rfl,rfl⟩;go_wp2;obtain⟨bs,us⟩:=ZH BZ.out (.int .i64 0) (.int .i64 0) (.bool false) (.slice none 0 0) (.int .i64 0) (.slice none 0 0) (.int .i64 0) (.int .i64 0) (.int .i64 0) (.int .i64 0)
 generalize ((((((((((wb.setCell ⟨z,0,none⟩ (.int .i64 0)).setCell ⟨z,1,none⟩ (.int .i64 0)).setCell ⟨z,2,none⟩ (.bool false)).setCell ⟨z,3,none⟩ (.slice none 0 0)).setCell ⟨z,4,none⟩ (.int .i64 0)).setCell ⟨z,5,none⟩ (.slice none 0 0)).setCell ⟨z,6,none⟩ (.int .i64 0)).setCell ⟨z,7,none⟩ (.int .i64 0)).setCell ⟨z,8,none⟩ (.int .i64 0)).setCell ⟨z,9,none⟩ (.int .i64 0))=wz at*
 have r0:=bs.cell 0;have r1:=bs.cell 1;have r2:=bs.cell 2;have r3:=bs.cell 3;have r4:=bs.cell 4;have r5:=bs.cell 5;have r6:=bs.cell 6;have r7:=bs.cell 7;have r8:=bs.cell 8;have r9:=bs.cell 9;simp only[Qz,Qs]at r0 r1 r2 r3 r4 r5 r6 r7 r8 r9;have hu9:=UB.out.then_ us fun i e=> .inr (by unfold One at e;omega)
 refine bodyPost_ret (v:= .tuple #[.agg #[.int .i64 0,.int .i64 0,.bool false,.slice none 0 0,.int .i64 0,.slice none 0 0,.int .i64 0,.int .i64 0,.int .i64 0,.int .i64 0],.int .i64 12]) (by simp[results,Tryz.results12,go_sem,r0,r1,r2,r3,r4,r5,r6,r7,r8,r9]) rfl ⟨⟨_,⟨_,_,_,_,_,_,_,_,_,_,_,_,_,_,rfl⟩,rfl⟩,hu9⟩
end
end Go.Proofs.YtbcpoloakepnkaaGreatDoor
