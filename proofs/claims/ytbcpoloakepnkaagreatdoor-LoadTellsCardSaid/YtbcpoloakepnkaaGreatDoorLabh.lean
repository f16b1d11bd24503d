/- Scripts out of numbers: a command is filled. -/
import Derived.BigRegion
import Derived.Test.YtbcpoloakepnkaaGreatDoorLabf
import Derived.Test.YtbcpoloakepnkaaGreatDoorLabg
namespace Go.Proofs.YtbcpoloakepnkaaGreatDoor
set_option linter.unusedVariables false
set_option linter.unusedSimpArgs false
section
open Go.RowKit
def Zp (t:Nat):List Value:=[.int .i64 (t:Int),.int .i64 0,.bool false,.slice none 0 0,.int .i64 0,.slice none 0 0,.int .i64 0,.int .i64 0,.int .i64 0,.int .i64 0]
def Z5 (w:World) (g:Nat) (e:Ending) (w':World):Prop:=e= .returned (.int .i64 0)∧(∃(k i ok ky id pl ph:Int) (d:Bool) (A B:Option Addr) (n c m r:Nat),Blk w' g 36 [.int .i64 k,.int .i64 i,.bool d,.slice A n c,.int .i64 ok,.slice B m r,.int .i64 ky,.int .i64 id,.int .i64 pl,.int .i64 ph])∧Upd (One g) w w'
set_option maxRecDepth 100000 in
set_option maxHeartbeats 2000000 in
theorem Zdx (w:World) (g:Nat) (A:Option Addr) (c:Nat) (j:Int) (hj:Ze j) (hb:Blk w g 36 (Zp 3)) (hs:Strz (fun _=>True) w A [Za j]):
  Calls Tryz.prog 31 #[.pointer (some ⟨g,0,none⟩),.slice A 1 c] w (Z5 w g):=by
 have CN:=Qh (Zag w A c [j] hs (fun n hn=>by rw[List.mem_singleton.1 hn];exact hj) (by simp));have c0:=hb.cell 0;simp only[Zp,Qz]at c0;have HB:=Qh hb;clear hb hs
 go_enter Tryz.func31,Tryz.ntmps31
 go_wp2_with fail
 refine(CN.out).mono ?_;rintro e w1 ⟨B,d,rfl,hi,hu1⟩;obtain⟨ad,rfl,_,_,q⟩:=hi (by simp);have q0:w1.cell? ad=some (.int .i64 j):=by have:=q 0 j rfl;simpa[Addr.add]using this
 clear q hi;have b1:=HB.out.upd hu1 id;have c0:=b1.cell 0;have c4:=b1.cell 4;have c5:=b1.cell 5;have c6:=b1.cell 6;have c7:=b1.cell 7;have c8:=b1.cell 8;have c9:=b1.cell 9;have f4:=b1.free 4;have f5:=b1.free 5;have f6:=b1.free 6;have f7:=b1.free 7;have f8:=b1.free 8;have f9:=b1.free 9;simp only[Zp,Qz,Qs]at c0 c4 c5 c6 c7 c8 c9;have HU1:=Qh (show Upd (One g) w w1 from hu1.mono fun _ _ e=>e.elim);have B1:=Qh b1;clear b1 hu1;go_wp2
 go_ret
 exact⟨rfl,⟨_,_,_,_,_,_,_,_,_,_,_,_,_,_,B1.out.set_ 7 _⟩,HU1.out.setOne 7 _⟩
set_option maxRecDepth 100000 in
set_option maxHeartbeats 2000000 in
theorem ZdB (w:World) (g:Nat) (A:Option Addr) (c:Nat) (hb:Blk w g 36 (Zp 6)):
  Calls Tryz.prog 31 #[.pointer (some ⟨g,0,none⟩),.slice A 0 c] w (Z5 w g):=by
 have CN:=Qh (Zag w A c [] (fun h=>absurd rfl h) (fun n hn=>by simp at hn) (by simp));have c0:=hb.cell 0;simp only[Zp,Qz]at c0;have HB:=Qh hb;clear hb
 go_enter Tryz.func31,Tryz.ntmps31
 go_wp2_with fail
 refine(CN.out).mono ?_;rintro e w1 ⟨B,d,rfl,hi,hu1⟩;clear hi;have b1:=HB.out.upd hu1 id;have c0:=b1.cell 0;have c4:=b1.cell 4;have c5:=b1.cell 5;have c6:=b1.cell 6;have c7:=b1.cell 7;have c8:=b1.cell 8;have c9:=b1.cell 9;have f4:=b1.free 4;have f5:=b1.free 5;have f6:=b1.free 6;have f7:=b1.free 7;have f8:=b1.free 8;have f9:=b1.free 9;simp only[Zp,Qz,Qs]at c0 c4 c5 c6 c7 c8 c9;have HU1:=Qh (show Upd (One g) w w1 from hu1.mono fun _ _ e=>e.elim);have B1:=Qh b1;clear b1 hu1;go_wp2
 go_ret
 exact⟨rfl,⟨_,_,_,_,_,_,_,_,_,_,_,_,_,_,B1.out⟩,HU1.out⟩
set_option maxRecDepth 100000 in
set_option maxHeartbeats 2000000 in
theorem ZdA (w:World) (g:Nat) (A:Option Addr) (c:Nat) (hb:Blk w g 36 (Zp 7)):
  Calls Tryz.prog 31 #[.pointer (some ⟨g,0,none⟩),.slice A 0 c] w (Z5 w g):=by
 have CN:=Qh (Zag w A c [] (fun h=>absurd rfl h) (fun n hn=>by simp at hn) (by simp));have c0:=hb.cell 0;simp only[Zp,Qz]at c0;have HB:=Qh hb;clear hb
 go_enter Tryz.func31,Tryz.ntmps31
 go_wp2_with fail
 refine(CN.out).mono ?_;rintro e w1 ⟨B,d,rfl,hi,hu1⟩;clear hi;have b1:=HB.out.upd hu1 id;have c0:=b1.cell 0;have c4:=b1.cell 4;have c5:=b1.cell 5;have c6:=b1.cell 6;have c7:=b1.cell 7;have c8:=b1.cell 8;have c9:=b1.cell 9;have f4:=b1.free 4;have f5:=b1.free 5;have f6:=b1.free 6;have f7:=b1.free 7;have f8:=b1.free 8;have f9:=b1.free 9;simp only[Zp,Qz,Qs]at c0 c4 c5 c6 c7 c8 c9;have HU1:=Qh (show Upd (One g) w w1 from hu1.mono fun _ _ e=>e.elim);have B1:=Qh b1;clear b1 hu1;go_wp2
 go_ret
 exact⟨rfl,⟨_,_,_,_,_,_,_,_,_,_,_,_,_,_,B1.out⟩,HU1.out⟩
set_option maxRecDepth 100000 in
set_option maxHeartbeats 2000000 in
theorem Zdz (w:World) (g:Nat) (A:Option Addr) (c:Nat) (hb:Blk w g 36 (Zp 8)):
  Calls Tryz.prog 31 #[.pointer (some ⟨g,0,none⟩),.slice A 0 c] w (Z5 w g):=by
 have CN:=Qh (Zag w A c [] (fun h=>absurd rfl h) (fun n hn=>by simp at hn) (by simp));have c0:=hb.cell 0;simp only[Zp,Qz]at c0;have HB:=Qh hb;clear hb
 go_enter Tryz.func31,Tryz.ntmps31
 go_wp2_with fail
 refine(CN.out).mono ?_;rintro e w1 ⟨B,d,rfl,hi,hu1⟩;clear hi;have b1:=HB.out.upd hu1 id;have c0:=b1.cell 0;have c4:=b1.cell 4;have c5:=b1.cell 5;have c6:=b1.cell 6;have c7:=b1.cell 7;have c8:=b1.cell 8;have c9:=b1.cell 9;have f4:=b1.free 4;have f5:=b1.free 5;have f6:=b1.free 6;have f7:=b1.free 7;have f8:=b1.free 8;have f9:=b1.free 9;simp only[Zp,Qz,Qs]at c0 c4 c5 c6 c7 c8 c9;have HU1:=Qh (show Upd (One g) w w1 from hu1.mono fun _ _ e=>e.elim);have B1:=Qh b1;clear b1 hu1;go_wp2
 go_ret
 exact⟨rfl,⟨_,_,_,_,_,_,_,_,_,_,_,_,_,_,B1.out⟩,HU1.out⟩
set_option maxRecDepth 100000 in
set_option maxHeartbeats 2000000 in
theorem Zdw (w:World) (g:Nat) (A:Option Addr) (c:Nat) (k j p:Int) (hk:Ze k) (hj:Ze j) (hp:Ze p) (hb:Blk w g 36 (Zp 5)) (hs:Strz (fun _=>True) w A [Za k,Za j,Za p]):
  Calls Tryz.prog 31 #[.pointer (some ⟨g,0,none⟩),.slice A 3 c] w (Z5 w g):=by
 have CN:=Qh (Zag w A c [k,j,p] hs (fun n hn=>by simp only[List.mem_cons,List.not_mem_nil,or_false]at hn;rcases hn with rfl|rfl|rfl<;>assumption) (by simp));have c0:=hb.cell 0;simp only[Zp,Qz]at c0;have HB:=Qh hb;clear hb hs
 go_enter Tryz.func31,Tryz.ntmps31
 go_wp2_with fail
 refine(CN.out).mono ?_;rintro e w1 ⟨B,d,rfl,hi,hu1⟩;obtain⟨ad,rfl,_,hlt,q⟩:=hi (by simp);have q0:w1.cell? ad=some (.int .i64 k):=by have:=q 0 k rfl;simpa[Addr.add]using this
 have q1:=q 1 j rfl;have q2:=q 2 p rfl;have q1s:=q1;have q2s:=q2;simp[Addr.add]at q1s q2s;clear q hi;have b1:=HB.out.upd hu1 id;have c0:=b1.cell 0;have c4:=b1.cell 4;have c5:=b1.cell 5;have c6:=b1.cell 6;have c7:=b1.cell 7;have c8:=b1.cell 8;have c9:=b1.cell 9;have f4:=b1.free 4;have f5:=b1.free 5;have f6:=b1.free 6;have f7:=b1.free 7;have f8:=b1.free 8;have f9:=b1.free 9;simp only[Zp,Qz,Qs]at c0 c4 c5 c6 c7 c8 c9;have HU1:=Qh (show Upd (One g) w w1 from hu1.mono fun _ _ e=>e.elim);have B1:=Qh b1;clear b1 hu1
 go_upto_region 23 with fail
 go_region
 go_wp2
 go_ret
 exact⟨rfl,⟨_,_,_,_,_,_,_,_,_,_,_,_,_,_,(((B1.out.set_ 6 _).set_ 7 _).set_ 8 _).drew⟩,(((HU1.out.setOne 6 _).setOne 7 _).setOne 8 _).drew⟩
set_option maxRecDepth 100000 in
set_option maxHeartbeats 2000000 in
theorem Zdv (w:World) (g:Nat) (A:Option Addr) (c:Nat) (p:Int) (hp:1≤p∧p≤5) (hb:Blk w g 36 (Zp 9)) (hs:Strz (fun _=>True) w A [Zj p]):
  Calls Tryz.prog 31 #[.pointer (some ⟨g,0,none⟩),.slice A 1 c] w (Z5 w g):=by
 have e:ZbI (Zj p)=p:=by
  obtain rfl|rfl|rfl|rfl|rfl:p=1∨p=2∨p=3∨p=4∨p=5:=by omega
  all_goals decide
 have CP:=Qh (Zd0 w (Zj p));rw[e]at CP;obtain⟨ad,rfl,_,hlt,q⟩:=hs (by simp);have q0:w.cell? ad=some (.string (Zj p)):=by have:=q 0 (Zj p) rfl;simpa[Addr.add]using this
 clear q hs e
 generalize Zj p=cp at*
 have hp0:(p==0)=false:=by rw[beq_eq_false_iff_ne];omega
 have c0:=hb.cell 0;simp only[Zp,Qz]at c0;have HB:=Qh hb;clear hb
 go_enter Tryz.func31,Tryz.ntmps31
 go_wp2_with fail
 refine(CP.out).mono ?_;rintro e w1 ⟨rfl,hu1⟩;have h0:w1.cell? ⟨g,9,none⟩=w1.cell? ⟨g,9,none⟩:=rfl;clear h0;have b1:=HB.out.upd hu1 id;have c0:=b1.cell 0;have c4:=b1.cell 4;have c5:=b1.cell 5;have c6:=b1.cell 6;have c7:=b1.cell 7;have c8:=b1.cell 8;have c9:=b1.cell 9;have f4:=b1.free 4;have f5:=b1.free 5;have f6:=b1.free 6;have f7:=b1.free 7;have f8:=b1.free 8;have f9:=b1.free 9;simp only[Zp,Qz,Qs]at c0 c4 c5 c6 c7 c8 c9;have HU1:=Qh (show Upd (One g) w w1 from hu1.mono fun _ _ e=>e.elim);have B1:=Qh b1;clear b1 hu1;go_wp2
 go_ret
 exact⟨rfl,⟨_,_,_,_,_,_,_,_,_,_,_,_,_,_,B1.out.set_ 9 _⟩,HU1.out.setOne 9 _⟩
end
end Go.Proofs.YtbcpoloakepnkaaGreatDoor
