/- Scripts out of numbers: the document's script and limits. -/
import Derived.Test.YtbcpoloakepnkaaGreatDoorLaba
namespace Go.Proofs.YtbcpoloakepnkaaGreatDoor
set_option linter.unusedVariables false
set_option linter.unusedSimpArgs false
section
open Go.RowKit
theorem ZbA {mx nxt:BitVec 64→BitVec 64} {seed:BitVec 64} {k:Nat} {sb ln:ByteArray} (h:sb=⟨(Zx mx nxt seed k).toArray⟩) (hl:Zf mx nxt seed ((k:Int)+1)=ln):sb++(ln++⟨#[10]⟩)=⟨(Zx mx nxt seed (k+1)).toArray⟩:=by
 subst h;rw[Zx,hl]
 apply ByteArray.ext
 simp
set_option maxRecDepth 100000 in
set_option maxHeartbeats 2000000 in
theorem ZcG {mx nxt:BitVec 64→BitVec 64} (HM:∀x,mx x=Bv.mix x) (HX:Nx nxt) (w:World) (seed:BitVec 64) (n:Int) (hn:n≤900):
  Calls Tryz.prog 9 #[U seed,.int .i64 n] w fun e w'=>e= .returned (.string (ZF mx nxt seed n))∧Upd No w w':=by
 have m1:(⟨#[10]⟩:ByteArray).size=1:=rfl;obtain⟨c,hc⟩:∃c,(min n 1000).toNat=c:=⟨_,rfl⟩;have HC:=Qh hc;clear hc;have CL:=Qh (fun W i hi=>Zbi HM HX W seed i hi);clear HM HX;unfold U at CL ⊢
 go_enter Tryz.func9,Tryz.ntmps9
 go_wp2
 go_loopg [5,6] (c+1) (fun gk ss s wr=>∃(k:Nat) (sb:ByteArray),k+gk=c+1∧k≤c∧s= .int .i64 ((k:Int)+1)∧ss= .string sb∧Hid (sb=⟨(Zx mx nxt seed k).toArray⟩)∧sb.size≤1001*k∧Upd No w wr)
 case atStart=>exact⟨0,_,by omega,by omega,rfl,rfl,Qh rfl,by decide,Upd.refl _ _⟩
 case round=>
  obtain⟨k,sb,hgk,hkc,rfl,rfl,hs,hsz,hu⟩:=hrel;have hd2:decide ((k:Int)+1≤1000)=true:=decide_eq_true (by have:=HC.out;omega)
  by_cases hlt:k<c
  ·have hd:decide ((k:Int)+1≤n)=true:=decide_eq_true (by have:=HC.out;omega);have CLK:=Qh (CL.out wr ((k:Int)+1) ⟨by have:=HC.out;omega,by have:=HC.out;omega⟩);have n1:=Zaw mx nxt seed ((k:Int)+1);have hc10:c≤1000:=by have:=HC.out;omega
   obtain⟨ln,hln⟩:∃ln,Zf mx nxt seed ((k:Int)+1)=ln:=⟨_,rfl⟩;have HS:=Qh (ZbA hs.out hln);rw[hln]at CLK n1;have p1:¬9223372036854775807<ln.size+1:=by omega
   have p2:¬9223372036854775807<sb.size+(ln.size+1):=by omega
   have HZ:=Qh (show(sb++(ln++⟨#[10]⟩)).size≤1001*(k+1) by rw[ByteArray.size_append,ByteArray.size_append,m1];omega);have HUR:=Qh hu;have hk2:wrap64 ((k:Int)+1+1)=(k:Int)+1+1:=IntWalk.wrap64_in _ (by omega);clear n1 hln hs hu
   go_wp2_with fail
   refine(CLK.out).mono ?_;rintro e w5 ⟨rfl,hu5⟩;have HU5:=Qh (HUR.out.trans hu5);clear hu5;go_wp2
   go_roundg (gk-1)
   case measure=>omega
   case rel=>exact⟨k+1,_,by omega,by omega,by go_num,rfl,HS,HZ.out,HU5.out⟩
  ·have hd:decide ((k:Int)+1≤n)=false:=decide_eq_false (by have:=HC.out;omega);obtain rfl:k=c:=by omega
   have HV:=Qh (show ZF mx nxt seed n=sb by unfold ZF;rw[HC.out,hs.out]);go_wp2
   go_ret
   exact⟨by rw[HV.out];rfl,hu⟩
theorem ZdR (W:World) (x:BitVec 64):Calls Tryz.prog 20 #[U x,.int .i64 60] W fun e w'=>e= .returned (.int .i64 (ofD x 60))∧W=w':=Zac W x 60 (by omega) (by omega)
theorem Zc5 (W:World) (x:BitVec 64):Calls Tryz.prog 20 #[U x,.int .i64 400] W fun e w'=>e= .returned (.int .i64 (ofD x 400))∧W=w':=Zac W x 400 (by omega) (by omega)
theorem ZdS (W:World) (x:BitVec 64):Calls Tryz.prog 20 #[U x,.int .i64 20] W fun e w'=>e= .returned (.int .i64 (ofD x 20))∧W=w':=Zac W x 20 (by omega) (by omega)
theorem ZdQ (W:World) (x:BitVec 64):Calls Tryz.prog 20 #[U x,.int .i64 64] W fun e w'=>e= .returned (.int .i64 (ofD x 64))∧W=w':=Zac W x 64 (by omega) (by omega)
set_option maxRecDepth 100000 in
set_option maxHeartbeats 2000000 in
theorem Za5 {nxt:BitVec 64→BitVec 64} (HX:Nx nxt) (w:World) (s:BitVec 64):
  Calls Tryz.prog 11 #[U s] w fun e w'=>e= .returned (.agg (ZaN nxt s).toArray)∧Upd No w w':=by
 obtain⟨z,hz⟩:∃z,w.heap.size=z:=⟨_,rfl⟩;obtain⟨wa,hwa⟩:∃wa,w.alloc (.cells #[.int .i64 0,.int .i64 0,.int .i64 0,.int .i64 0,.int .i64 0] 26)=wa:=⟨_,rfl⟩;have ua:Upd No w wa:=by rw[←hwa];exact(Upd.refl No w).alloc _
 have ba:Blk wa z 26 [.int .i64 0,.int .i64 0,.int .i64 0,.int .i64 0,.int .i64 0]:=by rw[←hwa,←hz];exact Blk.new w _ _
 have CN:=Qh (fun W y=>ZbH HX W y);have D1:=Qh (fun W=>ZdR W (nxt s));have D2:=Qh (fun W=>Zc5 W (nxt (nxt s)));have D3:=Qh (fun W=>ZdS W (nxt (nxt (nxt s))));have D4:=Qh (fun W=>ZdQ W (nxt (nxt (nxt (nxt s)))));have HV:=Qh (show ZaN nxt s=[.int .i64 (4+ofD (nxt s) 60),.int .i64 8,.int .i64 (40+ofD (nxt (nxt s)) 400),.int .i64 (ofD (nxt (nxt (nxt s))) 20),.int .i64 (64+ofD (nxt (nxt (nxt (nxt s)))) 64)] from rfl);have a0:=Zi (nxt s) 60;have a1:=Zk (nxt s) (k:=60) (by omega);have b0:=Zi (nxt (nxt s)) 400;have b1:=Zk (nxt (nxt s)) (k:=400) (by omega);have d0:=Zi (nxt (nxt (nxt (nxt s)))) 64;have d1:=Zk (nxt (nxt (nxt (nxt s)))) (k:=64) (by omega)
 generalize ofD (nxt s) 60=va at*
 generalize ofD (nxt (nxt s)) 400=vb at*
 generalize ofD (nxt (nxt (nxt s))) 20=vc at*
 generalize ofD (nxt (nxt (nxt (nxt s)))) 64=vd at*
 have e1:wrap64 (4+va)=4+va:=IntWalk.wrap64_in _ (by omega);have e2:wrap64 (40+vb)=40+vb:=IntWalk.wrap64_in _ (by omega);have e3:wrap64 (64+vd)=64+vd:=IntWalk.wrap64_in _ (by omega);have r0:=ba.cell 0;have k0:=ba.free 0;have r1:=ba.cell 1;have k1:=ba.free 1;have r2:=ba.cell 2;have k2:=ba.free 2;have r3:=ba.cell 3;have k3:=ba.free 3;have r4:=ba.cell 4;have k4:=ba.free 4;simp only[Qz,Qs]at r0 r1 r2 r3 r4;have BZ:=Qh ba;have UA:=Qh ua;have HZ:=Qh hz;clear ua ba a0 a1 b0 b1 d0 d1 HX
 go_enter Tryz.func11,Tryz.ntmps11
 go_wp2_with fail
 refine(CN.out _ _).mono ?_;rintro e w1 ⟨rfl,rfl⟩
 go_wp2_with fail
 refine(CN.out _ _).mono ?_;rintro e w2 ⟨rfl,rfl⟩
 go_wp2_with fail
 refine(CN.out _ _).mono ?_;rintro e w3 ⟨rfl,rfl⟩
 go_wp2_with fail
 refine(CN.out _ _).mono ?_;rintro e w4 ⟨rfl,rfl⟩
 go_wp2_with fail
 refine(D1.out _).mono ?_;rintro e w5 ⟨rfl,rfl⟩
 go_wp2_with fail
 refine(D2.out _).mono ?_;rintro e w6 ⟨rfl,rfl⟩
 go_wp2_with fail
 refine(D3.out _).mono ?_;rintro e w7 ⟨rfl,rfl⟩
 go_wp2_with fail
 refine(D4.out _).mono ?_;rintro e w8 ⟨rfl,rfl⟩;go_wp2;obtain⟨bs,us⟩:=Zc1 BZ.out (.int .i64 (4+va)) (.int .i64 8) (.int .i64 (40+vb)) (.int .i64 vc) (.int .i64 (64+vd))
 generalize (((((wa.setCell ⟨z,0,none⟩ (.int .i64 (4+va))).setCell ⟨z,1,none⟩ (.int .i64 8)).setCell ⟨z,2,none⟩ (.int .i64 (40+vb))).setCell ⟨z,3,none⟩ (.int .i64 vc)).setCell ⟨z,4,none⟩ (.int .i64 (64+vd)))=wz at*
 have q0:=bs.cell 0;have q1:=bs.cell 1;have q2:=bs.cell 2;have q3:=bs.cell 3;have q4:=bs.cell 4;simp only[Qz,Qs]at q0 q1 q2 q3 q4;have hu:=UA.out.then_ us fun i e=> .inr (by have:=HZ.out;unfold One at e;omega)
 refine bodyPost_ret (v:= .agg #[.int .i64 (4+va),.int .i64 8,.int .i64 (40+vb),.int .i64 vc,.int .i64 (64+vd)]) (by simp[results,Tryz.results11,go_sem,q0,q1,q2,q3,q4]) rfl ⟨by rw[HV.out],?_⟩;exact hu
end
end Go.Proofs.YtbcpoloakepnkaaGreatDoor
