/- Scripts out of numbers: a transaction that is added. -/
import Derived.Test.YtbcpoloakepnkaaGreatDoorLbaj
import Derived.Test.YtbcpoloakepnkaaGreatDoorLbao
namespace Go.Proofs.YtbcpoloakepnkaaGreatDoor
set_option linter.unusedVariables false
set_option linter.unusedSimpArgs false
section
open Go.RowKit
def opD (nxt:BitVec 64→BitVec 64) (x:BitVec 64) (i:Nat):HOp:=
 if ofD (nxt x) 3=2∧0<ofD (nxt (nxt x)) i then ⟨true,Zv (ofD (nxt (nxt x)) i),ofD (nxt (nxt x)) i,1⟩ else ⟨decide (0<ofD (nxt x) 3),Zv (ofD (nxt (nxt x)) i),0,0⟩
def Zj (nxt:BitVec 64→BitVec 64) (i:Nat):Nat→BitVec 64→List HOp
 |0,_=>[]
 |n+1,x=>opD nxt x i::Zj nxt i n (nxt (nxt x))
def ZaN (nxt:BitVec 64→BitVec 64):Nat→BitVec 64→BitVec 64
 |0,x=>x
 |n+1,x=>ZaN nxt n (nxt (nxt x))
def Z6 (nxt:BitVec 64→BitVec 64) (x:BitVec 64):Bool:=decide (0<ofD (nxt x) 6)
def Z8 (nxt:BitVec 64→BitVec 64) (x:BitVec 64):Nat:=(nxt (nxt x)).toNat%4
def ZQ (nxt:BitVec 64→BitVec 64) (x:BitVec 64) (i:Nat):List HOp:=⟨false,Zv i,0,0⟩::Zj nxt i (Z8 nxt x) (nxt (nxt x))
def ZbC (nxt:BitVec 64→BitVec 64) (x:BitVec 64):BitVec 64:=ZaN nxt (Z8 nxt x) (nxt (nxt x))
theorem ZaI (nxt:BitVec 64→BitVec 64) (i:Nat):∀(n:Nat) (x:BitVec 64),(Zj nxt i n x).length=n
 |0,_=>by unfold Zj;rfl
 |n+1,x=>by unfold Zj;rw[List.length_cons,ZaI nxt i n]
theorem Zcu (nxt:BitVec 64→BitVec 64) (x:BitVec 64) (i:Nat):(ZQ nxt x i).length≤4:=by
 unfold ZQ;rw[List.length_cons,ZaI];have:Z8 nxt x<4:=Nat.mod_lt _ (by omega);omega
def opF (l:List HOp):List Value:=(l.map HOp.cells).flatten
theorem Zai (l:List HOp) (o:HOp):opF (l++[o])=opF l++o.cells:=by unfold opF;simp
theorem Zae:SlT Tryz.prog 29 82 4 32:=SlT.mk_ Tryz.underlying29 (z:= .agg #[.bool false,.int .i64 0,.int .i64 0,.int .i64 0]) (by kernel_rfl) rfl (by omega)
theorem Zc0 (w:World) (r:Bool) (k t n:Int):(w.alloc (.cells #[.bool r,.int .i64 k,.int .i64 t,.int .i64 n] 82)).ownsRow w.heap.size 82 4 (.slice (some ⟨w.heap.size,0,none⟩) 1 1) 1 (opF [⟨r,k,t,n⟩]):=
 ⟨rfl,.inr ⟨w.heap.size,1,#[.bool r,.int .i64 k,.int .i64 t,.int .i64 n],rfl,Nat.le_refl _,heap_alloc_new w _,Nat.le_refl _,by unfold maxLen;omega,rfl,rfl⟩⟩
theorem ZH {W:World} {b:Nat} {ty:TypeId} {c0 c1 c2 c3 c4 c5 c6 c7 c8 c9:Value} (h:Blk W b ty [c0,c1,c2,c3,c4,c5,c6,c7,c8,c9]) (v0 v1 v2 v3 v4 v5 v6 v7 v8 v9:Value):
  Blk ((((((((((W.setCell ⟨b,0,none⟩ v0).setCell ⟨b,1,none⟩ v1).setCell ⟨b,2,none⟩ v2).setCell ⟨b,3,none⟩ v3).setCell ⟨b,4,none⟩ v4).setCell ⟨b,5,none⟩ v5).setCell ⟨b,6,none⟩ v6).setCell ⟨b,7,none⟩ v7).setCell ⟨b,8,none⟩ v8).setCell ⟨b,9,none⟩ v9) b ty [v0,v1,v2,v3,v4,v5,v6,v7,v8,v9]∧Upd (One b) W ((((((((((W.setCell ⟨b,0,none⟩ v0).setCell ⟨b,1,none⟩ v1).setCell ⟨b,2,none⟩ v2).setCell ⟨b,3,none⟩ v3).setCell ⟨b,4,none⟩ v4).setCell ⟨b,5,none⟩ v5).setCell ⟨b,6,none⟩ v6).setCell ⟨b,7,none⟩ v7).setCell ⟨b,8,none⟩ v8).setCell ⟨b,9,none⟩ v9):=by
 refine⟨?_,(((((((((((Upd.refl _ _).setOne 0 _).setOne 1 _).setOne 2 _).setOne 3 _).setOne 4 _).setOne 5 _).setOne 6 _).setOne 7 _).setOne 8 _).setOne 9 _)⟩;have:=(((((((((h.set_ 0 v0).set_ 1 v1).set_ 2 v2).set_ 3 v3).set_ 4 v4).set_ 5 v5).set_ 6 v6).set_ 7 v7).set_ 8 v8).set_ 9 v9
 simpa only[List.set_cons_zero,List.set_cons_succ]using this
set_option maxRecDepth 100000 in
set_option maxHeartbeats 4000000 in
theorem Zew {nxt:BitVec 64→BitVec 64} (HX:Nx nxt) (W:World) (g:Nat) (x:BitVec 64) (i:Nat) (hi:1≤i) (hi2:i≤1000) (hb:Blk W g 44 [U x]):
  Calls Tryz.prog 41 #[.pointer (some ⟨g,0,none⟩),.int .i64 (i:Int)] W fun e w'=>∃A c,e= .returned (.agg #[.int .i64 1,.int .i64 (i:Int),.bool (Z6 nxt x),.slice A (ZQ nxt x i).length c,.int .i64 0,.slice none 0 0,.int .i64 0,.int .i64 0,.int .i64 0,.int .i64 0])∧
   w'.ownsRow W.heap.size 82 4 (.slice A (ZQ nxt x i).length c) (ZQ nxt x i).length (opF (ZQ nxt x i))∧Blk w' g 44 [U (ZbC nxt x)]∧Upd (One g) W w':=by
 have hglt:=hb.lt;have CD6:=Qh (fun w (u:Upd No W w)=>Zch HX w g x (hb.upd u id));have CK:=Qh (fun w=>ZdN w (i:Int) (by omega) (by omega));obtain⟨DN,hDN⟩:∃d,decide (0<ofD (nxt x) 6)=d:=⟨_,rfl⟩;obtain⟨V6,hV6⟩:∃v,ofD (nxt x) 6=v:=⟨_,rfl⟩;rw[hV6]at CD6 hDN;obtain⟨KI,hKI⟩:∃k,Zv (i:Int)=k:=⟨_,rfl⟩;rw[hKI]at CK;have HDN:=Qh (show Z6 nxt x=DN by unfold Z6;rw[hV6];exact hDN);obtain⟨wa,hwa⟩:∃wa,W.alloc (.cells #[.int .i64 0,.int .i64 0,.bool false,.slice none 0 0,.int .i64 0,.slice none 0 0,.int .i64 0,.int .i64 0,.int .i64 0,.int .i64 0] 36)=wa:=⟨_,rfl⟩;obtain⟨z,hz⟩:∃z,W.heap.size=z:=⟨_,rfl⟩;have ua:Upd No W wa:=by rw[←hwa];exact(Upd.refl No W).alloc _
 have ba:Blk wa z 36 [.int .i64 0,.int .i64 0,.bool false,.slice none 0 0,.int .i64 0,.slice none 0 0,.int .i64 0,.int .i64 0,.int .i64 0,.int .i64 0]:=by rw[←hwa,←hz];exact Blk.new W _ _
 clear hV6 hb
 go_enter Tryz.func41,Tryz.ntmps41
 go_wp2_with fail
 refine(CD6.out _ ua).mono ?_;rintro e w1 ⟨rfl,hb1,hu1⟩
 go_wp2_with fail
 refine(CK.out _).mono ?_;rintro e w2 ⟨rfl,rfl⟩;obtain⟨y,hy⟩:∃y,w1.heap.size=y:=⟨_,rfl⟩;obtain⟨wb,hwb⟩:∃wb,w1.alloc (.cells #[.bool false,.int .i64 KI,.int .i64 0,.int .i64 0] 82)=wb:=⟨_,rfl⟩;have sb:wb.heap.size=y+1:=by rw[←hwb,←hy];simp
 obtain⟨wt,hwt⟩:∃wt,wb.alloc (.cells #[.int .i64 (i:Int),.bool DN,.slice (some ⟨y,0,none⟩) 1 1] 31)=wt:=⟨_,rfl⟩;have ub:Upd No w1 wb:=by rw[←hwb];exact(Upd.refl No w1).alloc _
 have ut:Upd No wb wt:=by rw[←hwt];exact(Upd.refl No wb).alloc _
 have oB:wb.ownsRow y 82 4 (.slice (some ⟨y,0,none⟩) 1 1) 1 (opF [⟨false,KI,0,0⟩]):=by rw[←hwb,←hy];exact Zc0 w1 _ _ _ _
 have bT:Blk wt (y+1) 31 [.int .i64 (i:Int),.bool DN,.slice (some ⟨y,0,none⟩) 1 1]:=by rw[←hwt,←sb];exact Blk.new wb _ _
 have hzy:z<y:=by have:=ba.lt;have:=hu1.size;omega
 have hgy:g<y:=by have:=ua.size;have:=hu1.size;omega
 have hgz:g<z:=by omega
 have ba1:=ba.upd hu1 (show¬One g z from fun e=>by unfold One at e;omega);have BZ:=Qh ((ba1.upd ub id).upd ut id);have OB:=Qh (Zh oB ut (fun _ _=>id));have BT:=Qh bT;have bg:=(hb1.upd ub id).upd ut id;obtain⟨N,hN⟩:∃N,Z8 nxt x=N:=⟨_,rfl⟩;have hN4:N<4:=by rw[←hN];exact Nat.mod_lt _ (by omega)
 have CD4:=Qh (ZdW HX wt g (nxt x) bg);rw[show ofD (nxt (nxt x)) 4=(N:Int) by rw[←hN];unfold ofD Z8;rfl]at CD4;have UT:=Qh ((ua.mono (fun _ _ e=>e.elim)).trans (hu1.trans ((ub.trans ut).mono (fun _ _ e=>e.elim))):Upd (One g) W wt);have HF:=Qh (show ZQ nxt x i=⟨false,KI,0,0⟩::Zj nxt i N (nxt (nxt x)) by unfold ZQ;rw[hN,hKI]);have HE:=Qh (show ZbC nxt x=ZaN nxt N (nxt (nxt x)) by unfold ZbC;rw[hN]);clear ba ba1 ub ut oB bT bg hN hKI hDN hb1 hu1 ua
 go_wp2_with fail
 refine CD4.out.mono ?_;rintro e w3 ⟨rfl,hb3,hu3⟩;have HB3:=Qh hb3;have HU3:=Qh hu3;clear hb3 hu3;go_wp2;have HZ:=Qh hz;clear hwa hwb hwt hy hz sb
 go_loopg [20] N (fun gk j wr=>∃(k:Nat) (A5:Option Addr) (c5:Nat) (l:List HOp) (xs:BitVec 64),k+gk=N∧j= .int .i64 (k:Int)∧Hid (l++Zj nxt i (N-k) xs=ZQ nxt x i)∧Hid (ZaN nxt (N-k) xs=ZbC nxt x)∧l.length≤k+1∧Hid (W.heap.size≤wr.heap.size)∧Hid (wr.ownsRow y 82 4 (.slice A5 l.length c5) l.length (opF l))∧Hid (¬Own (.slice A5 l.length c5) (y+1))∧
  Hid (Blk wr g 44 [U xs])∧Hid (Blk wr (y+1) 31 [.int .i64 (i:Int),.bool DN,.slice A5 l.length c5])∧Hid (Blk wr z 36 [.int .i64 0,.int .i64 0,.bool false,.slice none 0 0,.int .i64 0,.slice none 0 0,.int .i64 0,.int .i64 0,.int .i64 0,.int .i64 0])∧Hid (Upd (One g) W wr))
 case atStart=>
  exact⟨0,some ⟨y,0,none⟩,1,[⟨false,KI,0,0⟩],nxt (nxt x),by omega,rfl,Qh (by rw[HF.out,Nat.sub_zero,List.singleton_append]),Qh (by rw[Nat.sub_zero];exact HE.out.symm),by simp,Qh (by have:=UT.out.size;have:=HU3.out.size;omega),Qh (Zh OB.out HU3.out (fun i e e2=>by have:=(OB.out.lt i e).1;unfold One at e2;omega)),Qh (fun e=>by unfold Own Value.ownBlock at e;simp at e),
   HB3,Qh (BT.out.upd HU3.out (fun e=>by unfold One at e;omega)),Qh (BZ.out.upd HU3.out (fun e=>by unfold One at e;omega)),Qh (UT.out.trans HU3.out)⟩
 case round=>
  obtain⟨k,A5,c5,l,xs,hgk,rfl,hfull,hend,hll,hul,hown,hnot,hbg,hbt,hbz,hu⟩:=hrel
  by_cases hlt:k<N
  ·have HN:=Qh (show Zj nxt i (N-k) xs=opD nxt xs i::Zj nxt i (N-(k+1)) (nxt (nxt xs)) by rw[show N-k=(N-(k+1))+1 by omega,Zj]);have HNE:=Qh (show ZaN nxt (N-k) xs=ZaN nxt (N-(k+1)) (nxt (nxt xs)) by rw[show N-k=(N-(k+1))+1 by omega,ZaN]);have CD3:=Qh (Za9 HX wr g xs hbg.out);have CDI:=Qh (fun w (hb:Blk w g 44 [U (nxt xs)])=>Zap HX w g (nxt xs) i (by omega) (by omega) hb);have hj0:=Zg (nxt (nxt xs)) i;have hj1:=Zi (nxt (nxt xs)) (k:=i) (by omega);obtain⟨V3,hV3⟩:∃v,ofD (nxt xs) 3=v:=⟨_,rfl⟩;obtain⟨VJ,hVJ⟩:∃v,ofD (nxt (nxt xs)) i=v:=⟨_,rfl⟩;rw[hV3]at CD3;rw[hVJ]at CDI hj0 hj1;have CKJ:=Qh (fun w=>ZdN w VJ hj0 (by omega));obtain⟨KJ,hKJ⟩:∃v,Zv VJ=v:=⟨_,rfl⟩;rw[hKJ]at CKJ;have HO:=Qh (show opD nxt xs i=if V3=2∧0<VJ then ⟨true,KJ,VJ,1⟩ else ⟨decide (0<V3),KJ,0,0⟩ by unfold opD;rw[hV3,hVJ,hKJ]);obtain⟨D3,hD3⟩:∃d,decide (0<V3)=d:=⟨_,rfl⟩;rw[hD3]at HO;clear hV3 hVJ hKJ hj1
   go_wp2_with fail
   refine(CD3.out).mono ?_;rintro e w4 ⟨rfl,hb4,hu4⟩
   go_wp2_with fail
   refine(CDI.out _ hb4).mono ?_;rintro e w5 ⟨rfl,hb5,hu5⟩;have HB5:=Qh hb5;have HU5:=Qh (hu4.trans hu5);clear hb4 hu4 hb5 hu5
   go_upto_region 5 with fail
   go_cut [8] (fun s wx=>∃b:Nat,s= .pointer (some ⟨b,0,none⟩)∧Blk wx b 82 [Value.bool D3,Value.int .i64 KJ,Value.int .i64 0,Value.int .i64 0]∧w5.heap.size≤b∧Upd No w5 wx)
   case first=>
    go_wp2_with fail
    refine(CKJ.out _).mono ?_;rintro e w6 ⟨rfl,rfl⟩
    go_wp2_with fail
    go_meet
    exact⟨_,rfl,Blk.new w5 _ _,Nat.le_refl _,(Upd.refl No w5).alloc _⟩
   case rest=>
    obtain⟨b,rfl,hbo,hgeb,hu6⟩:=hcut;obtain⟨w6,hw6⟩:∃w6,w6=wc:=⟨_,rfl⟩;subst hw6;have hlb:=hbt.out.lt;have hs5:=HU5.out.size;have BT6:=(hbt.out.upd HU5.out (show¬One g (y+1) from fun e=>by unfold One at e;omega)).upd hu6 id;have BG6:=Qh (HB5.out.upd hu6 id);have BZ6:=Qh ((hbz.out.upd HU5.out (show¬One g z from fun e=>by unfold One at e;omega)).upd hu6 id);have OW6:=Zh (Zh hown.out HU5.out (fun i e e2=>by have:=(hown.out.lt i e).1;unfold One at e2;omega)) hu6 (fun _ _=>id);have HU6:=Qh (hu.out.trans (HU5.out.trans (hu6.mono (fun _ _ e=>e.elim))));have HGB:=Qh hgeb;have hs6:=hu6.size;have HLW:=Qh (fun i (e:Own (.slice A5 l.length c5) i)=>(hown.out.lt i e).2);have BT6:=Qh BT6;have OW6:=Qh OW6;clear hu6 hbt hbg hbz hu hown HB5 CD3 CDI CKJ
    by_cases e3:V3=2
    ·subst e3;have hD:true=D3:=by rw[←hD3];rfl
     subst hD
     by_cases ej:0<VJ
     ·have d1:decide (0<VJ)=true:=decide_eq_true ej;have HOE:=Qh (show opD nxt xs i=⟨true,KJ,VJ,1⟩ by rw[HO.out,if_pos ⟨rfl,ej⟩]);have c2:=hbo.cell 2;have f2:=hbo.free 2;simp only[Qz,Qs]at c2;obtain⟨w7,hw7⟩:∃w7,w6.setCell ⟨b,2,none⟩ (.int .i64 VJ)=w7:=⟨_,rfl⟩;have hb7:=hbo.set_ 2 (.int .i64 VJ);rw[hw7]at hb7;have c3:=hb7.cell 3;have f3:=hb7.free 3;simp only[List.set_cons_zero,List.set_cons_succ,Qz,Qs]at c3;obtain⟨w8,hw8⟩:∃w8,w7.setCell ⟨b,3,none⟩ (.int .i64 1)=w8:=⟨_,rfl⟩;have hb8:Blk w8 b 82 [.bool true,.int .i64 KJ,.int .i64 VJ,.int .i64 1]:=by rw[←hw8];exact hb7.set_ 3 (.int .i64 1)
      have hu8:Upd (One b) w6 w8:=by rw[←hw8,←hw7];exact((Upd.refl _ _).setOne 2 _).setOne 3 _
      clear hb7 hbo ej hD3;have q0:=hb8.cell 0;have q1:=hb8.cell 1;have q2:=hb8.cell 2;have q3:=hb8.cell 3;simp only[Qz,Qs]at q0 q1 q2 q3;have BT8:=BT6.out.upd hu8 (show¬One b (y+1) from fun e=>by have:=HGB.out;unfold One at e;omega);have k2:=BT8.cell 2;simp only[Qz,Qs]at k2;have BT8:=Qh BT8;have BG8:=Qh (BG6.out.upd hu8 (show¬One b g from fun e=>by have:=HGB.out;unfold One at e;omega));have BZ8:=Qh (BZ6.out.upd hu8 (show¬One b z from fun e=>by have:=HGB.out;unfold One at e;omega));have OW8:=Qh (Zh OW6.out hu8 (fun i e e2=>by have:=HLW.out i e;have:=HGB.out;unfold One at e2;omega));have HU8:=Qh (HU6.out.then_ hu8 (fun i e=> .inr (by have:=HGB.out;have:=HU5.out.size;have:=hul.out;unfold One at e;omega)));have hs8:=hu8.size;clear hu8 hb8
      go_wp2_with (at_builtin;refine ZS rfl rfl Zae (base:=y) (v:= .slice A5 l.length c5) (n:=l.length) (xs:=opF l) (cells:=[.bool true,.int .i64 KJ,.int .i64 VJ,.int .i64 1]) (by rfl) (by rfl) OW8.out rfl rfl (by omega) (by omega) (by omega) ?_;intro g9 c9 w9 hown9 hu9 hg9 hlt9;have BT9:=BT8.out.upd hu9 hnot.out;have k9:=BT9.cell 2;have f9:=BT9.free 2;simp only[Qz,Qs]at k9;have HO9:=Qh hown9;have HU9:=Qh hu9;have BT9:=Qh BT9;have HG9:=Qh hg9;clear hown9 hu9 hg9)
      have us:=(Upd.refl (One (y+1)) w9).setOne 2 (.slice (some ⟨g9,0,none⟩) (l.length+1) c9)
      have hnq:g9≠y+1:=fun e=>by
       rcases HG9.out with h|h
       ·exact hnot.out (by unfold Own;rw[h,e])
       ·omega
      have hng:∀i,Own (.slice A5 l.length c5) i→y≤i:=fun i e=>(OW8.out.lt i e).1
      go_roundg (gk-1)
      case measure=>omega
      case rel=>
       refine⟨k+1,some ⟨g9,0,none⟩,c9,l++[opD nxt xs i],nxt (nxt xs),by omega,by go_num,Qh (by rw[←hfull.out,HN.out];simp),Qh (by rw[←HNE.out];exact hend.out),?_,?_,?_,Qh (fun e=>by unfold Own Value.ownBlock at e;simp at e;exact hnq e),?_,?_,?_,?_⟩
       ·rw[List.length_append,List.length_singleton];omega
       ·refine Qh ?_;have h1:=HU8.out.size;have h2:=HU9.out.size;have h3:=us.size;omega
       ·refine Qh (Zh ?_ us (fun i e e2=> ?_))
        ·rw[Zai,HOE.out,List.length_append,List.length_singleton];exact HO9.out
        ·unfold One at e2;unfold Own Value.ownBlock at e;simp at e;omega
       ·exact Qh ((BG8.out.upd HU9.out (fun e=>by have:=hng g e;omega)).upd us (fun e=>by unfold One at e;omega))
       ·refine Qh ?_;have:=BT9.out.set_ 2 (.slice (some ⟨g9,0,none⟩) (l.length+1) c9)
        simpa using this
       ·exact Qh ((BZ8.out.upd HU9.out (fun e=>by have:=hng z e;omega)).upd us (fun e=>by unfold One at e;omega))
       ·exact Qh ((HU8.out.then_ HU9.out (fun i e=> .inr (by have:=hng i e;have:=HZ.out;omega))).then_ us (fun i e=> .inr (by have:=HZ.out;unfold One at e;omega)))
     ·have d1:decide (0<VJ)=false:=decide_eq_false ej;have HOE:=Qh (show opD nxt xs i=⟨true,KJ,0,0⟩ by rw[HO.out,if_neg (fun h=>ej h.2)]);have hb8:=hbo;have hu8:Upd (One b) w6 w6:=Upd.refl _ _;clear hbo ej hD3;have q0:=hb8.cell 0;have q1:=hb8.cell 1;have q2:=hb8.cell 2;have q3:=hb8.cell 3;simp only[Qz,Qs]at q0 q1 q2 q3;have BT8:=BT6.out.upd hu8 (show¬One b (y+1) from fun e=>by have:=HGB.out;unfold One at e;omega);have k2:=BT8.cell 2;simp only[Qz,Qs]at k2;have BT8:=Qh BT8;have BG8:=Qh (BG6.out.upd hu8 (show¬One b g from fun e=>by have:=HGB.out;unfold One at e;omega));have BZ8:=Qh (BZ6.out.upd hu8 (show¬One b z from fun e=>by have:=HGB.out;unfold One at e;omega));have OW8:=Qh (Zh OW6.out hu8 (fun i e e2=>by have:=HLW.out i e;have:=HGB.out;unfold One at e2;omega));have HU8:=Qh (HU6.out.then_ hu8 (fun i e=> .inr (by have:=HGB.out;have:=HU5.out.size;have:=hul.out;unfold One at e;omega)));have hs8:=hu8.size;clear hu8 hb8
      go_wp2_with (at_builtin;refine ZS rfl rfl Zae (base:=y) (v:= .slice A5 l.length c5) (n:=l.length) (xs:=opF l) (cells:=[.bool true,.int .i64 KJ,.int .i64 0,.int .i64 0]) (by rfl) (by rfl) OW8.out rfl rfl (by omega) (by omega) (by omega) ?_;intro g9 c9 w9 hown9 hu9 hg9 hlt9;have BT9:=BT8.out.upd hu9 hnot.out;have k9:=BT9.cell 2;have f9:=BT9.free 2;simp only[Qz,Qs]at k9;have HO9:=Qh hown9;have HU9:=Qh hu9;have BT9:=Qh BT9;have HG9:=Qh hg9;clear hown9 hu9 hg9)
      have us:=(Upd.refl (One (y+1)) w9).setOne 2 (.slice (some ⟨g9,0,none⟩) (l.length+1) c9)
      have hnq:g9≠y+1:=fun e=>by
       rcases HG9.out with h|h
       ·exact hnot.out (by unfold Own;rw[h,e])
       ·omega
      have hng:∀i,Own (.slice A5 l.length c5) i→y≤i:=fun i e=>(OW8.out.lt i e).1
      go_roundg (gk-1)
      case measure=>omega
      case rel=>
       refine⟨k+1,some ⟨g9,0,none⟩,c9,l++[opD nxt xs i],nxt (nxt xs),by omega,by go_num,Qh (by rw[←hfull.out,HN.out];simp),Qh (by rw[←HNE.out];exact hend.out),?_,?_,?_,Qh (fun e=>by unfold Own Value.ownBlock at e;simp at e;exact hnq e),?_,?_,?_,?_⟩
       ·rw[List.length_append,List.length_singleton];omega
       ·refine Qh ?_;have h1:=HU8.out.size;have h2:=HU9.out.size;have h3:=us.size;omega
       ·refine Qh (Zh ?_ us (fun i e e2=> ?_))
        ·rw[Zai,HOE.out,List.length_append,List.length_singleton];exact HO9.out
        ·unfold One at e2;unfold Own Value.ownBlock at e;simp at e;omega
       ·exact Qh ((BG8.out.upd HU9.out (fun e=>by have:=hng g e;omega)).upd us (fun e=>by unfold One at e;omega))
       ·refine Qh ?_;have:=BT9.out.set_ 2 (.slice (some ⟨g9,0,none⟩) (l.length+1) c9)
        simpa using this
       ·exact Qh ((BZ8.out.upd HU9.out (fun e=>by have:=hng z e;omega)).upd us (fun e=>by unfold One at e;omega))
       ·exact Qh ((HU8.out.then_ HU9.out (fun i e=> .inr (by have:=hng i e;have:=HZ.out;omega))).then_ us (fun i e=> .inr (by have:=HZ.out;unfold One at e;omega)))
    ·have d0:(V3==2)=false:=by simpa using e3
     have HOE:=Qh (show opD nxt xs i=⟨D3,KJ,0,0⟩ by rw[HO.out,if_neg (fun h=>e3 h.1)]);have hb8:=hbo;have hu8:Upd (One b) w6 w6:=Upd.refl _ _;clear hbo e3 hD3;have q0:=hb8.cell 0;have q1:=hb8.cell 1;have q2:=hb8.cell 2;have q3:=hb8.cell 3;simp only[Qz,Qs]at q0 q1 q2 q3;have BT8:=BT6.out.upd hu8 (show¬One b (y+1) from fun e=>by have:=HGB.out;unfold One at e;omega);have k2:=BT8.cell 2;simp only[Qz,Qs]at k2;have BT8:=Qh BT8;have BG8:=Qh (BG6.out.upd hu8 (show¬One b g from fun e=>by have:=HGB.out;unfold One at e;omega));have BZ8:=Qh (BZ6.out.upd hu8 (show¬One b z from fun e=>by have:=HGB.out;unfold One at e;omega));have OW8:=Qh (Zh OW6.out hu8 (fun i e e2=>by have:=HLW.out i e;have:=HGB.out;unfold One at e2;omega));have HU8:=Qh (HU6.out.then_ hu8 (fun i e=> .inr (by have:=HGB.out;have:=HU5.out.size;have:=hul.out;unfold One at e;omega)));have hs8:=hu8.size;clear hu8 hb8
     go_wp2_with (at_builtin;refine ZS rfl rfl Zae (base:=y) (v:= .slice A5 l.length c5) (n:=l.length) (xs:=opF l) (cells:=[.bool D3,.int .i64 KJ,.int .i64 0,.int .i64 0]) (by rfl) (by rfl) OW8.out rfl rfl (by omega) (by omega) (by omega) ?_;intro g9 c9 w9 hown9 hu9 hg9 hlt9;have BT9:=BT8.out.upd hu9 hnot.out;have k9:=BT9.cell 2;have f9:=BT9.free 2;simp only[Qz,Qs]at k9;have HO9:=Qh hown9;have HU9:=Qh hu9;have BT9:=Qh BT9;have HG9:=Qh hg9;clear hown9 hu9 hg9)
     have us:=(Upd.refl (One (y+1)) w9).setOne 2 (.slice (some ⟨g9,0,none⟩) (l.length+1) c9)
     have hnq:g9≠y+1:=fun e=>by
      rcases HG9.out with h|h
      ·exact hnot.out (by unfold Own;rw[h,e])
      ·omega
     have hng:∀i,Own (.slice A5 l.length c5) i→y≤i:=fun i e=>(OW8.out.lt i e).1
     go_roundg (gk-1)
     case measure=>omega
     case rel=>
      refine⟨k+1,some ⟨g9,0,none⟩,c9,l++[opD nxt xs i],nxt (nxt xs),by omega,by go_num,Qh (by rw[←hfull.out,HN.out];simp),Qh (by rw[←HNE.out];exact hend.out),?_,?_,?_,Qh (fun e=>by unfold Own Value.ownBlock at e;simp at e;exact hnq e),?_,?_,?_,?_⟩
      ·rw[List.length_append,List.length_singleton];omega
      ·refine Qh ?_;have h1:=HU8.out.size;have h2:=HU9.out.size;have h3:=us.size;omega
      ·refine Qh (Zh ?_ us (fun i e e2=> ?_))
       ·rw[Zai,HOE.out,List.length_append,List.length_singleton];exact HO9.out
       ·unfold One at e2;unfold Own Value.ownBlock at e;simp at e;omega
      ·exact Qh ((BG8.out.upd HU9.out (fun e=>by have:=hng g e;omega)).upd us (fun e=>by unfold One at e;omega))
      ·refine Qh ?_;have:=BT9.out.set_ 2 (.slice (some ⟨g9,0,none⟩) (l.length+1) c9)
       simpa using this
      ·exact Qh ((BZ8.out.upd HU9.out (fun e=>by have:=hng z e;omega)).upd us (fun e=>by unfold One at e;omega))
      ·exact Qh ((HU8.out.then_ HU9.out (fun i e=> .inr (by have:=hng i e;have:=HZ.out;omega))).then_ us (fun i e=> .inr (by have:=HZ.out;unfold One at e;omega)))
  ·obtain rfl:k=N:=by omega
   have e0:l=ZQ nxt x i:=by have:=hfull.out;rw[Nat.sub_self,Zj,List.append_nil]at this;exact this
   have e1:xs=ZbC nxt x:=by have:=hend.out;rw[Nat.sub_self,ZaN]at this;exact this
   have E0:=Qh e0;have E1:=Qh e1;have bt:=hbt.out;have t0:=bt.cell 0;have t1:=bt.cell 1;have t2:=bt.cell 2;have bz:=hbz.out;have d0:=bz.cell 0;have k0:=bz.free 0;have d1:=bz.cell 1;have k1:=bz.free 1;have d2:=bz.cell 2;have k2:=bz.free 2;have d3:=bz.cell 3;have k3:=bz.free 3;have d4:=bz.cell 4;have k4:=bz.free 4;have d5:=bz.cell 5;have k5:=bz.free 5;have d6:=bz.cell 6;have k6:=bz.free 6;have d7:=bz.cell 7;have k7:=bz.free 7;have d8:=bz.cell 8;have k8:=bz.free 8;have d9:=bz.cell 9;have k9:=bz.free 9;simp only[Qz,Qs]at t0 t1 t2 d0 d1 d2 d3 d4 d5 d6 d7 d8 d9;have HBZ:=Qh bz;have HBG:=Qh hbg.out;have HOW:=Qh hown.out;have HUU:=Qh hu.out;clear e0 e1 bt bz hbt hbz hbg hown hu hfull hend hnot;go_wp2;obtain⟨b9,u9⟩:=ZH HBZ.out (.int .i64 1) (.int .i64 (i:Int)) (.bool DN) (.slice A5 l.length c5) (.int .i64 0) (.slice none 0 0) (.int .i64 0) (.int .i64 0) (.int .i64 0) (.int .i64 0);have r0:=b9.cell 0;have r1:=b9.cell 1;have r2:=b9.cell 2;have r3:=b9.cell 3;have r4:=b9.cell 4;have r5:=b9.cell 5;have r6:=b9.cell 6;have r7:=b9.cell 7;have r8:=b9.cell 8;have r9:=b9.cell 9;simp only[Qz,Qs]at r0 r1 r2 r3 r4 r5 r6 r7 r8 r9;refine bodyPost_ret (v:= .agg #[.int .i64 1,.int .i64 (i:Int),.bool DN,.slice A5 l.length c5,.int .i64 0,.slice none 0 0,.int .i64 0,.int .i64 0,.int .i64 0,.int .i64 0]) (by simp[results,Tryz.results41,go_sem,r0,r1,r2,r3,r4,r5,r6,r7,r8,r9]) rfl ?_;refine⟨A5,c5,by rw[HDN.out,←E0.out],?_,?_,?_⟩
   ·rw[←E0.out];refine Zby (Zh HOW.out u9 (fun i e e2=> ?_)) ?_
    ·have:=(HOW.out.lt i e).1;unfold One at e2;omega
    ·have:=HZ.out;omega
   ·rw[←E1.out];exact HBG.out.upd u9 (fun e=>by unfold One at e;omega)
   ·exact HUU.out.then_ u9 (fun i e=> .inr (by have:=HZ.out;unfold One at e;omega))
end
end Go.Proofs.YtbcpoloakepnkaaGreatDoor
