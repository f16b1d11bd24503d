/- Scripts out of numbers: a line is cut into words. -/
import Derived.Laws.RangeString
import Derived.Test.YtbcpoloakepnkaaGreatDoorLbap
import Derived.Test.YtbcpoloakepnkaaGreatDoorLbbb
import Derived.Test.YtbcpoloakepnkaaGreatDoorLbbc
namespace Go.Proofs.YtbcpoloakepnkaaGreatDoor
set_option linter.unusedVariables false
set_option linter.unusedSimpArgs false
section
open Go.RowKit
theorem ZcT {x:ByteArray} (h:WordB x):x.toList.isEmpty=false:=by
 rw[Lib.toList_data]
 cases hx:x.data.toList with
 |nil=>exact absurd hx h.1
 |cons y t=>rfl
set_option maxRecDepth 100000 in
set_option maxHeartbeats 2000000 in
theorem Zdv (w:World) (hm:MaxL w) (ws:List ByteArray) (hne:ws≠[]) (hw:∀x∈ws,WordB x) (hl:(Zo ws).size≤1000000) (hn:ws.length≤1000000):
  Calls Tryz.prog 28 #[.string (Zo ws)] w fun e w'=>∃A:Option Addr,e= .returned (.tuple #[.slice A ws.length ws.length,.int .i64 0])∧Strz (fun _=>True) w' A ws∧Upd No w w':=by
 have CS:=Qh (fun W (u:Upd No w W)=>Zdg W (hm.upd u) ws hne (fun x hx=>(hw x hx).nb) (by omega));have hb:=Zbb hw;have hj:=Zdc hw hne;have HW:=Qh (fun x hx=>ZcT (hw x hx));obtain⟨s,hs⟩:∃s,Zo ws=s:=⟨_,rfl⟩;obtain⟨N,hN⟩:∃N,ws.length=N:=⟨_,rfl⟩
 have he:s.toList.isEmpty=false:=by
  rw[Lib.toList_data,←hs]
  cases hx:(Zo ws).data.toList with
  |nil=>exact absurd hx hj
  |cons y t=>rfl
 have HB:=Qh (fun(i:Nat) (hi:i<s.size)=>show 32≤(s[i]'hi).toNat∧(s[i]'hi).toNat≤126 from hb _ (by subst hs;exact Array.getElem_mem_toList _));rw[hs,hN]at CS;rw[hs,hN];clear hs hb hj hm hw hl
 go_enter Tryz.func28,Tryz.ntmps28
 go_wp2
 go_loopg [5] s.size (fun gk c wr=>∃p:Nat,p+gk=s.size∧wr=w.iter s p)
 case atStart=>exact⟨0,by omega,rfl⟩
 case round=>
  obtain⟨p,hgk,rfl⟩:=hrel
  by_cases hlt:p<s.size
  ·obtain⟨x1,x2⟩:=HB.out p hlt;have hnx:=fun ty=>run_next_ascii (P:=Tryz.prog) w s p ty hlt (by omega)
   obtain⟨b,hb⟩:∃b,(s[p]'hlt).toNat=b:=⟨_,rfl⟩;rw[hb]at hnx x1 x2;have d1:decide ((b:Int)<32)=false:=decide_eq_false (by omega);have d2:decide ((126:Int)<(b:Int))=false:=decide_eq_false (by omega);have d3:decide (b<32)=false:=decide_eq_false (by omega);have d4:decide (126<b)=false:=decide_eq_false (by omega);clear hb x1 x2;go_wp2
   go_roundg (gk-1)
   case measure=>omega
   case rel=>exact⟨p+1,by omega,rfl⟩
  ·have hnx:=fun ty=>run_next_end (P:=Tryz.prog) w s p ty hlt
   have HUW:=Qh (show Upd No w (w.iter s p) from(Upd.refl No w).alloc _);have CSP:=Qh (CS.out _ HUW.out)
   generalize w.iter s p=wi at*
   clear CS
   go_wp2_with fail
   refine(CSP.out).mono ?_;rintro e w2 ⟨g,rfl,hs2,hu2⟩;have HS:=Qh hs2;have HU2:=Qh (HUW.out.trans hu2);clear hs2 hu2 CSP HUW hnx;go_wp2
   generalize (some (⟨g,0,none⟩:Addr):Option Addr)=A at*
   go_loopg [26] N (fun gk i wr=>∃k:Nat,k+gk=N∧i= .int .i64 (k:Int)∧wr=w2)
   case atStart=>exact⟨0,by omega,rfl,rfl⟩
   case round=>
    obtain⟨k,hgk,rfl,rfl⟩:=hrel
    by_cases hlt:k<N
    ·obtain⟨ad,hAd,_,_,q0⟩:=HS.out.at_ (k:=k) (by omega);subst hAd;have hx:=HW.out _ (List.getElem_mem (show k<ws.length by omega))
     generalize (ws[k]'(by omega))=x at*
     have b1:(0:Int)≤(k:Int):=Qn _;have b2:(k:Int)<(N:Int):=by omega
     go_wp2
     go_roundg (gk-1)
     case measure=>omega
     case rel=>exact⟨k+1,by omega,by go_num,rfl⟩
    ·obtain rfl:k=N:=by omega
     go_wp2
     go_ret2
     exact⟨_,rfl,HS.out,HU2.out⟩
end
/- Scripts out of numbers:a transaction is read. -/
section
open Go.RowKit
theorem Zcd {ops:List HOp} {k:Nat} (hk:k<ops.length):(ops.map Zb)[k]'(by rw[List.length_map];exact hk)=Zb ops[k]:=List.getElem_map ..
set_option maxRecDepth 100000 in
set_option maxHeartbeats 4000000 in
theorem Zc5 (w:World) (hm:MaxL w) (A:Option Addr) (c:Nat) (i:Int) (ops:List HOp) (hi:0≤i∧i≤2000000) (hn:ops.length≤100) (ho:∀o∈ops,opB o=true)
  (h:Strz (fun _=>True) w A (Za i::⟨#[99]⟩::ops.map Zb)) (hc:ops.length+2≤c):
  Calls Tryz.prog 45 #[.slice A (ops.length+2) c] w fun e w'=>(∃B d,e= .returned (.tuple #[.agg #[.int .i64 i,.bool true,.slice B ops.length d],.int .i64 0]))∧Upd No w w':=by
 have HS:=Qh h;have HCT:=Qh (h.cut (i:=2) (c:=c) (by simp;omega));have CN:=Qh (fun W=>ZaP W (Zc i) (Zt hi.1 hi.2).1 (by have:=(Zt hi.1 hi.2).2.2;omega) (by have:=(Zt hi.1 hi.2).2.1;omega));rw[(Zt hi.1 hi.2).2.2]at CN;rw[show(⟨(Zc i).toArray⟩:ByteArray)=Za i from rfl]at CN;have CO:=Qh (fun W (u:Upd No w W) o (h:o∈ops)=>Zcf W (hm.upd u) o (ho o h));unfold HOp.cells at CO;clear h hm ho hi;obtain⟨z,hz⟩:∃z,w.heap.size=z:=⟨_,rfl⟩;obtain⟨wb,hwb⟩:∃wb,w.alloc (.cells #[.int .i64 0,.bool false,.slice none 0 0] 31)=wb:=⟨_,rfl⟩;have ub:Upd No w wb:=by rw[←hwb];exact(Upd.refl No w).alloc _
 have bb:Blk wb z 31 [.int .i64 0,.bool false,.slice none 0 0]:=by rw[←hwb,←hz];exact Blk.new w _ _
 obtain⟨y,hy⟩:∃y,wb.heap.size=y:=⟨_,rfl⟩;obtain⟨wt,hwt⟩:∃wt,wb.alloc (.cells #[.int .i64 0,.bool false,.slice none 0 0] 31)=wt:=⟨_,rfl⟩;have ut:Upd No wb wt:=by rw[←hwt];exact(Upd.refl No wb).alloc _
 have bt:Blk wt y 31 [.int .i64 0,.bool false,.slice none 0 0]:=by rw[←hwt,←hy];exact Blk.new wb _ _
 have st:=Qh (show wt.heap.size=y+1 by rw[←hwt,←hy];simp);have t0:=bt.cell 0;have t1:=bt.cell 1;have t2:=bt.cell 2;have f0:=bt.free 0;have f1:=bt.free 1;have f2:=bt.free 2;simp only[Qz,Qs]at t0 t1 t2;have BT:=Qh bt;have UT:=Qh ut;have UB:=Qh ub;have HB:=Qh (fun W (u:Upd No wb W)=>bb.upd u id);have hA0:=(HS.out.upd ub (fun _ _=>id));obtain⟨ad,hAd,_,_,q0⟩:=hA0.at_ (k:=0) (by simp);obtain⟨ad',hAd',_,_,q1⟩:=hA0.at_ (k:=1) (by simp);rw[hAd]at hAd';obtain rfl:=Option.some.inj hAd';simp only[List.getElem_cons_zero,List.getElem_cons_succ]at q0 q1;have q0s:=q0;rw[show ad.add 0=ad by simp[Addr.add]]at q0s;have q1s:=q1;simp[Addr.add]at q1s;clear hA0 ub ut bb bt;have CNB:=Qh (CN.out wb)
 generalize Za i=si at*
 obtain⟨N,hN⟩:∃N,ops.length=N:=⟨_,rfl⟩;rw[hN];have d1:decide ((4095:Int)<(N:Int))=false:=decide_eq_false (by omega);have d2:decide (4095<N)=false:=decide_eq_false (by omega);have b0:(0:Int)<((N+2:Nat):Int):=by omega
 have b1:(1:Int)<((N+2:Nat):Int):=by omega
 have hcut:∀W,(Instr.slice 41 (.slice A (N+2) c) (some (.int .i64 2)) none none).run Tryz.prog W= .ok (.slice (ZO A c 2 1) N (c-2)) W:=fun W=>by
  have:=ZaM (P:=Tryz.prog) W Zz A (N+2) c 2 (by omega);rw[show N+2-2=N by omega]at this;exact this
 subst hAd
 go_enter Tryz.func45,Tryz.ntmps45
 go_wp2_with fail
 refine(CNB.out).mono ?_;rintro e w3 ⟨rfl,rfl⟩
 go_upto_region 9 with fail
 have bt:=((BT.out.set_ 0 (.int .i64 i)).set_ 1 (.bool true)).set_ 2 (.slice none 0 0);have us:=(((Upd.refl (One y) wt).setOne 0 (.int .i64 i)).setOne 1 (.bool true)).setOne 2 (.slice none 0 0);simp only[List.set_cons_zero,List.set_cons_succ]at bt;have HW4:=Qh (UT.out.then_ us fun i e=> .inr (by unfold One at e;omega));have HZ4:=Qh (show y+1≤_ from Nat.le_trans (by rw[st.out];exact Nat.le_refl _) us.size)
 generalize ((wt.setCell ⟨y,0,none⟩ (.int .i64 i)).setCell ⟨y,1,none⟩ (.bool true)).setCell ⟨y,2,none⟩ (.slice none 0 0)=w4 at*
 have BT4:=Qh bt;clear bt us t0 t1 t2 f0 f1 f2 q0 q1 q0s q1s BT UT hwt st CNB CN HS
 generalize ZO (some ad) c 2 1=A2 at*
 generalize c-2=c2 at*
 have CT:=Qh (fun W (u:Upd No wb W) k hk=>CO.out W (UB.out.trans u) (ops[k]'hk) (List.getElem_mem hk));go_wp2
 go_loopg [49] N (fun gk i_ wr=>∃(k:Nat) (B:Option Addr) (d:Nat),k+gk=N∧i_= .int .i64 (k:Int)∧Hid (Blk wr y 31 [.int .i64 i,.bool true,.slice B k d])∧Hid (wr.ownsRow (y+1) 82 4 (.slice B k d) k (opF (ops.take k)))∧Hid (Upd No wb wr))
 case atStart=>exact⟨0,none,0,by omega,rfl,BT4,Qh ⟨rfl,.inl ⟨rfl,rfl⟩⟩,HW4⟩
 case round=>
  obtain⟨k,B,d,hgk,rfl,hB,hO,hu⟩:=hrel
  by_cases hlt:k<N
  ·obtain⟨a2,hA2,_,_,q0⟩:=((show Strz (fun _=>True) w A2 (ops.map Zb) from HCT.out).upd (UB.out.trans hu.out) (fun _ _=>id)).at_ (k:=k) (by rw[List.length_map];omega);rw[Zcd (ops:=ops) (by omega)]at q0;subst hA2;have CK:=Qh (CT.out wr hu.out k (by omega));have HT:=Qh (show opF (ops.take (k+1))=opF (ops.take k)++(ops[k]'(by omega)).cells by rw[List.take_succ_eq_append_getElem (by omega),Zai])
   generalize (ops[k]'(by omega))=o at*
   obtain⟨r,kk,tt,nn⟩:=o
   generalize Zb ⟨r,kk,tt,nn⟩=so at*
   have i1:(0:Int)≤(k:Int):=Qn _;have i2:(k:Int)<(N:Int):=by omega
   go_wp2_with fail
   refine(CK.out).mono ?_;rintro e w5 ⟨rfl,hu5⟩;obtain⟨b,hb⟩:∃b,w5.heap.size=b:=⟨_,rfl⟩;obtain⟨w6,hw6⟩:∃w6,w5.alloc (.cells #[.bool false,.int .i64 0,.int .i64 0,.int .i64 0] 82)=w6:=⟨_,rfl⟩;have hu6:Upd No w5 w6:=by rw[←hw6];exact(Upd.refl No w5).alloc _
   have b6:Blk w6 b 82 [.bool false,.int .i64 0,.int .i64 0,.int .i64 0]:=by rw[←hw6,←hb];exact Blk.new w5 _ _
   have g0:=b6.cell 0;have g1:=b6.cell 1;have g2:=b6.cell 2;have g3:=b6.cell 3;have e0:=b6.free 0;have e1:=b6.free 1;have e2:=b6.free 2;have e3:=b6.free 3;simp only[Qz,Qs]at g0 g1 g2 g3;have B6:=Qh b6;have HU6:=Qh (hu5.trans hu6);have HS5:=Qh (show wr.heap.size≤b by rw[←hb];exact hu5.size);clear b6 hu5 hu6
   go_upto_region 13 with fail
   obtain⟨b7,us⟩:=ZaK B6.out (.bool r) (.int .i64 kk) (.int .i64 tt) (.int .i64 nn);have HU7:=Qh (HU6.out.then_ us fun j e=> .inr (by unfold One at e;subst e;exact HS5.out))
   generalize (((w6.setCell ⟨b,0,none⟩ (.bool r)).setCell ⟨b,1,none⟩ (.int .i64 kk)).setCell ⟨b,2,none⟩ (.int .i64 tt)).setCell ⟨b,3,none⟩ (.int .i64 nn)=w7 at*
   clear us g0 g1 g2 g3 e0 e1 e2 e3 hw6 B6 HU6;have g0:=b7.cell 0;have g1:=b7.cell 1;have g2:=b7.cell 2;have g3:=b7.cell 3;have by7:=hB.out.upd HU7.out id;have k2:=by7.cell 2;simp only[Qz,Qs]at g0 g1 g2 g3 k2;have hy7:=by7.lt;have BY7:=Qh by7;have OW7:=Qh (Zh hO.out HU7.out (fun _ _=>id));have HN7:=Qh (show¬Own (.slice B k d) y from fun e=>by have:=(OW7.out.lt y e).1;omega);clear b7 by7
   go_wp2_with (at_builtin;refine ZS rfl rfl Zae (base:=y+1) (v:= .slice B k d) (n:=k) (xs:=opF (ops.take k)) (cells:=[.bool r,.int .i64 kk,.int .i64 tt,.int .i64 nn]) (by rfl) (by rfl) OW7.out rfl rfl (by omega) (by omega) (by omega) ?_;intro g9 c9 w9 hown9 hu9 hg9 hlt9;have BT9:=BY7.out.upd hu9 HN7.out;have k9:=BT9.cell 2;have f9:=BT9.free 2;simp only[Qz,Qs]at k9;have HO9:=Qh hown9;have HU9:=Qh hu9;have BT9:=Qh BT9;clear hown9 hu9 hg9)
   have us:=(Upd.refl (One y) w9).setOne 2 (.slice (some ⟨g9,0,none⟩) (k+1) c9);have bs:=BT9.out.set_ 2 (.slice (some ⟨g9,0,none⟩) (k+1) c9);have hg:=(HO9.out.lt g9 rfl).1;have hz1:wb.heap.size=y:=hy;have hu10:=((hu.out.trans HU7.out).then_ HU9.out fun j e=> .inr (by have:=(OW7.out.lt j e).1;omega)).then_ us fun j e=> .inr (by unfold One at e;omega)
   have ho10:=Zh HO9.out us (fun j e e2=>by have:=(HO9.out.lt j e).1;unfold One at e2;omega)
   go_roundg (gk-1)
   case measure=>omega
   case rel=>exact⟨k+1,_,_,by omega,by go_num,Qh bs,Qh (by rw[HT.out];exact ho10),Qh hu10⟩
  ·obtain rfl:k=N:=by omega
   have k0:=hB.out.cell 0;have k1:=hB.out.cell 1;have k2:=hB.out.cell 2;have bz:=HB.out _ hu.out;have z0:=bz.cell 0;have z1:=bz.cell 1;have z2:=bz.cell 2;have f0:=bz.free 0;have f1:=bz.free 1;have f2:=bz.free 2;simp only[Qz,Qs]at k0 k1 k2 z0 z1 z2;have BZ:=Qh bz;clear bz;go_wp2;have bs:=((BZ.out.set_ 0 (.int .i64 i)).set_ 1 (.bool true)).set_ 2 (.slice B k d);have us:=(((Upd.refl (One z) wr).setOne 0 (.int .i64 i)).setOne 1 (.bool true)).setOne 2 (.slice B k d)
   generalize ((wr.setCell ⟨z,0,none⟩ (.int .i64 i)).setCell ⟨z,1,none⟩ (.bool true)).setCell ⟨z,2,none⟩ (.slice B k d)=wz at*
   have r0:=bs.cell 0;have r1:=bs.cell 1;have r2:=bs.cell 2;simp only[List.set_cons_zero,List.set_cons_succ,Qz,Qs]at r0 r1 r2;have hu9:=(UB.out.trans hu.out).then_ us fun j e=> .inr (by unfold One at e;omega)
   refine bodyPost_ret (v:= .tuple #[.agg #[.int .i64 i,.bool true,.slice B k d],.int .i64 0]) (by simp[results,Tryz.results45,go_sem,r0,r1,r2]) rfl ⟨⟨B,d,rfl⟩,hu9⟩
set_option maxRecDepth 100000 in
set_option maxHeartbeats 4000000 in
theorem Zc6 (w:World) (hm:MaxL w) (A:Option Addr) (c:Nat) (i:Int) (ops:List HOp) (hi:0≤i∧i≤2000000) (hn:ops.length≤100) (ho:∀o∈ops,opB o=true)
  (h:Strz (fun _=>True) w A (Za i::⟨#[97]⟩::ops.map Zb)) (hc:ops.length+2≤c):
  Calls Tryz.prog 45 #[.slice A (ops.length+2) c] w fun e w'=>(∃B d,e= .returned (.tuple #[.agg #[.int .i64 i,.bool false,.slice B ops.length d],.int .i64 0]))∧Upd No w w':=by
 have HS:=Qh h;have HCT:=Qh (h.cut (i:=2) (c:=c) (by simp;omega));have CN:=Qh (fun W=>ZaP W (Zc i) (Zt hi.1 hi.2).1 (by have:=(Zt hi.1 hi.2).2.2;omega) (by have:=(Zt hi.1 hi.2).2.1;omega));rw[(Zt hi.1 hi.2).2.2]at CN;rw[show(⟨(Zc i).toArray⟩:ByteArray)=Za i from rfl]at CN;have CO:=Qh (fun W (u:Upd No w W) o (h:o∈ops)=>Zcf W (hm.upd u) o (ho o h));unfold HOp.cells at CO;clear h hm ho hi;obtain⟨z,hz⟩:∃z,w.heap.size=z:=⟨_,rfl⟩;obtain⟨wb,hwb⟩:∃wb,w.alloc (.cells #[.int .i64 0,.bool false,.slice none 0 0] 31)=wb:=⟨_,rfl⟩;have ub:Upd No w wb:=by rw[←hwb];exact(Upd.refl No w).alloc _
 have bb:Blk wb z 31 [.int .i64 0,.bool false,.slice none 0 0]:=by rw[←hwb,←hz];exact Blk.new w _ _
 obtain⟨y,hy⟩:∃y,wb.heap.size=y:=⟨_,rfl⟩;obtain⟨wt,hwt⟩:∃wt,wb.alloc (.cells #[.int .i64 0,.bool false,.slice none 0 0] 31)=wt:=⟨_,rfl⟩;have ut:Upd No wb wt:=by rw[←hwt];exact(Upd.refl No wb).alloc _
 have bt:Blk wt y 31 [.int .i64 0,.bool false,.slice none 0 0]:=by rw[←hwt,←hy];exact Blk.new wb _ _
 have st:=Qh (show wt.heap.size=y+1 by rw[←hwt,←hy];simp);have t0:=bt.cell 0;have t1:=bt.cell 1;have t2:=bt.cell 2;have f0:=bt.free 0;have f1:=bt.free 1;have f2:=bt.free 2;simp only[Qz,Qs]at t0 t1 t2;have BT:=Qh bt;have UT:=Qh ut;have UB:=Qh ub;have HB:=Qh (fun W (u:Upd No wb W)=>bb.upd u id);have hA0:=(HS.out.upd ub (fun _ _=>id));obtain⟨ad,hAd,_,_,q0⟩:=hA0.at_ (k:=0) (by simp);obtain⟨ad',hAd',_,_,q1⟩:=hA0.at_ (k:=1) (by simp);rw[hAd]at hAd';obtain rfl:=Option.some.inj hAd';simp only[List.getElem_cons_zero,List.getElem_cons_succ]at q0 q1;have q0s:=q0;rw[show ad.add 0=ad by simp[Addr.add]]at q0s;have q1s:=q1;simp[Addr.add]at q1s;clear hA0 ub ut bb bt;have CNB:=Qh (CN.out wb)
 generalize Za i=si at*
 obtain⟨N,hN⟩:∃N,ops.length=N:=⟨_,rfl⟩;rw[hN];have d1:decide ((4095:Int)<(N:Int))=false:=decide_eq_false (by omega);have d2:decide (4095<N)=false:=decide_eq_false (by omega);have b0:(0:Int)<((N+2:Nat):Int):=by omega
 have b1:(1:Int)<((N+2:Nat):Int):=by omega
 have hcut:∀W,(Instr.slice 41 (.slice A (N+2) c) (some (.int .i64 2)) none none).run Tryz.prog W= .ok (.slice (ZO A c 2 1) N (c-2)) W:=fun W=>by
  have:=ZaM (P:=Tryz.prog) W Zz A (N+2) c 2 (by omega);rw[show N+2-2=N by omega]at this;exact this
 subst hAd
 go_enter Tryz.func45,Tryz.ntmps45
 go_wp2_with fail
 refine(CNB.out).mono ?_;rintro e w3 ⟨rfl,rfl⟩
 go_upto_region 9 with fail
 have bt:=((BT.out.set_ 0 (.int .i64 i)).set_ 1 (.bool false)).set_ 2 (.slice none 0 0);have us:=(((Upd.refl (One y) wt).setOne 0 (.int .i64 i)).setOne 1 (.bool false)).setOne 2 (.slice none 0 0);simp only[List.set_cons_zero,List.set_cons_succ]at bt;have HW4:=Qh (UT.out.then_ us fun i e=> .inr (by unfold One at e;omega));have HZ4:=Qh (show y+1≤_ from Nat.le_trans (by rw[st.out];exact Nat.le_refl _) us.size)
 generalize ((wt.setCell ⟨y,0,none⟩ (.int .i64 i)).setCell ⟨y,1,none⟩ (.bool false)).setCell ⟨y,2,none⟩ (.slice none 0 0)=w4 at*
 have BT4:=Qh bt;clear bt us t0 t1 t2 f0 f1 f2 q0 q1 q0s q1s BT UT hwt st CNB CN HS
 generalize ZO (some ad) c 2 1=A2 at*
 generalize c-2=c2 at*
 have CT:=Qh (fun W (u:Upd No wb W) k hk=>CO.out W (UB.out.trans u) (ops[k]'hk) (List.getElem_mem hk));go_wp2
 go_loopg [49] N (fun gk i_ wr=>∃(k:Nat) (B:Option Addr) (d:Nat),k+gk=N∧i_= .int .i64 (k:Int)∧Hid (Blk wr y 31 [.int .i64 i,.bool false,.slice B k d])∧Hid (wr.ownsRow (y+1) 82 4 (.slice B k d) k (opF (ops.take k)))∧Hid (Upd No wb wr))
 case atStart=>exact⟨0,none,0,by omega,rfl,BT4,Qh ⟨rfl,.inl ⟨rfl,rfl⟩⟩,HW4⟩
 case round=>
  obtain⟨k,B,d,hgk,rfl,hB,hO,hu⟩:=hrel
  by_cases hlt:k<N
  ·obtain⟨a2,hA2,_,_,q0⟩:=((show Strz (fun _=>True) w A2 (ops.map Zb) from HCT.out).upd (UB.out.trans hu.out) (fun _ _=>id)).at_ (k:=k) (by rw[List.length_map];omega);rw[Zcd (ops:=ops) (by omega)]at q0;subst hA2;have CK:=Qh (CT.out wr hu.out k (by omega));have HT:=Qh (show opF (ops.take (k+1))=opF (ops.take k)++(ops[k]'(by omega)).cells by rw[List.take_succ_eq_append_getElem (by omega),Zai])
   generalize (ops[k]'(by omega))=o at*
   obtain⟨r,kk,tt,nn⟩:=o
   generalize Zb ⟨r,kk,tt,nn⟩=so at*
   have i1:(0:Int)≤(k:Int):=Qn _;have i2:(k:Int)<(N:Int):=by omega
   go_wp2_with fail
   refine(CK.out).mono ?_;rintro e w5 ⟨rfl,hu5⟩;obtain⟨b,hb⟩:∃b,w5.heap.size=b:=⟨_,rfl⟩;obtain⟨w6,hw6⟩:∃w6,w5.alloc (.cells #[.bool false,.int .i64 0,.int .i64 0,.int .i64 0] 82)=w6:=⟨_,rfl⟩;have hu6:Upd No w5 w6:=by rw[←hw6];exact(Upd.refl No w5).alloc _
   have b6:Blk w6 b 82 [.bool false,.int .i64 0,.int .i64 0,.int .i64 0]:=by rw[←hw6,←hb];exact Blk.new w5 _ _
   have g0:=b6.cell 0;have g1:=b6.cell 1;have g2:=b6.cell 2;have g3:=b6.cell 3;have e0:=b6.free 0;have e1:=b6.free 1;have e2:=b6.free 2;have e3:=b6.free 3;simp only[Qz,Qs]at g0 g1 g2 g3;have B6:=Qh b6;have HU6:=Qh (hu5.trans hu6);have HS5:=Qh (show wr.heap.size≤b by rw[←hb];exact hu5.size);clear b6 hu5 hu6
   go_upto_region 13 with fail
   obtain⟨b7,us⟩:=ZaK B6.out (.bool r) (.int .i64 kk) (.int .i64 tt) (.int .i64 nn);have HU7:=Qh (HU6.out.then_ us fun j e=> .inr (by unfold One at e;subst e;exact HS5.out))
   generalize (((w6.setCell ⟨b,0,none⟩ (.bool r)).setCell ⟨b,1,none⟩ (.int .i64 kk)).setCell ⟨b,2,none⟩ (.int .i64 tt)).setCell ⟨b,3,none⟩ (.int .i64 nn)=w7 at*
   clear us g0 g1 g2 g3 e0 e1 e2 e3 hw6 B6 HU6;have g0:=b7.cell 0;have g1:=b7.cell 1;have g2:=b7.cell 2;have g3:=b7.cell 3;have by7:=hB.out.upd HU7.out id;have k2:=by7.cell 2;simp only[Qz,Qs]at g0 g1 g2 g3 k2;have hy7:=by7.lt;have BY7:=Qh by7;have OW7:=Qh (Zh hO.out HU7.out (fun _ _=>id));have HN7:=Qh (show¬Own (.slice B k d) y from fun e=>by have:=(OW7.out.lt y e).1;omega);clear b7 by7
   go_wp2_with (at_builtin;refine ZS rfl rfl Zae (base:=y+1) (v:= .slice B k d) (n:=k) (xs:=opF (ops.take k)) (cells:=[.bool r,.int .i64 kk,.int .i64 tt,.int .i64 nn]) (by rfl) (by rfl) OW7.out rfl rfl (by omega) (by omega) (by omega) ?_;intro g9 c9 w9 hown9 hu9 hg9 hlt9;have BT9:=BY7.out.upd hu9 HN7.out;have k9:=BT9.cell 2;have f9:=BT9.free 2;simp only[Qz,Qs]at k9;have HO9:=Qh hown9;have HU9:=Qh hu9;have BT9:=Qh BT9;clear hown9 hu9 hg9)
   have us:=(Upd.refl (One y) w9).setOne 2 (.slice (some ⟨g9,0,none⟩) (k+1) c9);have bs:=BT9.out.set_ 2 (.slice (some ⟨g9,0,none⟩) (k+1) c9);have hg:=(HO9.out.lt g9 rfl).1;have hz1:wb.heap.size=y:=hy;have hu10:=((hu.out.trans HU7.out).then_ HU9.out fun j e=> .inr (by have:=(OW7.out.lt j e).1;omega)).then_ us fun j e=> .inr (by unfold One at e;omega)
   have ho10:=Zh HO9.out us (fun j e e2=>by have:=(HO9.out.lt j e).1;unfold One at e2;omega)
   go_roundg (gk-1)
   case measure=>omega
   case rel=>exact⟨k+1,_,_,by omega,by go_num,Qh bs,Qh (by rw[HT.out];exact ho10),Qh hu10⟩
  ·obtain rfl:k=N:=by omega
   have k0:=hB.out.cell 0;have k1:=hB.out.cell 1;have k2:=hB.out.cell 2;have bz:=HB.out _ hu.out;have z0:=bz.cell 0;have z1:=bz.cell 1;have z2:=bz.cell 2;have f0:=bz.free 0;have f1:=bz.free 1;have f2:=bz.free 2;simp only[Qz,Qs]at k0 k1 k2 z0 z1 z2;have BZ:=Qh bz;clear bz;go_wp2;have bs:=((BZ.out.set_ 0 (.int .i64 i)).set_ 1 (.bool false)).set_ 2 (.slice B k d);have us:=(((Upd.refl (One z) wr).setOne 0 (.int .i64 i)).setOne 1 (.bool false)).setOne 2 (.slice B k d)
   generalize ((wr.setCell ⟨z,0,none⟩ (.int .i64 i)).setCell ⟨z,1,none⟩ (.bool false)).setCell ⟨z,2,none⟩ (.slice B k d)=wz at*
   have r0:=bs.cell 0;have r1:=bs.cell 1;have r2:=bs.cell 2;simp only[List.set_cons_zero,List.set_cons_succ,Qz,Qs]at r0 r1 r2;have hu9:=(UB.out.trans hu.out).then_ us fun j e=> .inr (by unfold One at e;omega)
   refine bodyPost_ret (v:= .tuple #[.agg #[.int .i64 i,.bool false,.slice B k d],.int .i64 0]) (by simp[results,Tryz.results45,go_sem,r0,r1,r2]) rfl ⟨⟨B,d,rfl⟩,hu9⟩
end
end Go.Proofs.YtbcpoloakepnkaaGreatDoor
