/- Scripts out of numbers: an operation is read. -/
import Derived.Test.YtbcpoloakepnkaaGreatDoorLbbb
namespace Go.Proofs.YtbcpoloakepnkaaGreatDoor
set_option linter.unusedVariables false
set_option linter.unusedSimpArgs false
section
open Go.RowKit
def n3 (ds:List (List UInt8)) (k j:Nat):Int:=if j<k then (Zm (ds.getD j []):Int) else 0
def ZJ (ds:List (List UInt8)) (k:Nat):List Value:=[.int .i64 (n3 ds k 0),.int .i64 (n3 ds k 1),.int .i64 (n3 ds k 2)]
theorem ZaY (ds:List (List UInt8)) (k:Nat) {j:Nat} (h:j<3):∃v,(ZJ ds k)[j]? =some v:=⟨_,Qg (by unfold ZJ;exact h)⟩
theorem ZaX {ds:List (List UInt8)} {k:Nat} (hk:k<ds.length) (h3:k<3):(ZJ ds k).set k (.int .i64 (Zm ds[k]:Int))=ZJ ds (k+1):=by
 have e:ds.getD k []=ds[k]:=by rw[List.getD_eq_getElem?_getD,Qg hk];rfl
 obtain rfl|rfl|rfl:k=0∨k=1∨k=2:=by omega
 all_goals (unfold ZJ n3;rw[←e];simp)
theorem ZaK {W:World} {b:Nat} {ty:TypeId} {c0 c1 c2 c3:Value} (h:Blk W b ty [c0,c1,c2,c3]) (v0 v1 v2 v3:Value):
  Blk ((((W.setCell ⟨b,0,none⟩ v0).setCell ⟨b,1,none⟩ v1).setCell ⟨b,2,none⟩ v2).setCell ⟨b,3,none⟩ v3) b ty [v0,v1,v2,v3]∧Upd (One b) W ((((W.setCell ⟨b,0,none⟩ v0).setCell ⟨b,1,none⟩ v1).setCell ⟨b,2,none⟩ v2).setCell ⟨b,3,none⟩ v3):=by
 refine⟨?_,((((Upd.refl _ _).setOne 0 _).setOne 1 _).setOne 2 _).setOne 3 _⟩;have:=(((h.set_ 0 v0).set_ 1 v1).set_ 2 v2).set_ 3 v3
 simpa only[List.set_cons_zero,List.set_cons_succ]using this
set_option maxRecDepth 100000 in
set_option maxHeartbeats 4000000 in
theorem Zc1 (w:World) (s:ByteArray) (ds:List (List UInt8)) (k t n:Int) (h0:0<s.size) (he:s.toList.isEmpty=false) (hc:s[0]'h0=119)
  (CC:∀W,Upd No w W→Calls Tryz.prog 73 #[.string s] W fun e w'=>∃A c,e= .returned (.tuple #[.slice A ds.length c,.bool true])∧Strz (fun _=>True) w' A (ds.map fun d=>(⟨d.toArray⟩:ByteArray))∧Upd No W w')
  (hds:∀d∈ds,ZR d∧d.length≤100∧Zm d≤2147483647) (hn:ds.length≤3) (hv:ZJ ds ds.length=[.int .i64 k,.int .i64 t,.int .i64 n])
  (hg:ds.length=1) (ho:opB ⟨false,k,t,n⟩=true):
  Calls Tryz.prog 61 #[.string s] w fun e w'=>e= .returned (.tuple #[.agg #[.bool false,.int .i64 k,.int .i64 t,.int .i64 n],.int .i64 0])∧Upd No w w':=by
 obtain⟨z,hz⟩:∃z,w.heap.size=z:=⟨_,rfl⟩;obtain⟨wb,hwb⟩:∃wb,w.alloc (.cells #[.bool false,.int .i64 0,.int .i64 0,.int .i64 0] 82)=wb:=⟨_,rfl⟩;have ub:Upd No w wb:=by rw[←hwb];exact(Upd.refl No w).alloc _
 have bb:Blk wb z 82 [.bool false,.int .i64 0,.int .i64 0,.int .i64 0]:=by rw[←hwb,←hz];exact Blk.new w _ _
 obtain⟨N,hN⟩:∃N,ds.length=N:=⟨_,rfl⟩;have CB:=Qh (CC wb ub);have CD:=Qh (fun W d (hd:d∈ds)=>ZaP W d (hds d hd).1 (hds d hd).2.2 (by have:=(hds d hd).2.1;omega));have CR:=Qh (fun W=>Zat W ⟨false,k,t,n⟩);rw[ho]at CR;unfold HOp.cells at CR;have HB:=Qh (fun W (u:Upd No wb W)=>bb.upd u id);have UB:=Qh ub;have HV:=Qh hv;have HC:=Qh hc;have z3:ZJ ds 0=[.int .i64 0,.int .i64 0,.int .i64 0]:=rfl;have Z3:=Qh z3;rw[hN]at CB hn hg HV;clear CC ub bb hv z3;have h1:decide ((0:Int)<(s.size:Int))=true:=decide_eq_true (by omega);clear hc;have h8:=he;have c1:(((s[0]'h0).toNat:Int) != 119)=false:=by rw[HC.out];rfl
 have c2:(((s[0]'h0).toNat:Int) != 114)=true:=by rw[HC.out];rfl
 have c3:(((s[0]'h0).toNat:Int)==114)=false:=by rw[HC.out];rfl
 clear hg
 go_enter Tryz.func61,Tryz.ntmps61
 go_wp2_with fail
 refine(CB.out).mono ?_;rintro e w1 ⟨A,c,rfl,hs1,hu1⟩;obtain⟨y,hy⟩:∃y,w1.heap.size=y:=⟨_,rfl⟩;obtain⟨w2,hw2⟩:∃w2,w1.alloc (.cells #[.int .i64 0,.int .i64 0,.int .i64 0] 120)=w2:=⟨_,rfl⟩;have HU2:=Qh (show Upd No w1 w2 by rw[←hw2];exact(Upd.refl No w1).alloc _);have HA2:=Qh (show Blk w2 y 120 (ZJ ds 0) by rw[Z3.out,←hw2,←hy];exact Blk.new w1 _ _);have HS:=Qh hs1;have HU1:=Qh hu1;clear hs1 hu1;go_wp2;clear hw2
 go_loopg [35] N (fun gk i wr=>∃j:Nat,j+gk=N∧i= .int .i64 (j:Int)∧Hid (Blk wr y 120 (ZJ ds j))∧Hid (Upd No w1 wr))
 case atStart=>exact⟨0,by omega,rfl,HA2,HU2⟩
 case round=>
  obtain⟨j,hgk,rfl,ha,hu⟩:=hrel
  by_cases hlt:j<N
  ·obtain⟨ad,hAd,_,_,q0⟩:=(HS.out.upd hu.out (fun _ _=>id)).at_ (k:=j) (by rw[List.length_map];omega);rw[Zag (ds:=ds) (by omega)]at q0;subst hAd;have CDJ:=Qh (CD.out wr (ds[j]'(by omega)) (List.getElem_mem _));have HST:=Qh (ZaX (ds:=ds) (k:=j) (by omega) (by omega));obtain⟨vj,hvj⟩:∃vj,Zm (ds[j]'(by omega))=vj:=⟨_,rfl⟩;rw[hvj]at CDJ HST
   generalize (⟨((ds)[j]'(by omega)).toArray⟩:ByteArray)=sk at*
   have b1:(0:Int)≤(j:Int):=Qn _;have b2:(j:Int)<(N:Int):=by omega
   have b3:(j:Int)<3:=by omega
   have f0:=ha.out.free j;obtain⟨v0,hv0⟩:=ZaY ds j (j:=j) (show j<3 by omega);have q1:=(ha.out.cell j).trans hv0
   go_wp2_with fail
   refine(CDJ.out).mono ?_;rintro e w5 ⟨rfl,rfl⟩;go_wp2;have us:=(Upd.refl (One y) wr).setOne j (.int .i64 (vj:Int));have HB2:=Qh (ha.out.set_ j (.int .i64 (vj:Int)));rw[HST.out]at HB2
   go_roundg (gk-1)
   case measure=>omega
   case rel=>exact⟨j+1,by omega,by go_num,HB2,Qh (hu.out.then_ us fun i e=> .inr (by unfold One at e;omega))⟩
  ·obtain rfl:j=N:=by omega
   have HAN:=ha;rw[HV.out]at HAN;have a0:=HAN.out.cell 0;have a1:=HAN.out.cell 1;have a2:=HAN.out.cell 2;simp only[Qz,Qs]at a0 a1 a2;obtain⟨yo,hyo⟩:∃y,wr.heap.size=y:=⟨_,rfl⟩;obtain⟨wo,hwo⟩:∃wo,wr.alloc (.cells #[.bool false,.int .i64 0,.int .i64 0,.int .i64 0] 82)=wo:=⟨_,rfl⟩;have huo:Upd No wr wo:=by rw[←hwo];exact(Upd.refl No wr).alloc _
   have bo:Blk wo yo 82 [.bool false,.int .i64 0,.int .i64 0,.int .i64 0]:=by rw[←hwo,←hyo];exact Blk.new wr _ _
   have HAO:=Qh (HAN.out.upd huo id);have d0:=HAO.out.cell 0;have d1:=HAO.out.cell 1;have d2:=HAO.out.cell 2;have e0:=bo.cell 0;have e1:=bo.cell 1;have e2:=bo.cell 2;have e3:=bo.cell 3;have f0:=bo.free 0;have f1:=bo.free 1;have f2:=bo.free 2;have f3:=bo.free 3;simp only[Qz,Qs]at d0 d1 d2 e0 e1 e2 e3;have HUO:=Qh huo;have BO:=Qh bo;clear bo huo
   go_upto_region 15 with fail
   go_region
   obtain⟨be,ue⟩:=ZaK BO.out (.bool false) (.int .i64 k) (.int .i64 t) (.int .i64 n);have be:=be.drew;have ue:=ue.drew;have UE:=Qh (HUO.out.then_ ue fun i e=> .inr (by unfold One at e;omega))
   generalize ((((wo.setCell ⟨yo,0,none⟩ (.bool false)).setCell ⟨yo,1,none⟩ (.int .i64 k)).setCell ⟨yo,2,none⟩ (.int .i64 t)).setCell ⟨yo,3,none⟩ (.int .i64 n)).drew=we at*
   clear d0 d1 d2 e0 e1 e2 e3 f0 f1 f2 f3 hwo BO HUO HAO a0 a1 a2 ue;have g0:=be.cell 0;have g1:=be.cell 1;have g2:=be.cell 2;have g3:=be.cell 3;simp only[Qz,Qs]at g0 g1 g2 g3;have BE:=Qh be;have CRE:=Qh (CR.out we);clear be CR
   go_wp2_with fail
   refine(CRE.out).mono ?_;rintro e w7 ⟨rfl,hu7⟩;have b7:=BE.out.upd hu7 id;have g0:=b7.cell 0;have g1:=b7.cell 1;have g2:=b7.cell 2;have g3:=b7.cell 3;have UZ:=Qh ((hu.out.trans UE.out).trans hu7);have bz:=HB.out _ (HU1.out.trans UZ.out);have z0:=bz.cell 0;have z1:=bz.cell 1;have z2:=bz.cell 2;have z3:=bz.cell 3;have f0:=bz.free 0;have f1:=bz.free 1;have f2:=bz.free 2;have f3:=bz.free 3;simp only[Qz,Qs]at g0 g1 g2 g3 z0 z1 z2 z3;have BZ:=Qh bz;clear bz b7 hu7;go_wp2;obtain⟨bs,us⟩:=ZaK BZ.out (.bool false) (.int .i64 k) (.int .i64 t) (.int .i64 n)
   generalize ((((w7.setCell ⟨z,0,none⟩ (.bool false)).setCell ⟨z,1,none⟩ (.int .i64 k)).setCell ⟨z,2,none⟩ (.int .i64 t)).setCell ⟨z,3,none⟩ (.int .i64 n))=wz at*
   have q0:=bs.cell 0;have q1:=bs.cell 1;have q2:=bs.cell 2;have q3:=bs.cell 3;simp only[Qz,Qs]at q0 q1 q2 q3;have hu9:=(UB.out.trans (HU1.out.trans UZ.out)).then_ us fun i e=> .inr (by unfold One at e;omega)
   refine bodyPost_ret (v:= .tuple #[.agg #[.bool false,.int .i64 k,.int .i64 t,.int .i64 n],.int .i64 0]) (by simp[results,Tryz.results61,go_sem,q0,q1,q2,q3]) rfl ⟨rfl,hu9⟩
set_option maxRecDepth 100000 in
set_option maxHeartbeats 4000000 in
theorem Zc3 (w:World) (s:ByteArray) (ds:List (List UInt8)) (k t n:Int) (h0:0<s.size) (he:s.toList.isEmpty=false) (hc:s[0]'h0=114)
  (CC:∀W,Upd No w W→Calls Tryz.prog 73 #[.string s] W fun e w'=>∃A c,e= .returned (.tuple #[.slice A ds.length c,.bool true])∧Strz (fun _=>True) w' A (ds.map fun d=>(⟨d.toArray⟩:ByteArray))∧Upd No W w')
  (hds:∀d∈ds,ZR d∧d.length≤100∧Zm d≤2147483647) (hn:ds.length≤3) (hv:ZJ ds ds.length=[.int .i64 k,.int .i64 t,.int .i64 n])
  (hg:(t==0)=true∧ds.length=2) (ho:opB ⟨true,k,t,n⟩=true):
  Calls Tryz.prog 61 #[.string s] w fun e w'=>e= .returned (.tuple #[.agg #[.bool true,.int .i64 k,.int .i64 t,.int .i64 n],.int .i64 0])∧Upd No w w':=by
 obtain⟨z,hz⟩:∃z,w.heap.size=z:=⟨_,rfl⟩;obtain⟨wb,hwb⟩:∃wb,w.alloc (.cells #[.bool false,.int .i64 0,.int .i64 0,.int .i64 0] 82)=wb:=⟨_,rfl⟩;have ub:Upd No w wb:=by rw[←hwb];exact(Upd.refl No w).alloc _
 have bb:Blk wb z 82 [.bool false,.int .i64 0,.int .i64 0,.int .i64 0]:=by rw[←hwb,←hz];exact Blk.new w _ _
 obtain⟨N,hN⟩:∃N,ds.length=N:=⟨_,rfl⟩;have CB:=Qh (CC wb ub);have CD:=Qh (fun W d (hd:d∈ds)=>ZaP W d (hds d hd).1 (hds d hd).2.2 (by have:=(hds d hd).2.1;omega));have CR:=Qh (fun W=>Zat W ⟨true,k,t,n⟩);rw[ho]at CR;unfold HOp.cells at CR;have HB:=Qh (fun W (u:Upd No wb W)=>bb.upd u id);have UB:=Qh ub;have HV:=Qh hv;have HC:=Qh hc;have z3:ZJ ds 0=[.int .i64 0,.int .i64 0,.int .i64 0]:=rfl;have Z3:=Qh z3;rw[hN]at CB hn hg HV;clear CC ub bb hv z3;have h1:decide ((0:Int)<(s.size:Int))=true:=decide_eq_true (by omega);clear hc;have h8:=he;have c1:(((s[0]'h0).toNat:Int) != 119)=true:=by rw[HC.out];rfl
 have c2:(((s[0]'h0).toNat:Int) != 114)=false:=by rw[HC.out];rfl
 have c3:(((s[0]'h0).toNat:Int)==114)=true:=by rw[HC.out];rfl
 obtain⟨t0,hN2⟩:=hg;have b2i:((N:Int)==2)=true:=(by rw[beq_iff_eq];omega);have b2n:(N==2)=true:=(by rw[beq_iff_eq];omega);clear hN2
 go_enter Tryz.func61,Tryz.ntmps61
 go_wp2_with fail
 refine(CB.out).mono ?_;rintro e w1 ⟨A,c,rfl,hs1,hu1⟩;obtain⟨y,hy⟩:∃y,w1.heap.size=y:=⟨_,rfl⟩;obtain⟨w2,hw2⟩:∃w2,w1.alloc (.cells #[.int .i64 0,.int .i64 0,.int .i64 0] 120)=w2:=⟨_,rfl⟩;have HU2:=Qh (show Upd No w1 w2 by rw[←hw2];exact(Upd.refl No w1).alloc _);have HA2:=Qh (show Blk w2 y 120 (ZJ ds 0) by rw[Z3.out,←hw2,←hy];exact Blk.new w1 _ _);have HS:=Qh hs1;have HU1:=Qh hu1;clear hs1 hu1;go_wp2;clear hw2
 go_loopg [35] N (fun gk i wr=>∃j:Nat,j+gk=N∧i= .int .i64 (j:Int)∧Hid (Blk wr y 120 (ZJ ds j))∧Hid (Upd No w1 wr))
 case atStart=>exact⟨0,by omega,rfl,HA2,HU2⟩
 case round=>
  obtain⟨j,hgk,rfl,ha,hu⟩:=hrel
  by_cases hlt:j<N
  ·obtain⟨ad,hAd,_,_,q0⟩:=(HS.out.upd hu.out (fun _ _=>id)).at_ (k:=j) (by rw[List.length_map];omega);rw[Zag (ds:=ds) (by omega)]at q0;subst hAd;have CDJ:=Qh (CD.out wr (ds[j]'(by omega)) (List.getElem_mem _));have HST:=Qh (ZaX (ds:=ds) (k:=j) (by omega) (by omega));obtain⟨vj,hvj⟩:∃vj,Zm (ds[j]'(by omega))=vj:=⟨_,rfl⟩;rw[hvj]at CDJ HST
   generalize (⟨((ds)[j]'(by omega)).toArray⟩:ByteArray)=sk at*
   have b1:(0:Int)≤(j:Int):=Qn _;have b2:(j:Int)<(N:Int):=by omega
   have b3:(j:Int)<3:=by omega
   have f0:=ha.out.free j;obtain⟨v0,hv0⟩:=ZaY ds j (j:=j) (show j<3 by omega);have q1:=(ha.out.cell j).trans hv0
   go_wp2_with fail
   refine(CDJ.out).mono ?_;rintro e w5 ⟨rfl,rfl⟩;go_wp2;have us:=(Upd.refl (One y) wr).setOne j (.int .i64 (vj:Int));have HB2:=Qh (ha.out.set_ j (.int .i64 (vj:Int)));rw[HST.out]at HB2
   go_roundg (gk-1)
   case measure=>omega
   case rel=>exact⟨j+1,by omega,by go_num,HB2,Qh (hu.out.then_ us fun i e=> .inr (by unfold One at e;omega))⟩
  ·obtain rfl:j=N:=by omega
   have HAN:=ha;rw[HV.out]at HAN;have a0:=HAN.out.cell 0;have a1:=HAN.out.cell 1;have a2:=HAN.out.cell 2;simp only[Qz,Qs]at a0 a1 a2;obtain⟨yo,hyo⟩:∃y,wr.heap.size=y:=⟨_,rfl⟩;obtain⟨wo,hwo⟩:∃wo,wr.alloc (.cells #[.bool false,.int .i64 0,.int .i64 0,.int .i64 0] 82)=wo:=⟨_,rfl⟩;have huo:Upd No wr wo:=by rw[←hwo];exact(Upd.refl No wr).alloc _
   have bo:Blk wo yo 82 [.bool false,.int .i64 0,.int .i64 0,.int .i64 0]:=by rw[←hwo,←hyo];exact Blk.new wr _ _
   have HAO:=Qh (HAN.out.upd huo id);have d0:=HAO.out.cell 0;have d1:=HAO.out.cell 1;have d2:=HAO.out.cell 2;have e0:=bo.cell 0;have e1:=bo.cell 1;have e2:=bo.cell 2;have e3:=bo.cell 3;have f0:=bo.free 0;have f1:=bo.free 1;have f2:=bo.free 2;have f3:=bo.free 3;simp only[Qz,Qs]at d0 d1 d2 e0 e1 e2 e3;have HUO:=Qh huo;have BO:=Qh bo;clear bo huo
   go_upto_region 15 with fail
   go_region
   obtain⟨be,ue⟩:=ZaK BO.out (.bool true) (.int .i64 k) (.int .i64 t) (.int .i64 n);have be:=be.drew;have ue:=ue.drew;have UE:=Qh (HUO.out.then_ ue fun i e=> .inr (by unfold One at e;omega))
   generalize ((((wo.setCell ⟨yo,0,none⟩ (.bool true)).setCell ⟨yo,1,none⟩ (.int .i64 k)).setCell ⟨yo,2,none⟩ (.int .i64 t)).setCell ⟨yo,3,none⟩ (.int .i64 n)).drew=we at*
   clear d0 d1 d2 e0 e1 e2 e3 f0 f1 f2 f3 hwo BO HUO HAO a0 a1 a2 ue;have g0:=be.cell 0;have g1:=be.cell 1;have g2:=be.cell 2;have g3:=be.cell 3;simp only[Qz,Qs]at g0 g1 g2 g3;have BE:=Qh be;have CRE:=Qh (CR.out we);clear be CR
   go_wp2_with fail
   refine(CRE.out).mono ?_;rintro e w7 ⟨rfl,hu7⟩;have b7:=BE.out.upd hu7 id;have g0:=b7.cell 0;have g1:=b7.cell 1;have g2:=b7.cell 2;have g3:=b7.cell 3;have UZ:=Qh ((hu.out.trans UE.out).trans hu7);have bz:=HB.out _ (HU1.out.trans UZ.out);have z0:=bz.cell 0;have z1:=bz.cell 1;have z2:=bz.cell 2;have z3:=bz.cell 3;have f0:=bz.free 0;have f1:=bz.free 1;have f2:=bz.free 2;have f3:=bz.free 3;simp only[Qz,Qs]at g0 g1 g2 g3 z0 z1 z2 z3;have BZ:=Qh bz;clear bz b7 hu7;go_wp2;obtain⟨bs,us⟩:=ZaK BZ.out (.bool true) (.int .i64 k) (.int .i64 t) (.int .i64 n)
   generalize ((((w7.setCell ⟨z,0,none⟩ (.bool true)).setCell ⟨z,1,none⟩ (.int .i64 k)).setCell ⟨z,2,none⟩ (.int .i64 t)).setCell ⟨z,3,none⟩ (.int .i64 n))=wz at*
   have q0:=bs.cell 0;have q1:=bs.cell 1;have q2:=bs.cell 2;have q3:=bs.cell 3;simp only[Qz,Qs]at q0 q1 q2 q3;have hu9:=(UB.out.trans (HU1.out.trans UZ.out)).then_ us fun i e=> .inr (by unfold One at e;omega)
   refine bodyPost_ret (v:= .tuple #[.agg #[.bool true,.int .i64 k,.int .i64 t,.int .i64 n],.int .i64 0]) (by simp[results,Tryz.results61,go_sem,q0,q1,q2,q3]) rfl ⟨rfl,hu9⟩
set_option maxRecDepth 100000 in
set_option maxHeartbeats 4000000 in
theorem Zc2 (w:World) (s:ByteArray) (ds:List (List UInt8)) (k t n:Int) (h0:0<s.size) (he:s.toList.isEmpty=false) (hc:s[0]'h0=114)
  (CC:∀W,Upd No w W→Calls Tryz.prog 73 #[.string s] W fun e w'=>∃A c,e= .returned (.tuple #[.slice A ds.length c,.bool true])∧Strz (fun _=>True) w' A (ds.map fun d=>(⟨d.toArray⟩:ByteArray))∧Upd No W w')
  (hds:∀d∈ds,ZR d∧d.length≤100∧Zm d≤2147483647) (hn:ds.length≤3) (hv:ZJ ds ds.length=[.int .i64 k,.int .i64 t,.int .i64 n])
  (hg:(t==0)=false∧ds.length=3) (ho:opB ⟨true,k,t,n⟩=true):
  Calls Tryz.prog 61 #[.string s] w fun e w'=>e= .returned (.tuple #[.agg #[.bool true,.int .i64 k,.int .i64 t,.int .i64 n],.int .i64 0])∧Upd No w w':=by
 obtain⟨z,hz⟩:∃z,w.heap.size=z:=⟨_,rfl⟩;obtain⟨wb,hwb⟩:∃wb,w.alloc (.cells #[.bool false,.int .i64 0,.int .i64 0,.int .i64 0] 82)=wb:=⟨_,rfl⟩;have ub:Upd No w wb:=by rw[←hwb];exact(Upd.refl No w).alloc _
 have bb:Blk wb z 82 [.bool false,.int .i64 0,.int .i64 0,.int .i64 0]:=by rw[←hwb,←hz];exact Blk.new w _ _
 obtain⟨N,hN⟩:∃N,ds.length=N:=⟨_,rfl⟩;have CB:=Qh (CC wb ub);have CD:=Qh (fun W d (hd:d∈ds)=>ZaP W d (hds d hd).1 (hds d hd).2.2 (by have:=(hds d hd).2.1;omega));have CR:=Qh (fun W=>Zat W ⟨true,k,t,n⟩);rw[ho]at CR;unfold HOp.cells at CR;have HB:=Qh (fun W (u:Upd No wb W)=>bb.upd u id);have UB:=Qh ub;have HV:=Qh hv;have HC:=Qh hc;have z3:ZJ ds 0=[.int .i64 0,.int .i64 0,.int .i64 0]:=rfl;have Z3:=Qh z3;rw[hN]at CB hn hg HV;clear CC ub bb hv z3;have h1:decide ((0:Int)<(s.size:Int))=true:=decide_eq_true (by omega);clear hc;have h8:=he;have c1:(((s[0]'h0).toNat:Int) != 119)=true:=by rw[HC.out];rfl
 have c2:(((s[0]'h0).toNat:Int) != 114)=false:=by rw[HC.out];rfl
 have c3:(((s[0]'h0).toNat:Int)==114)=true:=by rw[HC.out];rfl
 obtain⟨t0,hN2⟩:=hg;have b2i:((N:Int)==2)=false:=(by rw[beq_eq_false_iff_ne];omega);have b2n:(N==2)=false:=(by rw[beq_eq_false_iff_ne];omega);clear hN2
 go_enter Tryz.func61,Tryz.ntmps61
 go_wp2_with fail
 refine(CB.out).mono ?_;rintro e w1 ⟨A,c,rfl,hs1,hu1⟩;obtain⟨y,hy⟩:∃y,w1.heap.size=y:=⟨_,rfl⟩;obtain⟨w2,hw2⟩:∃w2,w1.alloc (.cells #[.int .i64 0,.int .i64 0,.int .i64 0] 120)=w2:=⟨_,rfl⟩;have HU2:=Qh (show Upd No w1 w2 by rw[←hw2];exact(Upd.refl No w1).alloc _);have HA2:=Qh (show Blk w2 y 120 (ZJ ds 0) by rw[Z3.out,←hw2,←hy];exact Blk.new w1 _ _);have HS:=Qh hs1;have HU1:=Qh hu1;clear hs1 hu1;go_wp2;clear hw2
 go_loopg [35] N (fun gk i wr=>∃j:Nat,j+gk=N∧i= .int .i64 (j:Int)∧Hid (Blk wr y 120 (ZJ ds j))∧Hid (Upd No w1 wr))
 case atStart=>exact⟨0,by omega,rfl,HA2,HU2⟩
 case round=>
  obtain⟨j,hgk,rfl,ha,hu⟩:=hrel
  by_cases hlt:j<N
  ·obtain⟨ad,hAd,_,_,q0⟩:=(HS.out.upd hu.out (fun _ _=>id)).at_ (k:=j) (by rw[List.length_map];omega);rw[Zag (ds:=ds) (by omega)]at q0;subst hAd;have CDJ:=Qh (CD.out wr (ds[j]'(by omega)) (List.getElem_mem _));have HST:=Qh (ZaX (ds:=ds) (k:=j) (by omega) (by omega));obtain⟨vj,hvj⟩:∃vj,Zm (ds[j]'(by omega))=vj:=⟨_,rfl⟩;rw[hvj]at CDJ HST
   generalize (⟨((ds)[j]'(by omega)).toArray⟩:ByteArray)=sk at*
   have b1:(0:Int)≤(j:Int):=Qn _;have b2:(j:Int)<(N:Int):=by omega
   have b3:(j:Int)<3:=by omega
   have f0:=ha.out.free j;obtain⟨v0,hv0⟩:=ZaY ds j (j:=j) (show j<3 by omega);have q1:=(ha.out.cell j).trans hv0
   go_wp2_with fail
   refine(CDJ.out).mono ?_;rintro e w5 ⟨rfl,rfl⟩;go_wp2;have us:=(Upd.refl (One y) wr).setOne j (.int .i64 (vj:Int));have HB2:=Qh (ha.out.set_ j (.int .i64 (vj:Int)));rw[HST.out]at HB2
   go_roundg (gk-1)
   case measure=>omega
   case rel=>exact⟨j+1,by omega,by go_num,HB2,Qh (hu.out.then_ us fun i e=> .inr (by unfold One at e;omega))⟩
  ·obtain rfl:j=N:=by omega
   have HAN:=ha;rw[HV.out]at HAN;have a0:=HAN.out.cell 0;have a1:=HAN.out.cell 1;have a2:=HAN.out.cell 2;simp only[Qz,Qs]at a0 a1 a2;obtain⟨yo,hyo⟩:∃y,wr.heap.size=y:=⟨_,rfl⟩;obtain⟨wo,hwo⟩:∃wo,wr.alloc (.cells #[.bool false,.int .i64 0,.int .i64 0,.int .i64 0] 82)=wo:=⟨_,rfl⟩;have huo:Upd No wr wo:=by rw[←hwo];exact(Upd.refl No wr).alloc _
   have bo:Blk wo yo 82 [.bool false,.int .i64 0,.int .i64 0,.int .i64 0]:=by rw[←hwo,←hyo];exact Blk.new wr _ _
   have HAO:=Qh (HAN.out.upd huo id);have d0:=HAO.out.cell 0;have d1:=HAO.out.cell 1;have d2:=HAO.out.cell 2;have e0:=bo.cell 0;have e1:=bo.cell 1;have e2:=bo.cell 2;have e3:=bo.cell 3;have f0:=bo.free 0;have f1:=bo.free 1;have f2:=bo.free 2;have f3:=bo.free 3;simp only[Qz,Qs]at d0 d1 d2 e0 e1 e2 e3;have HUO:=Qh huo;have BO:=Qh bo;clear bo huo
   go_upto_region 15 with fail
   go_region
   obtain⟨be,ue⟩:=ZaK BO.out (.bool true) (.int .i64 k) (.int .i64 t) (.int .i64 n);have be:=be.drew;have ue:=ue.drew;have UE:=Qh (HUO.out.then_ ue fun i e=> .inr (by unfold One at e;omega))
   generalize ((((wo.setCell ⟨yo,0,none⟩ (.bool true)).setCell ⟨yo,1,none⟩ (.int .i64 k)).setCell ⟨yo,2,none⟩ (.int .i64 t)).setCell ⟨yo,3,none⟩ (.int .i64 n)).drew=we at*
   clear d0 d1 d2 e0 e1 e2 e3 f0 f1 f2 f3 hwo BO HUO HAO a0 a1 a2 ue;have g0:=be.cell 0;have g1:=be.cell 1;have g2:=be.cell 2;have g3:=be.cell 3;simp only[Qz,Qs]at g0 g1 g2 g3;have BE:=Qh be;have CRE:=Qh (CR.out we);clear be CR
   go_wp2_with fail
   refine(CRE.out).mono ?_;rintro e w7 ⟨rfl,hu7⟩;have b7:=BE.out.upd hu7 id;have g0:=b7.cell 0;have g1:=b7.cell 1;have g2:=b7.cell 2;have g3:=b7.cell 3;have UZ:=Qh ((hu.out.trans UE.out).trans hu7);have bz:=HB.out _ (HU1.out.trans UZ.out);have z0:=bz.cell 0;have z1:=bz.cell 1;have z2:=bz.cell 2;have z3:=bz.cell 3;have f0:=bz.free 0;have f1:=bz.free 1;have f2:=bz.free 2;have f3:=bz.free 3;simp only[Qz,Qs]at g0 g1 g2 g3 z0 z1 z2 z3;have BZ:=Qh bz;clear bz b7 hu7;go_wp2;obtain⟨bs,us⟩:=ZaK BZ.out (.bool true) (.int .i64 k) (.int .i64 t) (.int .i64 n)
   generalize ((((w7.setCell ⟨z,0,none⟩ (.bool true)).setCell ⟨z,1,none⟩ (.int .i64 k)).setCell ⟨z,2,none⟩ (.int .i64 t)).setCell ⟨z,3,none⟩ (.int .i64 n))=wz at*
   have q0:=bs.cell 0;have q1:=bs.cell 1;have q2:=bs.cell 2;have q3:=bs.cell 3;simp only[Qz,Qs]at q0 q1 q2 q3;have hu9:=(UB.out.trans (HU1.out.trans UZ.out)).then_ us fun i e=> .inr (by unfold One at e;omega)
   refine bodyPost_ret (v:= .tuple #[.agg #[.bool true,.int .i64 k,.int .i64 t,.int .i64 n],.int .i64 0]) (by simp[results,Tryz.results61,go_sem,q0,q1,q2,q3]) rfl ⟨rfl,hu9⟩
theorem Zt {n:Int} (h0:0≤n) (h1:n≤2000000):ZR (Zc n)∧(Zc n).length≤100∧(Zm (Zc n):Int)=n:=by
 obtain⟨a,b⟩:=ZaA h0 (by omega);exact⟨a,by have:=Zaj n;omega,b⟩
theorem Zcf (w:World) (hm:MaxL w) (o:HOp) (h:opB o=true):
  Calls Tryz.prog 61 #[.string (Zb o)] w fun e w'=>e= .returned (.tuple #[.agg o.cells.toArray,.int .i64 0])∧Upd No w w':=by
 have sz:∀(c:UInt8) (l:List UInt8),0<(⟨(c::l).toArray⟩:ByteArray).size:=fun c l=>by show 0<Array.size _;rw[List.size_toArray];simp
 have em:∀(c:UInt8) (l:List UInt8),(⟨(c::l).toArray⟩:ByteArray).toList.isEmpty=false:=fun c l=>by rw[Lib.toList_data];rfl
 rcases ZaT h with ⟨k,rfl,hk,e⟩|⟨k,rfl,hk,e⟩|⟨k,t,n,rfl,hk,ht,hn,e⟩<;>rw[e]
 ·obtain⟨a1,a2,a3⟩:=Zt (n:=k) (by omega) (by omega);exact Zc1 w _ [Zc k] k 0 0 (sz _ _) (em _ _) rfl (fun W u=>Zej W (hm.upd u) _ a1 a2) (by intro d hd;rw[List.mem_singleton.1 hd];exact⟨a1,a2,by omega⟩) (by simp) (by unfold ZJ n3;simp[a3]) rfl h
 ·obtain⟨a1,a2,a3⟩:=Zt (n:=k) (by omega) (by omega);obtain⟨b1,b2,b3⟩:=Zt (n:=0) (by omega) (by omega);exact Zc3 w _ [Zc k,Zc 0] k 0 0 (sz _ _) (em _ _) rfl (fun W u=>Zel W (hm.upd u) _ _ a1 b1 a2 b2) (fun d hd=>by simp only[List.mem_cons,List.not_mem_nil,or_false]at hd;rcases hd with rfl|rfl<;>first|exact⟨a1,a2,by omega⟩|exact⟨b1,b2,by omega⟩) (by simp) (by unfold ZJ n3;simp[a3,b3]) ⟨rfl,rfl⟩ h
 ·obtain⟨a1,a2,a3⟩:=Zt (n:=k) (by omega) (by omega);obtain⟨b1,b2,b3⟩:=Zt (n:=t) (by omega) (by omega);obtain⟨c1,c2,c3⟩:=Zt (n:=n) (by omega) (by omega);exact Zc2 w _ [Zc k,Zc t,Zc n] k t n (sz _ _) (em _ _) rfl (fun W u=>Zek W (hm.upd u) _ _ _ a1 b1 c1 a2 b2 c2) (fun d hd=>by simp only[List.mem_cons,List.not_mem_nil,or_false]at hd;rcases hd with rfl|rfl|rfl<;>first|exact⟨a1,a2,by omega⟩|exact⟨b1,b2,by omega⟩|exact⟨c1,c2,by omega⟩) (by simp) (by unfold ZJ n3;simp[a3,b3,c3]) ⟨by simp;omega,rfl⟩ h
end
end Go.Proofs.YtbcpoloakepnkaaGreatDoor
