/- How edges and bad reads change: the answers that the document gives (lives). -/
import Derived.Test.YtblplapkdmhikaaGreatDabf
import Derived.Test.YtblplapkdmhikaaGreatDabt
import Derived.Test.YtblplapkdmhikaaGreatDaca
namespace Go.Proofs.YtblplapkdmhikaaGreat
set_option linter.unusedVariables false
set_option linter.unusedSimpArgs false
section
open Go.RowKit
def BdX (w:World) (A:Option Addr) (l:List HBad):Prop:=Bads (fun _=>True) w A l
section
variable {F G:Nat→Prop} {w:World} {ta tb:List HTx} {oa ob:List HOrd} {A A':Option Addr} {c c':Nat} {B B':Option Addr} {d d' a1 a2 b1 b2:Nat}
theorem vDE (HA:Hist.lies F w ⟨ta,oa,A,c,B,d⟩) (HB:Hist.lies G w ⟨tb,ob,A',c',B',d'⟩) (hra:Za ⟨ta,oa,A,c,B,d⟩=true) (hrb:Za ⟨tb,ob,A',c',B',d'⟩=true) (la:Zj ⟨ta,oa,A,c,B,d⟩=true) (lb:Zj ⟨tb,ob,A',c',B',d'⟩=true)
  (n1:ta.length=a1) (n2:oa.length=a2) (n3:tb.length=b1) (n4:ob.length=b2) {l:List Hvy} {k:Nat} (hl:Zbf ⟨ta,oa,A,c,B,d⟩ ⟨tb,ob,A',c',B',d'⟩=l) (hk:l.length=k):
  Calls Tryz.prog 16 #[.agg #[.slice A a1 c,.slice B a2 d],.agg #[.slice A' b1 c',.slice B' b2 d']] w fun e w'=>∃A1 c1,e= .returned (.tuple #[.slice A1 k c1,.int .i64 0])∧HvX w' A1 l∧Upd No w w':=by
 subst n1 n2 n3 n4 hk;refine(Zje HA HB hra hrb la lb hl).mono ?_;rintro e w' ⟨A1,c1,rfl,ho,hu⟩;exact⟨A1,c1,rfl,HvX.own ho,hu⟩
theorem ZnF (HA:Hist.lies F w ⟨ta,oa,A,c,B,d⟩) (HB:Hist.lies G w ⟨tb,ob,A',c',B',d'⟩) (hr:(Za ⟨ta,oa,A,c,B,d⟩&&Za ⟨tb,ob,A',c',B',d'⟩)=false)
  (n1:ta.length=a1) (n2:oa.length=a2) (n3:tb.length=b1) (n4:ob.length=b2):
  Calls Tryz.prog 16 #[.agg #[.slice A a1 c,.slice B a2 d],.agg #[.slice A' b1 c',.slice B' b2 d']] w fun e w'=>e= .returned (.tuple #[.slice none 0 0,.int .i64 5])∧Upd No w w':=by
 subst n1 n2 n3 n4;exact Zf1 HA HB hr
theorem vDB (p:Int) (HA:Hist.lies F w ⟨ta,oa,A,c,B,d⟩) (HB:Hist.lies G w ⟨tb,ob,A',c',B',d'⟩) (hra:Za ⟨ta,oa,A,c,B,d⟩=true) (hrb:Za ⟨tb,ob,A',c',B',d'⟩=true) (la:Zj ⟨ta,oa,A,c,B,d⟩=true) (lb:Zj ⟨tb,ob,A',c',B',d'⟩=true)
  (n1:ta.length=a1) (n2:oa.length=a2) (n3:tb.length=b1) (n4:ob.length=b2) {l m:List HBad} {k j:Nat} (hl:ZaN ⟨ta,oa,A,c,B,d⟩ ⟨tb,ob,A',c',B',d'⟩ p=l) (hm:ZaN ⟨tb,ob,A',c',B',d'⟩ ⟨ta,oa,A,c,B,d⟩ p=m) (hk:l.length=k) (hj:m.length=j):
  Calls Tryz.prog 26 #[.agg #[.slice A a1 c,.slice B a2 d],.agg #[.slice A' b1 c',.slice B' b2 d'],.int .i64 p] w fun e w'=>∃A1 c1 A2 c2,e= .returned (.tuple #[.slice A1 k c1,.slice A2 j c2,.int .i64 0])∧BdX w' A1 l∧BdX w' A2 m∧Upd No w w':=by
 subst n1 n2 n3 n4 hk hj;exact Zk7 p HA HB hra hrb la lb hl hm
theorem ZnG (p:Int) (HA:Hist.lies F w ⟨ta,oa,A,c,B,d⟩) (HB:Hist.lies G w ⟨tb,ob,A',c',B',d'⟩) (hr:(Za ⟨ta,oa,A,c,B,d⟩&&Za ⟨tb,ob,A',c',B',d'⟩)=false)
  (n1:ta.length=a1) (n2:oa.length=a2) (n3:tb.length=b1) (n4:ob.length=b2):
  Calls Tryz.prog 26 #[.agg #[.slice A a1 c,.slice B a2 d],.agg #[.slice A' b1 c',.slice B' b2 d'],.int .i64 p] w fun e w'=>e= .returned (.tuple #[.slice none 0 0,.slice none 0 0,.int .i64 5])∧Upd No w w':=by
 subst n1 n2 n3 n4;exact Zhj p HA HB hr
end
def eH:Hist:=⟨[],[],none,0,none,0⟩
theorem Zgt (w:World):Hist.lies (fun _=>True) w eH:=⟨fun h=>absurd rfl h,fun h=>absurd rfl h,fun t ht=>(by cases ht),fun t ht=>(by cases ht),Nat.le_refl _,Nat.le_refl _,Nat.zero_le _,Nat.zero_le _⟩
theorem sd1:Za eH=true:=by kernel_rfl
theorem sd2:Zj eH=true:=by kernel_rfl
theorem sd3 (n:Nat):Za (ZH n)=true:=by kernel_rfl
theorem sd4 (n:Nat):Zj (ZH n)=true:=by kernel_rfl
theorem sd5 (n:Nat):Za ⟨(ZH n).txs,[],(ZH n).A,3,none,0⟩=false:=by kernel_rfl
theorem Zo8 (n:Nat):(Za (ZH n)&&Za ⟨(ZH n).txs,[],(ZH n).A,3,none,0⟩)=false:=by rw[sd5,Bool.and_false]
theorem Zo7 (n:Nat):(Za ⟨(ZH n).txs,[],(ZH n).A,3,none,0⟩&&Za (ZH n))=false:=by rw[sd5,Bool.false_and]
theorem sd6 (n:Nat):Zbf eH (ZH n)=[s1,s2,s3]:=by
 unfold Zbf;rw[sa1,show Zc eH=[] by kernel_rfl,Za6]
theorem sd7 (n:Nat):Zbf (ZH n) eH=[⟨s1.e,-1⟩,⟨s2.e,-1⟩,⟨s3.e,-2⟩]:=by
 unfold Zbf;rw[sa1,show Zc eH=[] by kernel_rfl,Zbr,Zbr,Zbr,Za6];rfl
theorem sd8 (n:Nat):ZaN eH (ZH n) 2=[]:=by kernel_rfl
theorem sd9 (n:Nat):ZaN (ZH n) eH 2=[]:=by kernel_rfl
set_option maxRecDepth 100000 in
set_option maxHeartbeats 8000000 in
theorem Znb (w:World):Calls Tryz.prog 15 #[] w fun e w'=>e= .returned (.bool true)∧Upd No w w':=by
 go_enter Tryz.func15,Tryz.ntmps15
 go_wp2_with fail
 refine(ZnK _).mono ?_;rintro e w1 ⟨rfl,hs,hu1⟩;obtain⟨z,hz⟩:∃z,w.heap.size=z:=⟨_,rfl⟩;rw[hz]at hs;simp only[hz];obtain⟨y,hy⟩:∃y,w1.heap.size=y:=⟨_,rfl⟩;obtain⟨wb,hwb⟩:∃wb,w1.alloc (.cells #[.slice (some ⟨z+1+1+1+1+1,0,none⟩) 3 3,.slice (some ⟨z+1+1+1+1+1+1+1,0,none⟩) 1 1] 29)=wb:=⟨_,rfl⟩;have u0:Upd No w1 wb:=by rw[←hwb];exact(Upd.refl No w1).alloc _
 have bH:Blk wb y 29 [.slice (some ⟨z+1+1+1+1+1,0,none⟩) 3 3,.slice (some ⟨z+1+1+1+1+1+1+1,0,none⟩) 1 1]:=by rw[←hwb,←hy];exact Blk.new w1 _ _
 have HS:=Qh (fun W (u:Upd No wb W)=>(hs.upd u0 (fun _ _=>id)).upd u (fun _ _=>id));have h0:∀W,Upd No wb W→W.cell? ⟨y,0,none⟩=some (.slice (some ⟨z+1+1+1+1+1,0,none⟩) 3 3):=fun W u=>(bH.upd u id).cell 0
 have h1:∀W,Upd No wb W→W.cell? ⟨y,1,none⟩=some (.slice (some ⟨z+1+1+1+1+1+1+1,0,none⟩) 1 1):=fun W u=>(bH.upd u id).cell 1
 have hxz:Upd No wb wb:=Upd.refl _ _;have HU0:=Qh (hu1.trans u0);clear hs hu1 u0 bH
 go_wp2_with fail
 refine(vDE (Zgt _) (HS.out _ hxz) sd1 (sd3 z) sd2 (sd4 z) rfl rfl rfl rfl (sd6 z) (k:=3) rfl).mono ?_;rintro e w2 ⟨A2,c2,rfl,hx2,hu2⟩;have HX2:=Qh hx2;clear hx2
 go_wp2_with fail
 refine(vDE (HS.out _ hu2) (Zgt _) (sd3 z) sd1 (sd4 z) sd2 rfl rfl rfl rfl (sd7 z) (k:=3) rfl).mono ?_;rintro e w3 ⟨A3,c3,rfl,hx3,hu3⟩;have HX3:=Qh hx3;have hv3:=hu2.trans hu3;clear hx3
 go_wp2_with fail
 refine(ZnF (HS.out _ hv3) (Zh7 (HS.out _ hv3)) (Zo8 z) rfl rfl rfl rfl).mono ?_;rintro e w4 ⟨rfl,hu4⟩;have hv4:=hv3.trans hu4
 go_wp2_with fail
 refine(vDB 2 (Zgt _) (HS.out _ hv4) sd1 (sd3 z) sd2 (sd4 z) rfl rfl rfl rfl (sd8 z) (sd9 z) (k:=0) (j:=0) rfl rfl).mono ?_;rintro e w5 ⟨A5,c5,A6,c6,rfl,hx5,hx6,hu5⟩;have hv5:=hv4.trans hu5
 go_wp2_with fail
 refine(ZnG 2 (Zh7 (HS.out _ hv5)) (HS.out _ hv5) (Zo7 z) rfl rfl rfl rfl).mono ?_;rintro e w6 ⟨rfl,hu6⟩;have hv6:=hv5.trans hu6;clear hx5 hx6;have CE:=Qh (Zgd (HS.out _ hv6) (Zly z) (Zlx z) (sa1 z))
 go_wp2_with fail
 refine(CE.out).mono ?_;rintro e w7 ⟨A7,c7,rfl,hx7,hu7⟩;have hv7:=hv6.trans hu7;have CS:=Qh (Zmt (c:=c2) (d:=c7) (HX2.out.upd ((hu3.trans hu4).trans ((hu5.trans hu6).trans hu7))) hx7 (by decide) (by decide) (n:=3) (m:=3) rfl rfl (v:=true) (by decide))
 go_wp2_with fail
 refine(CS.out).mono ?_;rintro e w8 ⟨rfl,hu8⟩;have hv8:=hv7.trans hu8;obtain⟨G3,hx3⟩:=HX3.out;obtain⟨ad,hAd,q0,q1,q2,q3,q4⟩:=Hvys.at_ (k:=2) (Hvys.upd hx3 (((hu4.trans hu5).trans (hu6.trans hu7)).trans hu8) (fun _ _=>id)) (by decide);subst hAd;simp only[List.getElem_cons_succ,List.getElem_cons_zero,Nat.reduceMul]at q4;rw[show(ad.add 10).block=ad.block by simp[Addr.add],show(ad.add 10).off=ad.off+10 by simp[Addr.add]]at q4;clear q0 q1 q2 q3 hx3;go_wp2
 go_ret
 exact⟨rfl,HU0.out.trans hv8⟩
end
/- How edges and bad reads change:the law DeriveTells. -/
section
open Go.RowKit
theorem ZdJ {a b:Hist} {p:Int} {x y l:List HBad} (h1:ZE a p=x) (h2:ZE b p=y) (h3:ZaN a b p=l):(x.filter fun z=> !y.contains z)=l:=by subst h1 h2 h3;rfl
theorem Zla {a b:Hist} {x y l:List Hvy} (h1:Zc a=x) (h2:Zc b=y) (h3:Zbf a b=l):Zs x y=l:=by subst h1 h2 h3;rfl
theorem ZeR {h:Hist} (hr:Za h=true) (hl:Zj h=true):∀x∈Zc h,-1000≤x.n∧x.n≤1000:=fun x hx=>by
 have h1:=((ZN hr).1 hx).2;have h2:=Zgz (Zar hl).2.1 x.e;omega
theorem Zlb {a b:Hist} (ha:Za a=true) (hb:Za b=true) (la:Zj a=true) (lb:Zj b=true):(Zbf a b).length≤1048576:=by
 have hm:∀x∈(Zbf a b).map (·.e),x∈Zda (Zc a)++Zda (Zc b):=fun e he=>by
  obtain⟨x,hx,rfl⟩:=List.mem_map.1 he;have h:=((Zfc ha hb).m x).1 hx;rw[List.mem_append]
  by_cases h1:Zf a x.e=0
  ·refine .inr (List.mem_map.2 ⟨⟨x.e,(Zf b x.e:Int)⟩,(ZN hb).2 ⟨?_,rfl⟩,rfl⟩);simp only;omega
  ·exact .inl (List.mem_map.2 ⟨⟨x.e,(Zf a x.e:Int)⟩,(ZN ha).2 ⟨h1,rfl⟩,rfl⟩)
 have hn:((Zbf a b).map (·.e)).Nodup:=(sortH_map.1 (Zfc ha hb).s).imp fun {x y} h e=>by rw[e,Zas]at h;cases h
 have h1:=ZaU _ _ hn hm;have h2:=ZfA la;have h3:=ZfA lb;rw[List.length_map,List.length_append]at h1;omega
section
variable {F G:Nat→Prop} {w:World} {ta tb:List HTx} {oa ob:List HOrd} {A A':Option Addr} {c c':Nat} {B B':Option Addr} {d d':Nat}
set_option maxRecDepth 100000 in
set_option maxHeartbeats 8000000 in
theorem ZmV (p:Int) (HA:Hist.lies F w ⟨ta,oa,A,c,B,d⟩) (HB:Hist.lies G w ⟨tb,ob,A',c',B',d'⟩) (L:Hid (∀w,Calls Tryz.prog 15 #[] w fun e w'=>e= .returned (.bool true)∧Upd No w w')):
  Calls Tryz.prog 6 #[.agg #[.slice A ta.length c,.slice B oa.length d],.agg #[.slice A' tb.length c',.slice B' ob.length d'],.int .i64 p] w fun e w'=>e= .returned (.bool true)∧Upd No w w':=by
 obtain⟨la,hla⟩:∃v,Zj ⟨ta,oa,A,c,B,d⟩=v:=⟨_,rfl⟩;obtain⟨lb,hlb⟩:∃v,Zj ⟨tb,ob,A',c',B',d'⟩=v:=⟨_,rfl⟩;obtain⟨ra,hra⟩:∃v,Za ⟨ta,oa,A,c,B,d⟩=v:=⟨_,rfl⟩;obtain⟨rb,hrb⟩:∃v,Za ⟨tb,ob,A',c',B',d'⟩=v:=⟨_,rfl⟩;have HLA:=Qh hla;have HLB:=Qh hlb;have HRA:=Qh hra;have HRB:=Qh hrb;obtain⟨z,hz⟩:∃z,w.heap.size=z:=⟨_,rfl⟩;obtain⟨w1,hw1⟩:∃w1,w.alloc (.cells #[.slice A ta.length c,.slice B oa.length d] 29)=w1:=⟨_,rfl⟩;have s1:w1.heap.size=z+1:=by rw[←hw1,←hz];simp
 obtain⟨w2,hw2⟩:∃w2,w1.alloc (.cells #[.slice A' tb.length c',.slice B' ob.length d'] 29)=w2:=⟨_,rfl⟩;have s2:w2.heap.size=z+1+1:=by rw[←hw2,←s1];simp
 have u1:Upd No w w1:=by rw[←hw1];exact(Upd.refl No w).alloc _
 have u2:Upd No w1 w2:=by rw[←hw2];exact(Upd.refl No w1).alloc _
 have bA:Blk w2 z 29 [.slice A ta.length c,.slice B oa.length d]:=by
  have:Blk w1 z 29 [.slice A ta.length c,.slice B oa.length d]:=by rw[←hw1,←hz];exact Blk.new w _ _
  exact this.upd u2 id
 have bB:Blk w2 (z+1) 29 [.slice A' tb.length c',.slice B' ob.length d']:=by rw[←hw2,←s1];exact Blk.new w1 _ _
 have UB:=Qh (u1.trans u2);have HAW:=Qh (fun W (u:Upd No w2 W)=>HA.upd (UB.out.trans u) (fun _ _=>id));have HBW:=Qh (fun W (u:Upd No w2 W)=>HB.upd (UB.out.trans u) (fun _ _=>id));have d0:∀W,Upd No w2 W→W.cell? ⟨z,0,none⟩=some (.slice A ta.length c):=fun W u=>(bA.upd u id).cell 0
 have d1:∀W,Upd No w2 W→W.cell? ⟨z,1,none⟩=some (.slice B oa.length d):=fun W u=>(bA.upd u id).cell 1
 have d2:∀W,Upd No w2 W→W.cell? ⟨z+1,0,none⟩=some (.slice A' tb.length c'):=fun W u=>(bB.upd u id).cell 0
 have d3:∀W,Upd No w2 W→W.cell? ⟨z+1,1,none⟩=some (.slice B' ob.length d'):=fun W u=>(bB.upd u id).cell 1
 have hxz:Upd No w2 w2:=Upd.refl _ _;have CL1:=Qh (Zi2 (HAW.out _ hxz) hla);have CL2:=Qh (fun W (u:Upd No w2 W)=>Zi2 (HBW.out _ u) hlb);clear HA HB bA bB u1 u2 hla hlb hra hrb
 go_enter Tryz.func6,Tryz.ntmps6
 go_wp2_with fail
 refine(CL1.out).mono ?_;rintro e w3 ⟨rfl,hu3⟩
 cases la with
 |false=>
  go_wp2_with fail
  refine(L.out _).mono ?_;rintro e w4 ⟨rfl,hu4⟩;go_wp2
  go_ret
  exact⟨rfl,UB.out.trans (hu3.trans hu4)⟩
 |true=>
  go_wp2_with fail
  refine(CL2.out _ hu3).mono ?_;rintro e w4 ⟨rfl,hu4⟩;have hv4:=hu3.trans hu4
  cases lb with
  |false=>
   go_wp2_with fail
   refine(L.out _).mono ?_;rintro e w5 ⟨rfl,hu5⟩;go_wp2
   go_ret
   exact⟨rfl,UB.out.trans (hv4.trans hu5)⟩
  |true=>
   by_cases hrr:(ra&&rb)=true
   ·rw[Bool.and_eq_true]at hrr;obtain⟨rfl,rfl⟩:=hrr;obtain⟨l,hl⟩:∃l,Zbf ⟨ta,oa,A,c,B,d⟩ ⟨tb,ob,A',c',B',d'⟩=l:=⟨_,rfl⟩;obtain⟨x1,hx1⟩:∃l,ZaN ⟨ta,oa,A,c,B,d⟩ ⟨tb,ob,A',c',B',d'⟩ p=l:=⟨_,rfl⟩;obtain⟨x2,hx2⟩:∃l,ZaN ⟨tb,ob,A',c',B',d'⟩ ⟨ta,oa,A,c,B,d⟩ p=l:=⟨_,rfl⟩;obtain⟨EA,hEA⟩:∃l,Zc ⟨ta,oa,A,c,B,d⟩=l:=⟨_,rfl⟩;obtain⟨EB,hEB⟩:∃l,Zc ⟨tb,ob,A',c',B',d'⟩=l:=⟨_,rfl⟩;obtain⟨PA,hPA⟩:∃l,ZE ⟨ta,oa,A,c,B,d⟩ p=l:=⟨_,rfl⟩;obtain⟨PB,hPB⟩:∃l,ZE ⟨tb,ob,A',c',B',d'⟩ p=l:=⟨_,rfl⟩;have la1:EA.length≤1152:=hEA▸Zcf HLA.out;have lb1:EB.length≤1152:=hEB▸Zcf HLB.out;have pa1:PA.length≤288:=hPA▸Zch HLA.out p;have pb1:PB.length≤288:=hPB▸Zch HLB.out p;have ll1:l.length≤1048576:=hl▸Zlb HRA.out HRB.out HLA.out HLB.out;have xl1:x1.length≤288:=by rw[←ZdJ hPA hPB hx1];exact Nat.le_trans (List.length_filter_le _ _) pa1
    have xl2:x2.length≤288:=by rw[←ZdJ hPB hPA hx2];exact Nat.le_trans (List.length_filter_le _ _) pb1
    have NEA:=Qh (hEA▸ZeR HRA.out HLA.out);have NEB:=Qh (hEB▸ZeR HRB.out HLB.out);have HML:=Qh (Zla hEA hEB hl);have HG1:=Qh (ZdJ hPA hPB hx1);have HG2:=Qh (ZdJ hPB hPA hx2);have CD:=Qh (Zje (HAW.out _ hv4) (HBW.out _ hv4) HRA.out HRB.out HLA.out HLB.out hl);have CB:=Qh (fun W (u:Upd No w2 W)=>Zk7 p (HAW.out _ u) (HBW.out _ u) HRA.out HRB.out HLA.out HLB.out hx1 hx2);have CO1:=Qh (fun W (u:Upd No w2 W)=>(by have h:=Zmy _ W ta oa A c B d p (HAW.out _ u);rw[hPA]at h;exact h:Calls Tryz.prog 28 #[.agg #[.slice A ta.length c,.slice B oa.length d],.int .i64 p] W (Zbb W PA)));have CO2:=Qh (fun W (u:Upd No w2 W)=>(by have h:=Zmy _ W tb ob A' c' B' d' p (HBW.out _ u);rw[hPB]at h;exact h:Calls Tryz.prog 28 #[.agg #[.slice A' tb.length c',.slice B' ob.length d'],.int .i64 p] W (Zbb W PB)));have CE1:=Qh (fun W (u:Upd No w2 W)=>Zgd (HAW.out _ u) (Zbj HLA.out).1 (Zbj HLA.out).2 hEA);have CE2:=Qh (fun W (u:Upd No w2 W)=>Zgd (HBW.out _ u) (Zbj HLB.out).1 (Zbj HLB.out).2 hEB);have CR1:=Qh (fun W (u:Upd No w2 W)=>Zc9 (HAW.out _ u) HRA.out);have CR2:=Qh (fun W (u:Upd No w2 W)=>Zc9 (HBW.out _ u) HRB.out);have E1:=Qh (show(l==l)=true from beq_self_eq_true l);have E2:=Qh (show(x1==x1)=true from beq_self_eq_true x1);have E3:=Qh (show(x2==x2)=true from beq_self_eq_true x2);clear hl hx1 hx2 hEA hEB hPA hPB
    go_wp2_with fail
    refine(CD.out).mono ?_;rintro e w5 ⟨A5,c5,rfl,ho5,hu5⟩;have HX5:=Qh (HvX.own ho5);have hv5:=hv4.trans hu5;clear ho5
    go_wp2_with fail
    refine(CB.out _ hv5).mono ?_;rintro e w6 ⟨A6,c6,A7,c7,rfl,hb6,hb7,hu6⟩;have HB6:=Qh hb6;have HB7:=Qh hb7;have hv6:=hv5.trans hu6;clear hb6 hb7
    go_wp2_with fail
    refine(CR1.out _ hv6).mono ?_;rintro e w7 ⟨rfl,hu7⟩;have hv7:=hv6.trans hu7
    go_wp2_with fail
    refine(CR2.out _ hv7).mono ?_;rintro e w8 ⟨rfl,hu8⟩;have hv8:=hv7.trans hu8;have HX8:=Qh (HX5.out.upd (hu6.trans (hu7.trans hu8)));have HB68:=Qh (Bads.upd HB6.out (hu7.trans hu8) (fun _ _=>id));have HB78:=Qh (Bads.upd HB7.out (hu7.trans hu8) (fun _ _=>id));have e0:∀W,Upd No w8 W→W.cell? ⟨z,0,none⟩=some (.slice A ta.length c):=fun W u=>d0 W (hv8.trans u)
    have e1:∀W,Upd No w8 W→W.cell? ⟨z,1,none⟩=some (.slice B oa.length d):=fun W u=>d1 W (hv8.trans u)
    have e2:∀W,Upd No w8 W→W.cell? ⟨z+1,0,none⟩=some (.slice A' tb.length c'):=fun W u=>d2 W (hv8.trans u)
    have e3:∀W,Upd No w8 W→W.cell? ⟨z+1,1,none⟩=some (.slice B' ob.length d'):=fun W u=>d3 W (hv8.trans u)
    go_wp2;refine wp_region_noPanic ?_;refine wp_region_held_drew (S:=(fun W'=>Upd No w8 W')) (by kernel_rfl) ?_ (fun hHeld=> ?_)
    ·(first|with_reducible exact(Upd.refl No w8).drew|with_reducible exact hHeld.trans hu9|with_reducible exact hHeld.trans hu10)
    refine wpK 0 rfl ?_;refine wpK 1 rfl ?_;refine wpK 3 rfl ?_;refine wpK 4 rfl ?_;refine wpR [2] ?_;refine wpC rfl (fun K hK=> ?_) AllReadyH.nil;go_simp
    (first
  |(go_at_call 28;refine(CO1.out _ (hv8.trans hHeld)).mono ?_;rintro e w9 ⟨A9,c9,rfl,ho9,hu9⟩))
    try (go_wp2_with fail)
    refine hK.out _ _ ?_ (fun hHeld=> ?_)
    ·(first|with_reducible exact(Upd.refl No w8).drew|with_reducible exact hHeld.trans hu9|with_reducible exact hHeld.trans hu10)
    clear hK K
    try simp only[Act.put,sT,sS,sZ]
    refine wpR [5] ?_;refine wpC rfl (fun K hK=> ?_) AllReadyH.nil;go_simp
    (first
  |(go_at_call 28;refine(CO2.out _ (hv8.trans hHeld)).mono ?_;rintro e w10 ⟨A10,c10,rfl,ho10,hu10⟩))
    try (go_wp2_with fail)
    refine hK.out _ _ ?_ (fun hHeld=> ?_)
    ·(first|with_reducible exact(Upd.refl No w8).drew|with_reducible exact hHeld.trans hu9|with_reducible exact hHeld.trans hu10)
    clear hK K
    try simp only[Act.put,sT,sS,sZ]
    refine wpK 6 rfl ?_;refine wpK 7 rfl ?_;refine wpD (NoPanic.normal ?_);have hv10:=hv8.trans hHeld;have hz10:Upd No w10 w10:=Upd.refl _ _;have HX:=Qh (fun W (u:Upd No w10 W)=>HX8.out.upd (hHeld.trans u));have HY1:=Qh (fun W (u:Upd No w10 W)=>Bads.upd HB68.out (hHeld.trans u) (fun _ _=>id));have HY2:=Qh (fun W (u:Upd No w10 W)=>Bads.upd HB78.out (hHeld.trans u) (fun _ _=>id));have HQ1:=Qh (fun W (u:Upd No w10 W)=>Bads.upd (ZbU ho9) (hu10.trans u) (fun _ _=>id));have HQ2:=Qh (fun W (u:Upd No w10 W)=>Bads.upd (ZbU ho10) u (fun _ _=>id));have CX1:=Qh (fun W (u:Upd No w10 W)=>(by have h:=ZiW (c:=c9) (d:=c10) (HQ1.out _ u) (HQ2.out _ u) (by omega) (by omega);rw[HG1.out]at h;exact h:Calls Tryz.prog 32 #[.slice A9 PA.length c9,.slice A10 PB.length c10] W (Zbb W x1)));have CX2:=Qh (fun W (u:Upd No w10 W)=>(by have h:=ZiW (c:=c10) (d:=c9) (HQ2.out _ u) (HQ1.out _ u) (by omega) (by omega);rw[HG2.out]at h;exact h:Calls Tryz.prog 32 #[.slice A10 PB.length c10,.slice A9 PA.length c9] W (Zbb W x2)));clear hHeld ho9 ho10 hu9 hu10 e0 e1 e2 e3;have f0:∀W,Upd No w10 W→W.cell? ⟨z,0,none⟩=some (.slice A ta.length c):=fun W u=>d0 W (hv10.trans u)
    have f1:∀W,Upd No w10 W→W.cell? ⟨z,1,none⟩=some (.slice B oa.length d):=fun W u=>d1 W (hv10.trans u)
    have f2:∀W,Upd No w10 W→W.cell? ⟨z+1,0,none⟩=some (.slice A' tb.length c'):=fun W u=>d2 W (hv10.trans u)
    have f3:∀W,Upd No w10 W→W.cell? ⟨z+1,1,none⟩=some (.slice B' ob.length d'):=fun W u=>d3 W (hv10.trans u)
    go_wp2;refine wp_region_noPanic ?_;refine wp_region_held_drew (S:=(fun W'=>Upd No w10 W')) (by kernel_rfl) ?_ (fun hHeld=> ?_)
    ·(first|with_reducible exact hz10.drew|with_reducible exact hHeld.trans hu11|with_reducible exact hHeld.trans hu12|with_reducible exact hHeld.trans hu13|with_reducible exact hHeld.trans hu14|with_reducible exact hHeld.trans hu15|with_reducible exact hHeld.trans hu16|with_reducible exact hHeld.trans hu17|with_reducible exact hHeld.trans hu18|with_reducible exact hHeld.trans hu19)
    refine wpK 0 rfl ?_;refine wpK 1 rfl ?_;refine wpK 2 rfl ?_;refine wpK 3 rfl ?_;refine wpK 4 rfl ?_;refine wpK 5 rfl ?_;refine wpK 6 rfl ?_;refine wpK 7 rfl ?_;refine wpK 8 rfl ?_;refine wpK 10 rfl ?_;refine wpR [9] ?_;refine wpC rfl (fun K hK=> ?_) AllReadyH.nil;go_simp
    (first
  |(go_at_call 30;refine(CE1.out _ (hv10.trans hHeld)).mono ?_;rintro e w11 ⟨A11,c11,rfl,hx11,hu11⟩))
    try (go_wp2_with fail)
    refine hK.out _ _ ?_ (fun hHeld=> ?_)
    ·(first|with_reducible exact hz10.drew|with_reducible exact hHeld.trans hu11|with_reducible exact hHeld.trans hu12|with_reducible exact hHeld.trans hu13|with_reducible exact hHeld.trans hu14|with_reducible exact hHeld.trans hu15|with_reducible exact hHeld.trans hu16|with_reducible exact hHeld.trans hu17|with_reducible exact hHeld.trans hu18|with_reducible exact hHeld.trans hu19)
    clear hK K
    try simp only[Act.put,sT,sS,sZ]
    refine wpR [11] ?_;refine wpC rfl (fun K hK=> ?_) AllReadyH.nil;go_simp
    (first
  |(go_at_call 30;refine(CE2.out _ (hv10.trans hHeld)).mono ?_;rintro e w12 ⟨A12,c12,rfl,hx12,hu12⟩))
    try (go_wp2_with fail)
    refine hK.out _ _ ?_ (fun hHeld=> ?_)
    ·(first|with_reducible exact hz10.drew|with_reducible exact hHeld.trans hu11|with_reducible exact hHeld.trans hu12|with_reducible exact hHeld.trans hu13|with_reducible exact hHeld.trans hu14|with_reducible exact hHeld.trans hu15|with_reducible exact hHeld.trans hu16|with_reducible exact hHeld.trans hu17|with_reducible exact hHeld.trans hu18|with_reducible exact hHeld.trans hu19)
    clear hK K
    try simp only[Act.put,sT,sS,sZ]
    refine wpR [12] ?_;refine wpC rfl (fun K hK=> ?_) AllReadyH.nil;go_simp
    (first
  |(go_at_call 29;obtain⟨Ga,hga⟩:=hx11;obtain⟨Gb,hgb⟩:=hx12;refine(ZlJ (Recs.upd hga hu12 (fun _ _=>id)) hgb (by omega) (by omega) NEA.out NEB.out HML.out).mono ?_;rintro e w13 ⟨A13,c13,rfl,ho13,hu13⟩))
    try (go_wp2_with fail)
    refine hK.out _ _ ?_ (fun hHeld=> ?_)
    ·(first|with_reducible exact hz10.drew|with_reducible exact hHeld.trans hu11|with_reducible exact hHeld.trans hu12|with_reducible exact hHeld.trans hu13|with_reducible exact hHeld.trans hu14|with_reducible exact hHeld.trans hu15|with_reducible exact hHeld.trans hu16|with_reducible exact hHeld.trans hu17|with_reducible exact hHeld.trans hu18|with_reducible exact hHeld.trans hu19)
    clear hK K
    try simp only[Act.put,sT,sS,sZ]
    refine wpR [13] ?_;refine wpC rfl (fun K hK=> ?_) AllReadyH.nil;go_simp
    (first
  |(go_at_call 21;refine(Zmt (HX.out _ hHeld) (HvX.own ho13) ll1 ll1 rfl rfl E1.out).mono ?_;rintro e w14 ⟨rfl,hu14⟩))
    try (go_wp2_with fail)
    refine hK.out _ _ ?_ (fun hHeld=> ?_)
    ·(first|with_reducible exact hz10.drew|with_reducible exact hHeld.trans hu11|with_reducible exact hHeld.trans hu12|with_reducible exact hHeld.trans hu13|with_reducible exact hHeld.trans hu14|with_reducible exact hHeld.trans hu15|with_reducible exact hHeld.trans hu16|with_reducible exact hHeld.trans hu17|with_reducible exact hHeld.trans hu18|with_reducible exact hHeld.trans hu19)
    clear hK K
    try simp only[Act.put,sT,sS,sZ]
    refine wpK 14 rfl ?_;refine wpK 15 rfl ?_;refine wpK 16 rfl ?_;refine wpK 17 rfl ?_;refine wpK 18 rfl ?_;refine wpR [19] ?_;refine wpC rfl (fun K hK=> ?_) AllReadyH.nil;go_simp
    (first
  |(go_at_call 32;refine(CX1.out _ hHeld).mono ?_;rintro e w15 ⟨A15,c15,rfl,ho15,hu15⟩))
    try (go_wp2_with fail)
    refine hK.out _ _ ?_ (fun hHeld=> ?_)
    ·(first|with_reducible exact hz10.drew|with_reducible exact hHeld.trans hu11|with_reducible exact hHeld.trans hu12|with_reducible exact hHeld.trans hu13|with_reducible exact hHeld.trans hu14|with_reducible exact hHeld.trans hu15|with_reducible exact hHeld.trans hu16|with_reducible exact hHeld.trans hu17|with_reducible exact hHeld.trans hu18|with_reducible exact hHeld.trans hu19)
    clear hK K
    try simp only[Act.put,sT,sS,sZ]
    refine wpR [20] ?_;refine wpC rfl (fun K hK=> ?_) AllReadyH.nil;go_simp
    (first
  |(go_at_call 31;refine(ZiU _ _ _ _ _ _ _ x1 x1 (HY1.out _ hHeld) (ZbU ho15) (by omega) (by omega) E2.out).mono ?_;rintro e w16 ⟨rfl,hu16⟩))
    try (go_wp2_with fail)
    refine hK.out _ _ ?_ (fun hHeld=> ?_)
    ·(first|with_reducible exact hz10.drew|with_reducible exact hHeld.trans hu11|with_reducible exact hHeld.trans hu12|with_reducible exact hHeld.trans hu13|with_reducible exact hHeld.trans hu14|with_reducible exact hHeld.trans hu15|with_reducible exact hHeld.trans hu16|with_reducible exact hHeld.trans hu17|with_reducible exact hHeld.trans hu18|with_reducible exact hHeld.trans hu19)
    clear hK K
    try simp only[Act.put,sT,sS,sZ]
    refine wpK 21 rfl ?_;refine wpK 22 rfl ?_;refine wpK 23 rfl ?_;refine wpK 24 rfl ?_;refine wpK 25 rfl ?_;refine wpR [26] ?_;refine wpC rfl (fun K hK=> ?_) AllReadyH.nil;go_simp
    (first
  |(go_at_call 32;refine(CX2.out _ hHeld).mono ?_;rintro e w17 ⟨A17,c17,rfl,ho17,hu17⟩))
    try (go_wp2_with fail)
    refine hK.out _ _ ?_ (fun hHeld=> ?_)
    ·(first|with_reducible exact hz10.drew|with_reducible exact hHeld.trans hu11|with_reducible exact hHeld.trans hu12|with_reducible exact hHeld.trans hu13|with_reducible exact hHeld.trans hu14|with_reducible exact hHeld.trans hu15|with_reducible exact hHeld.trans hu16|with_reducible exact hHeld.trans hu17|with_reducible exact hHeld.trans hu18|with_reducible exact hHeld.trans hu19)
    clear hK K
    try simp only[Act.put,sT,sS,sZ]
    refine wpR [27] ?_;refine wpC rfl (fun K hK=> ?_) AllReadyH.nil;go_simp
    (first
  |(go_at_call 31;refine(ZiU _ _ _ _ _ _ _ x2 x2 (HY2.out _ hHeld) (ZbU ho17) (by omega) (by omega) E3.out).mono ?_;rintro e w18 ⟨rfl,hu18⟩))
    try (go_wp2_with fail)
    refine hK.out _ _ ?_ (fun hHeld=> ?_)
    ·(first|with_reducible exact hz10.drew|with_reducible exact hHeld.trans hu11|with_reducible exact hHeld.trans hu12|with_reducible exact hHeld.trans hu13|with_reducible exact hHeld.trans hu14|with_reducible exact hHeld.trans hu15|with_reducible exact hHeld.trans hu16|with_reducible exact hHeld.trans hu17|with_reducible exact hHeld.trans hu18|with_reducible exact hHeld.trans hu19)
    clear hK K
    try simp only[Act.put,sT,sS,sZ]
    refine wpK 28 rfl ?_;refine wpK 29 rfl ?_;refine wpR [30] ?_;refine wpC rfl (fun K hK=> ?_) AllReadyH.nil;go_simp
    (first
  |(go_at_call 15;refine(L.out _).mono ?_;rintro e w19 ⟨rfl,hu19⟩))
    try (go_wp2_with fail)
    refine hK.out _ _ ?_ (fun hHeld=> ?_)
    ·(first|with_reducible exact hz10.drew|with_reducible exact hHeld.trans hu11|with_reducible exact hHeld.trans hu12|with_reducible exact hHeld.trans hu13|with_reducible exact hHeld.trans hu14|with_reducible exact hHeld.trans hu15|with_reducible exact hHeld.trans hu16|with_reducible exact hHeld.trans hu17|with_reducible exact hHeld.trans hu18|with_reducible exact hHeld.trans hu19)
    clear hK K
    try simp only[Act.put,sT,sS,sZ]
    refine wpK 31 rfl ?_;refine wpK 32 rfl ?_;refine wpD (NoPanic.normal ?_);have HH:=Qh hHeld;clear hHeld;go_wp2
    go_ret
    exact⟨rfl,UB.out.trans (hv10.trans HH.out)⟩
   ·have hrf:(ra&&rb)=false:=by simpa using hrr
    have HRR:=Qh (show(Za ⟨ta,oa,A,c,B,d⟩&&Za ⟨tb,ob,A',c',B',d'⟩)=false by rw[HRA.out,HRB.out];exact hrf);have CR1:=Qh (fun W (u:Upd No w2 W)=>Zc9 (HAW.out _ u) HRA.out);have CR2:=Qh (fun W (u:Upd No w2 W)=>Zc9 (HBW.out _ u) HRB.out);have CD:=Qh (Zf1 (HAW.out _ hv4) (HBW.out _ hv4) HRR.out);have CB:=Qh (fun W (u:Upd No w2 W)=>Zhj p (HAW.out _ u) (HBW.out _ u) HRR.out);clear hrr
    go_wp2_with fail
    refine(CD.out).mono ?_;rintro e w5 ⟨rfl,hu5⟩;have hv5:=hv4.trans hu5
    go_wp2_with fail
    refine(CB.out _ hv5).mono ?_;rintro e w6 ⟨rfl,hu6⟩;have hv6:=hv5.trans hu6
    cases ra with
    |false=>
     go_wp2_with fail
     refine(CR1.out _ hv6).mono ?_;rintro e w7 ⟨rfl,hu7⟩;have hv7:=hv6.trans hu7
     go_wp2_with fail
     refine(L.out _).mono ?_;rintro e w8 ⟨rfl,hu8⟩;go_wp2
     go_ret
     exact⟨rfl,UB.out.trans (hv7.trans hu8)⟩
    |true=>
     have hrb0:rb=false:=by simpa using hrf
     subst hrb0
     go_wp2_with fail
     refine(CR1.out _ hv6).mono ?_;rintro e w7 ⟨rfl,hu7⟩;have hv7:=hv6.trans hu7
     go_wp2_with fail
     refine(CR2.out _ hv7).mono ?_;rintro e w8 ⟨rfl,hu8⟩;have hv8:=hv7.trans hu8
     go_wp2_with fail
     refine(L.out _).mono ?_;rintro e w9 ⟨rfl,hu9⟩;go_wp2
     go_ret
     exact⟨rfl,UB.out.trans (hv8.trans hu9)⟩
end
end
end Go.Proofs.YtblplapkdmhikaaGreat
