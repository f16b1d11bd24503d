/- How edges change: derive.Edges. -/
import Derived.Shelf.SlSortCmp.NoneTotal
import Derived.Lib.SliceRun
import Derived.Test.YtblplapkdmhikaaGreatDbab
import Derived.Test.YtblplapkdmhikaaGreatDbbv
import Derived.Test.YtblplapkdmhikaaGreatDbbz
namespace Go.Proofs.YtblplapkdmhikaaGreat
set_option linter.unusedVariables false
set_option linter.unusedSimpArgs false
section
open Go.RowKit
theorem Zjm {l:List Int} (h:l.Nodup) {j:Nat} (hj:j<l.length):l[j]∉l.take j:=fun hm=>by
 have h2:(l.take (j+1)).Nodup:=h.sublist (List.take_sublist _ _);rw[List.take_succ_eq_append_getElem hj,List.nodup_append]at h2;exact h2.2.2 _ hm _ (List.mem_singleton.2 rfl) rfl
theorem Zd4 {a b:Hist} (la:Zk a=true) (lb:Zk b=true):(ZL a b).length≤1000000:=by
 obtain⟨a1,a2,a3⟩:=Zal la;obtain⟨b1,b2,b3⟩:=Zal lb;have h1:=ZeV (Zji a b);have l1:(Zj a.txs b.txs).length≤a.txs.length:=List.length_filter_le _ _;have l2:(Zj b.txs a.txs).length≤b.txs.length:=List.length_filter_le _ _;have l3:(Zo a.ords b.ords).length≤a.ords.length:=List.length_filter_le _ _;have l4:(Zo b.ords a.ords).length≤b.ords.length:=List.length_filter_le _ _
 have h2:(twL (Zj a.txs b.txs++Zj b.txs a.txs)).length≤(Zj a.txs b.txs++Zj b.txs a.txs).length*24:=Zeo fun t ht=>by
  rcases List.mem_append.1 ht with h|h
  ·exact a2 t (List.mem_filter.1 h).1
  ·exact b2 t (List.mem_filter.1 h).1
 have h3:(Zji a b).length=(twL (Zj a.txs b.txs++Zj b.txs a.txs)).length+((Zo a.ords b.ords).length+(Zo b.ords a.ords).length):=by
  show(twL (Zj a.txs b.txs++Zj b.txs a.txs)++(Zo a.ords b.ords++Zo b.ords a.ords).map (·.key)).length=_
  rw[List.length_append,List.length_map,List.length_append]
 rw[List.length_append]at h2;unfold ZL;omega
section
variable {F G:Nat→Prop} {w:World} {ta tb:List HTx} {oa ob:List HOrd} {A A':Option Addr} {c c':Nat} {B B':Option Addr} {d d':Nat}
set_option maxRecDepth 100000 in
set_option maxHeartbeats 2000000 in
theorem ZjS (HA:Hist.lies F w ⟨ta,oa,A,c,B,d⟩) (HB:Hist.lies G w ⟨tb,ob,A',c',B',d'⟩) (hr:(Za ⟨ta,oa,A,c,B,d⟩&&Za ⟨tb,ob,A',c',B',d'⟩)=false):
  Calls Tryz.prog 16 #[.agg #[.slice A ta.length c,.slice B oa.length d],.agg #[.slice A' tb.length c',.slice B' ob.length d']] w fun e w'=>e= .returned (.tuple #[.slice none 0 0,.int .i64 5])∧Upd No w w':=by
 obtain⟨z,hz⟩:∃z,w.heap.size=z:=⟨_,rfl⟩;obtain⟨w1,hw1⟩:∃w1,w.alloc (.cells #[.slice A ta.length c,.slice B oa.length d] 29)=w1:=⟨_,rfl⟩;have s1:w1.heap.size=z+1:=by rw[←hw1,←hz];simp
 obtain⟨w2,hw2⟩:∃w2,w1.alloc (.cells #[.slice A' tb.length c',.slice B' ob.length d'] 29)=w2:=⟨_,rfl⟩;have s2:w2.heap.size=z+1+1:=by rw[←hw2,←s1];simp
 have u1:Upd No w w1:=by rw[←hw1];exact(Upd.refl No w).alloc _
 have u2:Upd No w1 w2:=by rw[←hw2];exact(Upd.refl No w1).alloc _
 have bA:Blk w2 z 29 [.slice A ta.length c,.slice B oa.length d]:=by
  have:Blk w1 z 29 [.slice A ta.length c,.slice B oa.length d]:=by rw[←hw1,←hz];exact Blk.new w _ _
  exact this.upd u2 id
 have bB:Blk w2 (z+1) 29 [.slice A' tb.length c',.slice B' ob.length d']:=by rw[←hw2,←s1];exact Blk.new w1 _ _
 have d0:∀W,Upd No w2 W→W.cell? ⟨z,0,none⟩=some (.slice A ta.length c):=fun W u=>(bA.upd u id).cell 0
 have d1:∀W,Upd No w2 W→W.cell? ⟨z,1,none⟩=some (.slice B oa.length d):=fun W u=>(bA.upd u id).cell 1
 have d2:∀W,Upd No w2 W→W.cell? ⟨z+1,0,none⟩=some (.slice A' tb.length c'):=fun W u=>(bB.upd u id).cell 0
 have d3:∀W,Upd No w2 W→W.cell? ⟨z+1,1,none⟩=some (.slice B' ob.length d'):=fun W u=>(bB.upd u id).cell 1
 have hxz:Upd No w2 w2:=Upd.refl _ _;have UB:=Qh (u1.trans u2);have CA:=Qh (Zec (HA.upd UB.out (fun _ _=>id)) (HB.upd UB.out (fun _ _=>id)) hr);clear HA HB bA bB u1 u2 hr
 go_enter Tryz.func16,Tryz.ntmps16
 go_wp2_with fail
 refine(CA.out).mono ?_;rintro e w3 ⟨rfl,hu3⟩;go_wp2
 go_ret2
 exact⟨rfl,UB.out.trans hu3⟩
set_option maxRecDepth 100000 in
set_option maxHeartbeats 8000000 in
theorem Zi1 (HA:Hist.lies F w ⟨ta,oa,A,c,B,d⟩) (HB:Hist.lies G w ⟨tb,ob,A',c',B',d'⟩) (hra:Za ⟨ta,oa,A,c,B,d⟩=true) (hrb:Za ⟨tb,ob,A',c',B',d'⟩=true) (la:Zk ⟨ta,oa,A,c,B,d⟩=true) (lb:Zk ⟨tb,ob,A',c',B',d'⟩=true)
  {l:List Hvy} (hl:Za7 ⟨ta,oa,A,c,B,d⟩ ⟨tb,ob,A',c',B',d'⟩=l):
  Calls Tryz.prog 16 #[.agg #[.slice A ta.length c,.slice B oa.length d],.agg #[.slice A' tb.length c',.slice B' ob.length d']] w fun e w'=>∃A' c',e= .returned (.tuple #[.slice A' l.length c',.int .i64 0])∧w'.ownsRow w.heap.size 55 5 (.slice A' l.length c') l.length (Zbw l)∧Upd No w w':=by
 have CL:=Qh (Zi6 (h:=⟨ta,oa,A,c,B,d⟩) (Zal la).2.1);have CLB:=Qh (Zi6 (h:=⟨tb,ob,A',c',B',d'⟩) (Zal lb).2.1);obtain⟨EE,hEE⟩:∃EE,Zc2 (Zc ⟨ta,oa,A,c,B,d⟩)++Zc2 (Zc ⟨tb,ob,A',c',B',d'⟩)=EE:=⟨_,rfl⟩
 have HEL:EE.length≤2304:=by
  rw[←hEE,List.length_append];have:=Zfx la;have:=Zfx lb;omega
 obtain⟨ks,hks⟩:∃ks,ZL ⟨ta,oa,A,c,B,d⟩ ⟨tb,ob,A',c',B',d'⟩=ks:=⟨_,rfl⟩;have hksl:ks.length≤1000000:=hks▸Zd4 la lb;have HND:=Qh (show ks.Nodup from hks▸ZbV);have HKS:=Qh hks;have HRA:=Qh hra;have HRB:=Qh hrb
 have INA:Hid (∀key,∀x∈Zr key (Zc ⟨ta,oa,A,c,B,d⟩),x.e∈EE∧0≤x.n∧x.n≤24):=Qh fun key x hx=>by
  have h1:=(mem_ofKeyH.1 hx).1;have h2:=((ZN hra).1 h1).2;have h3:=CL.out x.e;refine⟨?_,by omega,by omega⟩;rw[←hEE];exact List.mem_append_left _ (List.mem_map.2 ⟨x,h1,rfl⟩)
 have INB:Hid (∀key,∀x∈Zr key (Zc ⟨tb,ob,A',c',B',d'⟩),x.e∈EE∧0≤x.n∧x.n≤24):=Qh fun key x hx=>by
  have h1:=(mem_ofKeyH.1 hx).1;have h2:=((ZN hrb).1 h1).2;have h3:=CLB.out x.e;refine⟨?_,by omega,by omega⟩;rw[←hEE];exact List.mem_append_right _ (List.mem_map.2 ⟨x,h1,rfl⟩)
 have HLD:=Qh (fun(m:List (Edge×Value)) (hm:CntZ m (gK ⟨ta,oa,A,c,B,d⟩ ⟨tb,ob,A',c',B',d'⟩ ks) EE)=>(by rw[←hks]at hm ⊢;rw[←hl];exact Zjt hra hrb hm:ZV (gK ⟨ta,oa,A,c,B,d⟩ ⟨tb,ob,A',c',B',d'⟩ ks) (ddE (m.map (·.1)))=l));have EFA:=Qh (Zeb la);have EFB:=Qh (Zeb lb);obtain⟨z,hz⟩:∃z,w.heap.size=z:=⟨_,rfl⟩;obtain⟨w1,hw1⟩:∃w1,w.alloc (.cells #[.slice A ta.length c,.slice B oa.length d] 29)=w1:=⟨_,rfl⟩;have s1:w1.heap.size=z+1:=by rw[←hw1,←hz];simp
 obtain⟨w2,hw2⟩:∃w2,w1.alloc (.cells #[.slice A' tb.length c',.slice B' ob.length d'] 29)=w2:=⟨_,rfl⟩;have s2:w2.heap.size=z+1+1:=by rw[←hw2,←s1];simp
 have u1:Upd No w w1:=by rw[←hw1];exact(Upd.refl No w).alloc _
 have u2:Upd No w1 w2:=by rw[←hw2];exact(Upd.refl No w1).alloc _
 have bA:Blk w2 z 29 [.slice A ta.length c,.slice B oa.length d]:=by
  have:Blk w1 z 29 [.slice A ta.length c,.slice B oa.length d]:=by rw[←hw1,←hz];exact Blk.new w _ _
  exact this.upd u2 id
 have bB:Blk w2 (z+1) 29 [.slice A' tb.length c',.slice B' ob.length d']:=by rw[←hw2,←s1];exact Blk.new w1 _ _
 have UB:=Qh (u1.trans u2);have CT:=Qh (Zha (HA.upd UB.out (fun _ _=>id)) (HB.upd UB.out (fun _ _=>id)) hra hrb la lb hks);have HAW:=Qh (fun W (u:Upd No w2 W)=>(HA.weak (G:=fun i=>i<w.heap.size) (fun i h _=>h)).upd (UB.out.trans u) (fun _ _=>id));have HBW:=Qh (fun W (u:Upd No w2 W)=>(HB.weak (G:=fun i=>i<w.heap.size) (fun i h _=>h)).upd (UB.out.trans u) (fun _ _=>id));have hmm:= @run_makeMap Tryz.prog;have d0:∀W,Upd No w2 W→W.cell? ⟨z,0,none⟩=some (.slice A ta.length c):=fun W u=>(bA.upd u id).cell 0
 have d1:∀W,Upd No w2 W→W.cell? ⟨z,1,none⟩=some (.slice B oa.length d):=fun W u=>(bA.upd u id).cell 1
 have d2:∀W,Upd No w2 W→W.cell? ⟨z+1,0,none⟩=some (.slice A' tb.length c'):=fun W u=>(bB.upd u id).cell 0
 have d3:∀W,Upd No w2 W→W.cell? ⟨z+1,1,none⟩=some (.slice B' ob.length d'):=fun W u=>(bB.upd u id).cell 1
 have hxz:Upd No w2 w2:=Upd.refl _ _;have BA:=Qh bA;have BB:=Qh bB;have LA:=Qh (Zal la);have LB:=Qh (Zal lb);clear HA HB bA bB u1 u2 hra hrb la lb hEE hks hl
 go_enter Tryz.func16,Tryz.ntmps16
 go_wp2_with fail
 refine(CT.out).mono ?_;rintro e w3 ⟨A3,c3,rfl,ho3,hu3⟩;obtain⟨bc,hbc⟩:∃bc,w3.heap.size=bc:=⟨_,rfl⟩;obtain⟨wm,hwm⟩:∃wm,w3.alloc (.map #[] 0)=wm:=⟨_,rfl⟩;have um:Upd No w3 wm:=by rw[←hwm];exact(Upd.refl No w3).alloc _
 have hM:MapE wm bc ZB []:=by rw[←hwm,←hbc];exact MapE.new w3 _
 have hz23:=hu3.size;have hnz:¬One bc z:=fun e=>by cases e;omega
 have hnz1:¬One bc (z+1):=fun e=>by unfold One at e;omega
 have UM:=Qh (hu3.trans um);have h0:∀W,Upd (One bc) wm W→W.cell? ⟨z,0,none⟩=some (.slice A ta.length c):=fun W u=>((BA.out.upd UM.out id).upd u hnz).cell 0
 have h1:∀W,Upd (One bc) wm W→W.cell? ⟨z,1,none⟩=some (.slice B oa.length d):=fun W u=>((BA.out.upd UM.out id).upd u hnz).cell 1
 have h2:∀W,Upd (One bc) wm W→W.cell? ⟨z+1,0,none⟩=some (.slice A' tb.length c'):=fun W u=>((BB.out.upd UM.out id).upd u hnz1).cell 0
 have h3:∀W,Upd (One bc) wm W→W.cell? ⟨z+1,1,none⟩=some (.slice B' ob.length d'):=fun W u=>((BB.out.upd UM.out id).upd u hnz1).cell 1
 have hzw:=UB.out.size;have HAM:=Qh (fun W (u:Upd (One bc) wm W)=>(HAW.out _ UM.out).upd u (fun i h e=>by cases e;omega));have HBM:=Qh (fun W (u:Upd (One bc) wm W)=>(HBW.out _ UM.out).upd u (fun i h e=>by cases e;omega));have HK:=Qh ((Ints.weak (G:=fun i=>i<bc) (Ints.of_owned ho3) (fun i h _=>by omega)).upd um (fun _ _=>id));have HM0:=Qh hM;have hxm:Upd (One bc) wm wm:=Upd.refl _ _;have hbm:bc<wm.heap.size:=hM.lt;clear d0 d1 d2 d3 hM um ho3;go_wp2
 go_loopg [30] ks.length (fun gk i wr=>∃(j:Nat) (m:List (Edge×Value)),j+gk=ks.length∧i= .int .i64 (j:Int)∧Hid (MapE wr bc ZB m)∧Hid (CntZ m (gK ⟨ta,oa,A,c,B,d⟩ ⟨tb,ob,A',c',B',d'⟩ (ks.take j)) EE)∧Upd (One bc) wm wr)
 case atStart=>exact⟨0,[],by omega,rfl,HM0,Qh ((CntZ.new EE).congr (fun e=>by unfold gK;simp)),hxm⟩
 case round=>
  obtain⟨j,m1,hgj,rfl,hm1,hg1,hu1⟩:=hrel
  by_cases hltj:j<ks.length
  ·obtain⟨ad,hAd,_,_,hc⟩:=(HK.out.upd hu1 (fun i h e=>by cases e;omega)).at_ hltj;obtain⟨key,hkey⟩:∃key,ks[j]=key:=⟨_,rfl⟩;rw[hkey]at hc;have hnq:=Zjm HND.out hltj;rw[hkey]at hnq;have HKT:=Qh (show ks.take (j+1)=ks.take j++[key] by rw[List.take_succ_eq_append_getElem hltj,hkey]);have j1:(0:Int)≤(j:Int):=Qn _;have j2:(j:Int)<(ks.length:Int):=by omega
   have jw:IntKind.i64.wrap ((j:Int)+1)=(j:Int)+1:=IntWalk.i64_in _ (by omega);obtain⟨q,hq⟩:∃q,ks.take j=q:=⟨_,rfl⟩;rw[hq]at hg1 hnq HKT;obtain⟨La,hLa⟩:∃La,Zr key (Zc ⟨ta,oa,A,c,B,d⟩)=La:=⟨_,rfl⟩;obtain⟨Lb,hLb⟩:∃Lb,Zr key (Zc ⟨tb,ob,A',c',B',d'⟩)=Lb:=⟨_,rfl⟩;have CA4:=Qh (dOf (l:=La) key (HAM.out _ hu1) (ZiY (h:=⟨ta,oa,A,c,B,d⟩) LA.out.1 LA.out.2.1 _) (hLa▸Zg9 key));have IA:=Qh (show∀x∈La,x.e∈EE∧0≤x.n∧x.n≤24 from hLa▸INA.out key);have IB:=Qh (show∀x∈Lb,x.e∈EE∧0≤x.n∧x.n≤24 from hLb▸INB.out key);have STA:=Qh (show∀(k:Nat) (x:Hvy) (hk:k<La.length),La[k]=x→gB ⟨ta,oa,A,c,B,d⟩ ⟨tb,ob,A',c',B',d'⟩ [] (La.take k) [] q x.e=0∧∀e,(if e=x.e then 0-x.n else gB ⟨ta,oa,A,c,B,d⟩ ⟨tb,ob,A',c',B',d'⟩ [] (La.take k) [] q e)=gB ⟨ta,oa,A,c,B,d⟩ ⟨tb,ob,A',c',B',d'⟩ [] (La.take (k+1)) [] q e by subst hLa;intro k x hk hx;exact Zpb hnq [] hk hx);have STB:=Qh (show∀(k:Nat) (x:Hvy) (hk:k<Lb.length),Lb[k]=x→gB ⟨ta,oa,A,c,B,d⟩ ⟨tb,ob,A',c',B',d'⟩ [] La (Lb.take k) q x.e=0-(Zf ⟨ta,oa,A,c,B,d⟩ x.e:Int)∧∀e,(if e=x.e then 0-(Zf ⟨ta,oa,A,c,B,d⟩ x.e:Int)+x.n else gB ⟨ta,oa,A,c,B,d⟩ ⟨tb,ob,A',c',B',d'⟩ [] La (Lb.take k) q e)=gB ⟨ta,oa,A,c,B,d⟩ ⟨tb,ob,A',c',B',d'⟩ [] La (Lb.take (k+1)) q e by subst hLa hLb;intro k x hk hx;exact Zpa HRA.out hnq [] hk hx);have GEND:=Qh (show∀e,gB ⟨ta,oa,A,c,B,d⟩ ⟨tb,ob,A',c',B',d'⟩ [] La Lb q e=gK ⟨ta,oa,A,c,B,d⟩ ⟨tb,ob,A',c',B',d'⟩ (q++[key]) e by subst hLa hLb;exact Zn0 HRA.out HRB.out hnq []);have la1:La.length≤1152:=by rw[←hLa];exact Nat.le_trans (ZgO _ _) EFA.out
   have lb1:Lb.length≤1152:=by rw[←hLb];exact Nat.le_trans (ZgO _ _) EFB.out
   have CB5:=Qh (fun W (u:Upd (One bc) wm W)=>dOf (l:=Lb) key (HBM.out _ u) (ZiY (h:=⟨tb,ob,A',c',B',d'⟩) LB.out.1 LB.out.2.1 _) (hLb▸Zg9 key));obtain⟨wo,hwo⟩:∃wo,wo=wr:=⟨_,rfl⟩;subst hwo
   generalize gk=m0 at*
   subst hAd;clear hkey hLa hLb hnq hq
   go_wp2_with fail
   refine(CA4.out).mono ?_;rintro e w4 ⟨A4,c4,rfl,ho4,hu4⟩;have hb4:=hm1.out.lt;have HU4:=Qh (hu1.noR hu4);have HM4:=Qh (hm1.out.upd hu4 id);have hq4:Upd (One bc) w4 w4:=Upd.refl _ _;clear hm1;have HL:=Qh (Recs.weak (G:=fun i=>wo.heap.size≤i) (Recs.of_own Zew (by omega) ho4) (fun i _ e=>(ho4.lt i e).1));clear ho4 hu4;go_wp2
   go_loopg [38] La.length (fun gk i wr=>∃(k:Nat) (m:List (Edge×Value)),k+gk=La.length∧i= .int .i64 (k:Int)∧Hid (MapE wr bc ZB m)∧Hid (CntZ m (gB ⟨ta,oa,A,c,B,d⟩ ⟨tb,ob,A',c',B',d'⟩ [] (La.take k) [] q) EE)∧Upd (One bc) w4 wr)
   case atStart=>exact⟨0,m1,by omega,rfl,Qh (HM4.out),Qh (hg1.out.congr (fun e=>by rw[List.take_zero];exact Zni e [] q)),hq4⟩
   case round=>
    obtain⟨k,m,hgk,rfl,hm,hg,hu⟩:=hrel
    by_cases hlt:k<La.length
    ·obtain⟨ad,rfl,q0,q1,q2,q3,q4⟩:=Hvys.at_ (Recs.upd HL.out hu (fun i h e=>by cases e;have h2:wo.heap.size≤bc:=h;omega)) hlt;obtain⟨x,hx⟩:∃x,La[k]=x:=⟨_,rfl⟩;simp only[hx]at q0 q1 q2 q3 q4;have hxm:x∈La:=hx▸List.getElem_mem hlt;obtain⟨hx1,hx2,hx3⟩:=IA.out x hxm;obtain⟨hv0,hgn⟩:=STA.out k x hlt hx;have i1:(0:Int)≤(k:Int):=Qn _;have i2:(k:Int)<(La.length:Int):=by omega
     obtain⟨wx,hwx⟩:∃wx,wr.alloc (.cells #[.int .i64 x.e.f,.int .i64 x.e.t,.int .i64 x.e.k,.int .i64 x.e.key,.int .i64 x.n] 55)=wx:=⟨_,rfl⟩;have ux:Upd No wr wx:=by rw[←hwx];exact(Upd.refl No wr).alloc _
     have bX:Blk wx wr.heap.size 55 [.int .i64 x.e.f,.int .i64 x.e.t,.int .i64 x.e.k,.int .i64 x.e.key,.int .i64 x.n]:=by rw[←hwx];exact Blk.new wr _ _
     have hbw:=hm.out.lt;have hnb:¬One bc wr.heap.size:=fun e=>by cases e;omega
     have f0:∀W,Upd (One bc) wx W→W.cell? ⟨wr.heap.size,0,none⟩=some (.int .i64 x.e.f):=fun W u=>(bX.upd u hnb).cell 0
     have f1:∀W,Upd (One bc) wx W→W.cell? ⟨wr.heap.size,1,none⟩=some (.int .i64 x.e.t):=fun W u=>(bX.upd u hnb).cell 1
     have f2:∀W,Upd (One bc) wx W→W.cell? ⟨wr.heap.size,2,none⟩=some (.int .i64 x.e.k):=fun W u=>(bX.upd u hnb).cell 2
     have f3:∀W,Upd (One bc) wx W→W.cell? ⟨wr.heap.size,3,none⟩=some (.int .i64 x.e.key):=fun W u=>(bX.upd u hnb).cell 3
     have f4:∀W,Upd (One bc) wx W→W.cell? ⟨wr.heap.size,4,none⟩=some (.int .i64 x.n):=fun W u=>(bX.upd u hnb).cell 4
     have hmx:=hm.out.upd ux id;have hmd:MapE wx.drew bc ZB m:=hmx;clear hmx;have hval:=hg.out.val x.e;obtain⟨cn,hcn⟩:∃cn,Zf ⟨ta,oa,A,c,B,d⟩ x.e=cn:=⟨_,rfl⟩;have hcl:cn≤24:=by rw[←hcn];exact CL.out x.e
     obtain⟨V,hV⟩:∃V,(gB ⟨ta,oa,A,c,B,d⟩ ⟨tb,ob,A',c',B',d'⟩ [] (La.take k) [] q) x.e=V:=⟨_,rfl⟩;have hV0:V=0:=by rw[←hV];exact hv0
     rw[hV]at hval;obtain⟨st,w6,e2,hm6,hu6,hst⟩:=ZaX ZW Tryz.underlying109 ZE hmd x.e;have e1:=Zm ZW Tryz.underlying109 ZE hmd.is x.e;have e3:=Zm ZW Tryz.underlying109 ZE hm6.is x.e;rw[ZI,Option.getD_some]at e3;rw[hval]at e1 e2 e3;obtain⟨w7,e4,hm7,hu7⟩:=hst (.int .i64 (V-x.n));change (Instr.lookup 109 (.map (some bc)) (.agg #[.int .i64 x.e.f,.int .i64 x.e.t,.int .i64 x.e.k,.int .i64 x.e.key]) false).run Tryz.prog wx.drew= .ok (.int .i64 V) wx.drew at e1;change (Instr.lookup 109 (.map (some bc)) (.agg #[.int .i64 x.e.f,.int .i64 x.e.t,.int .i64 x.e.k,.int .i64 x.e.key]) false).run Tryz.prog w6= .ok (.int .i64 V) w6 at e3;change (Instr.mapEntry 109 (.map (some bc)) (.agg #[.int .i64 x.e.f,.int .i64 x.e.t,.int .i64 x.e.k,.int .i64 x.e.key])).run Tryz.prog wx.drew= .ok (.tuple #[.int .i64 V,.int .i64 st]) w6 at e2;change (Instr.entryStore 109 (.map (some bc)) (.int .i64 st) (.int .i64 (V-x.n))).run Tryz.prog w6= .ok () w7 at e4;have hwr:IntKind.i64.wrap (V-x.n)=V-x.n:=IntWalk.i64_in _ (by omega);have hU6:Upd (One bc) wx w6:=hu6.of_drew;have hU7:Upd (One bc) wx w7:=hu7.of_drew;have HM7:=Qh hm7;have HG7:=Qh ((hg.out.put hx1 (V-x.n)).congr (k:=gB ⟨ta,oa,A,c,B,d⟩ ⟨tb,ob,A',c',B',d'⟩ [] (La.take (k+1)) [] q) (fun e=>by rw[hV0];exact hgn e));have hxz:Upd (One bc) wx wx:=Upd.refl _ _;have HUX:=Qh (hu.noR ux);clear hmd hval hst hm6 hm7 hu6 hu7 bX ux hx hv0 hgn hm hg hV hV0 hcn hxm;go_wp2
     go_region_held3 (fun W'=>Upd (One bc) wx W') (first|exact hxz.drew|exact hU6|exact hU7) (fail)
     all_goals
      clear e1 e2 e3 e4 hwr;go_wp2
      go_roundg (gk-1)
      case measure=>omega
      case rel=>exact⟨k+1,_,by omega,by go_num,HM7,HG7,HUX.out.trans hU7⟩
    ·obtain rfl:k=La.length:=by omega
     have HG5:=Qh (hg.out.congr (k:=gB ⟨ta,oa,A,c,B,d⟩ ⟨tb,ob,A',c',B',d'⟩ [] La ([]:List Hvy) q) (fun e=>by rw[List.take_length]));have hu5m:=HU4.out.trans hu;have CB6:=Qh (CB5.out _ hu5m);obtain⟨w5,hw5⟩:∃w5,w5=wr:=⟨_,rfl⟩;subst hw5
     go_wp2_with fail
     refine(CB6.out).mono ?_;rintro e w6 ⟨A6,c6,rfl,ho6,hu6⟩;have hb6:=hm.out.lt;have HU6:=Qh (hu5m.noR hu6);have HM6:=Qh (hm.out.upd hu6 id);have hq6:Upd (One bc) w6 w6:=Upd.refl _ _;clear hm hg hu5m;have HL:=Qh (Recs.weak (G:=fun i=>w5.heap.size≤i) (Recs.of_own Zew (by omega) ho6) (fun i _ e=>(ho6.lt i e).1));clear ho6 hu6;go_wp2
     go_loopg [56] Lb.length (fun gk i wr=>∃(k:Nat) (m:List (Edge×Value)),k+gk=Lb.length∧i= .int .i64 (k:Int)∧Hid (MapE wr bc ZB m)∧Hid (CntZ m (gB ⟨ta,oa,A,c,B,d⟩ ⟨tb,ob,A',c',B',d'⟩ [] La (Lb.take k) q) EE)∧Upd (One bc) w6 wr)
     case atStart=>exact⟨0,m,by omega,rfl,Qh (HM6.out),Qh (HG5.out.congr (fun e=>by rw[List.take_zero])),hq6⟩
     case round=>
      obtain⟨k,m,hgk,rfl,hm,hg,hu⟩:=hrel
      by_cases hlt:k<Lb.length
      ·obtain⟨ad,rfl,q0,q1,q2,q3,q4⟩:=Hvys.at_ (Recs.upd HL.out hu (fun i h e=>by cases e;have h2:w5.heap.size≤bc:=h;omega)) hlt;obtain⟨x,hx⟩:∃x,Lb[k]=x:=⟨_,rfl⟩;simp only[hx]at q0 q1 q2 q3 q4;have hxm:x∈Lb:=hx▸List.getElem_mem hlt;obtain⟨hx1,hx2,hx3⟩:=IB.out x hxm;obtain⟨hv0,hgn⟩:=STB.out k x hlt hx;have i1:(0:Int)≤(k:Int):=Qn _;have i2:(k:Int)<(Lb.length:Int):=by omega
       obtain⟨wx,hwx⟩:∃wx,wr.alloc (.cells #[.int .i64 x.e.f,.int .i64 x.e.t,.int .i64 x.e.k,.int .i64 x.e.key,.int .i64 x.n] 55)=wx:=⟨_,rfl⟩;have ux:Upd No wr wx:=by rw[←hwx];exact(Upd.refl No wr).alloc _
       have bX:Blk wx wr.heap.size 55 [.int .i64 x.e.f,.int .i64 x.e.t,.int .i64 x.e.k,.int .i64 x.e.key,.int .i64 x.n]:=by rw[←hwx];exact Blk.new wr _ _
       have hbw:=hm.out.lt;have hnb:¬One bc wr.heap.size:=fun e=>by cases e;omega
       have f0:∀W,Upd (One bc) wx W→W.cell? ⟨wr.heap.size,0,none⟩=some (.int .i64 x.e.f):=fun W u=>(bX.upd u hnb).cell 0
       have f1:∀W,Upd (One bc) wx W→W.cell? ⟨wr.heap.size,1,none⟩=some (.int .i64 x.e.t):=fun W u=>(bX.upd u hnb).cell 1
       have f2:∀W,Upd (One bc) wx W→W.cell? ⟨wr.heap.size,2,none⟩=some (.int .i64 x.e.k):=fun W u=>(bX.upd u hnb).cell 2
       have f3:∀W,Upd (One bc) wx W→W.cell? ⟨wr.heap.size,3,none⟩=some (.int .i64 x.e.key):=fun W u=>(bX.upd u hnb).cell 3
       have f4:∀W,Upd (One bc) wx W→W.cell? ⟨wr.heap.size,4,none⟩=some (.int .i64 x.n):=fun W u=>(bX.upd u hnb).cell 4
       have hmx:=hm.out.upd ux id;have hmd:MapE wx.drew bc ZB m:=hmx;clear hmx;have hval:=hg.out.val x.e;obtain⟨cn,hcn⟩:∃cn,Zf ⟨ta,oa,A,c,B,d⟩ x.e=cn:=⟨_,rfl⟩;have hcl:cn≤24:=by rw[←hcn];exact CL.out x.e
       obtain⟨V,hV⟩:∃V,(gB ⟨ta,oa,A,c,B,d⟩ ⟨tb,ob,A',c',B',d'⟩ [] La (Lb.take k) q) x.e=V:=⟨_,rfl⟩;have hV0:V=0-(cn:Int):=by rw[←hV,←hcn];exact hv0
       rw[hV]at hval;obtain⟨st,w6,e2,hm6,hu6,hst⟩:=ZaX ZW Tryz.underlying109 ZE hmd x.e;have e1:=Zm ZW Tryz.underlying109 ZE hmd.is x.e;have e3:=Zm ZW Tryz.underlying109 ZE hm6.is x.e;rw[ZI,Option.getD_some]at e3;rw[hval]at e1 e2 e3;obtain⟨w7,e4,hm7,hu7⟩:=hst (.int .i64 (V+x.n));change (Instr.lookup 109 (.map (some bc)) (.agg #[.int .i64 x.e.f,.int .i64 x.e.t,.int .i64 x.e.k,.int .i64 x.e.key]) false).run Tryz.prog wx.drew= .ok (.int .i64 V) wx.drew at e1;change (Instr.lookup 109 (.map (some bc)) (.agg #[.int .i64 x.e.f,.int .i64 x.e.t,.int .i64 x.e.k,.int .i64 x.e.key]) false).run Tryz.prog w6= .ok (.int .i64 V) w6 at e3;change (Instr.mapEntry 109 (.map (some bc)) (.agg #[.int .i64 x.e.f,.int .i64 x.e.t,.int .i64 x.e.k,.int .i64 x.e.key])).run Tryz.prog wx.drew= .ok (.tuple #[.int .i64 V,.int .i64 st]) w6 at e2;change (Instr.entryStore 109 (.map (some bc)) (.int .i64 st) (.int .i64 (V+x.n))).run Tryz.prog w6= .ok () w7 at e4;have hwr:IntKind.i64.wrap (V+x.n)=V+x.n:=IntWalk.i64_in _ (by omega);have hU6:Upd (One bc) wx w6:=hu6.of_drew;have hU7:Upd (One bc) wx w7:=hu7.of_drew;have HM7:=Qh hm7;have HG7:=Qh ((hg.out.put hx1 (V+x.n)).congr (k:=gB ⟨ta,oa,A,c,B,d⟩ ⟨tb,ob,A',c',B',d'⟩ [] La (Lb.take (k+1)) q) (fun e=>by rw[hV0,←hcn];exact hgn e));have hxz:Upd (One bc) wx wx:=Upd.refl _ _;have HUX:=Qh (hu.noR ux);clear hmd hval hst hm6 hm7 hu6 hu7 bX ux hx hv0 hgn hm hg hV hV0 hcn hxm;go_wp2
       go_region_held3 (fun W'=>Upd (One bc) wx W') (first|exact hxz.drew|exact hU6|exact hU7) (fail)
       all_goals
        clear e1 e2 e3 e4 hwr;go_wp2
        go_roundg (gk-1)
        case measure=>omega
        case rel=>exact⟨k+1,_,by omega,by go_num,HM7,HG7,HUX.out.trans hU7⟩
      ·obtain rfl:k=Lb.length:=by omega
       have HG7:=Qh (show CntZ m (gK ⟨ta,oa,A,c,B,d⟩ ⟨tb,ob,A',c',B',d'⟩ (ks.take (j+1))) EE by rw[HKT.out];exact hg.out.congr (fun e=>by rw[List.take_length];exact GEND.out e));go_wp2
       go_roundg (m0-1)
       case measure=>omega
       case rel=>exact⟨j+1,m,by omega,by go_num,hm,HG7,HU6.out.trans hu⟩
  ·obtain rfl:j=ks.length:=by omega
   have HG:=Qh (show CntZ m1 (gK ⟨ta,oa,A,c,B,d⟩ ⟨tb,ob,A',c',B',d'⟩ ks) EE by have:=hg1.out;rwa [List.take_length]at this);clear hg1;obtain⟨g,hgg⟩:∃g,gK ⟨ta,oa,A,c,B,d⟩ ⟨tb,ob,A',c',B',d'⟩ ks=g:=⟨_,rfl⟩;have HLE:=Qh (HLD.out m1 HG.out);have HGV:=Qh HG.out.val;have hml:=HG.out.len;rw[hgg]at HLE HGV;obtain⟨es,hes⟩:∃es,ddE (m1.map (·.1))=es:=⟨_,rfl⟩;rw[hes]at HLE;have HES:=Qh hes;obtain⟨wy,hwy⟩:∃wy,wr.alloc (.cells #[.map (some bc)] 109)=wy:=⟨_,rfl⟩;have uy:Upd No wr wy:=by rw[←hwy];exact(Upd.refl No wr).alloc _
   have by1:Blk wy wr.heap.size 109 [.map (some bc)]:=by rw[←hwy];exact Blk.new wr _ _
   have HEK:=Qh (ZmA wr (some bc));rw[hwy]at HEK;have HEC:=Qh (Zh8 wy wr.heap.size bc m1 (by simpa using by1.cell 0) (hm1.out.upd uy id) (by omega));have HMY:=Qh (hm1.out.upd uy id);have HUY:=Qh (hu1.noR uy);have HKL:=Qh (show(m1.map (·.1)).length≤2304 by rw[List.length_map];omega)
   have hel:es.length≤2304:=by
    have k1:=Zgs (Zac (m1.map (·.1))) (m1.map (·.1)).length;have k2:=HKL.out;rw[←hes];unfold ddE;omega
   clear HG hm1 hgg hes uy by1 h0 h1 h2 h3
   go_wp2_with fail
   refine(HEK.out).mono ?_;rintro e wz ⟨rfl,rfl⟩
   go_wp2_with fail
   refine(HEC.out).mono ?_;rintro e w4 ⟨A4,c4,kl,rfl,hpm,ho4,hu4⟩;have HPS:=Qh (Zmu (Own (.slice A4 kl.length c4)) w4 A4 c4 kl (Recs.of_own Zbb (by omega) ho4) (by have:=hpm.length_eq;have:=HKL.out;omega));rw[ZdD hpm,HES.out]at HPS;have HM4:=Qh (HMY.out.upd hu4 id);have HU4:=Qh (HUY.out.noR hu4);clear hpm ho4 hu4
   go_wp2_with fail
   refine(HPS.out).mono ?_;rintro e w5 ⟨A5,c5,rfl,hx5,hu5⟩;obtain⟨G5,hx5⟩:=hx5;have HX5:=Qh hx5;have HM5:=Qh (HM4.out.upd hu5 id);have HU5:=Qh (HU4.out.noR hu5);have hb5:bc<w5.heap.size:=HM5.out.lt;clear hx5 hu5;go_wp2
   go_loopg [15,76] es.length (fun gk s i wr=>∃(k:Nat) (A6:Option Addr) (c6:Nat) (xs:List Hvy),k+gk=es.length∧i= .int .i64 (k:Int)∧s= .slice A6 xs.length c6∧Hid (xs=ZV g (es.take k))∧Hid (wr.ownsRow w5.heap.size 55 5 (.slice A6 xs.length c6) xs.length (Zbw xs))∧Upd No w5 wr)
   case atStart=>exact⟨0,none,0,[],by omega,rfl,rfl,Qh (by rw[List.take_zero];rfl),Qh (World.ownsRow_nil _ _ _ _),Upd.refl _ _⟩
   case round=>
    obtain⟨k,A6,c6,xs,hgk,rfl,rfl,hs,hown,hu⟩:=hrel
    have hxl:xs.length≤1000000:=by
     rw[hs.out];have:=ZkI g (es.take k);have:=List.length_take_le k es;omega
    by_cases hlt:k<es.length
    ·obtain⟨ax,rfl,q0,q1,q2,q3⟩:=Walk.at_ (Walk.upd HX5.out hu (fun _ _=>id)) hlt;obtain⟨x,hxx⟩:∃x,es[k]=x:=⟨_,rfl⟩;rw[hxx]at q0 q1 q2 q3;have i1:(0:Int)≤(k:Int):=Qn _;have i2:(k:Int)<(es.length:Int):=by omega
     obtain⟨wx,hwx⟩:∃wx,wr.alloc (.cells #[.int .i64 x.f,.int .i64 x.t,.int .i64 x.k,.int .i64 x.key] 53)=wx:=⟨_,rfl⟩;have ux:Upd No wr wx:=by rw[←hwx];exact(Upd.refl No wr).alloc _
     have bo:Blk wx wr.heap.size 53 [.int .i64 x.f,.int .i64 x.t,.int .i64 x.k,.int .i64 x.key]:=by rw[←hwx];exact Blk.new wr _ _
     have HLT:=Qh hown.out.lt;have hnO:¬Own (.slice A6 xs.length c6) wr.heap.size:=fun e=>by have:=(HLT.out _ e).2;omega
     have f0:∀W,Upd (Own (.slice A6 xs.length c6)) wx W→W.cell? ⟨wr.heap.size,0,none⟩=some (.int .i64 x.f):=fun W u=>(bo.upd u hnO).cell 0
     have f1:∀W,Upd (Own (.slice A6 xs.length c6)) wx W→W.cell? ⟨wr.heap.size,1,none⟩=some (.int .i64 x.t):=fun W u=>(bo.upd u hnO).cell 1
     have f2:∀W,Upd (Own (.slice A6 xs.length c6)) wx W→W.cell? ⟨wr.heap.size,2,none⟩=some (.int .i64 x.k):=fun W u=>(bo.upd u hnO).cell 2
     have f3:∀W,Upd (Own (.slice A6 xs.length c6)) wx W→W.cell? ⟨wr.heap.size,3,none⟩=some (.int .i64 x.key):=fun W u=>(bo.upd u hnO).cell 3
     obtain⟨N,hN⟩:∃N,g x=N:=⟨_,rfl⟩;have HS:=Qh (Zjr hlt hxx hN);rw[←hs.out]at HS
     have L1:∀W,Upd (Own (.slice A6 xs.length c6)) wx W→(Instr.lookup 109 (.map (some bc)) (.agg #[.int .i64 x.f,.int .i64 x.t,.int .i64 x.k,.int .i64 x.key]) false).run Tryz.prog W= .ok (.int .i64 N) W:=fun W u=>by
      have:=Zm ZW Tryz.underlying109 ZE ((HM5.out.upd (hu.trans ux) id).upd u (fun e=>by have h1:=(HLT.out _ e).1;omega)).is x
      rwa [HGV.out,hN]at this
     have HO:=Qh (Zb hown.out ux (fun _ _=>id));have HUX:=Qh (hu.trans ux);have HSZ:=Qh (show w5.heap.size≤wx.heap.size from(hu.trans ux).size);have hxz:Upd (Own (.slice A6 xs.length c6)) wx wx:=Upd.refl _ _;have hzd:Upd No wx (wx.alloc (.cells #[.int .i64 x.f,.int .i64 x.t,.int .i64 x.k,.int .i64 x.key,.int .i64 N] 55)).drew:=((Upd.refl No wx).alloc _).drew;clear hxx bo ux hN hown hs
     by_cases h0:N=0
     ·have hb0:(N != 0)=false:=by simpa using h0
      have HS2:=Qh (show xs=ZV g (es.take (k+1)) by rw[HS.out,if_pos h0]);clear h0;go_wp2
      go_roundg (gk-1)
      case measure=>omega
      case rel=>exact⟨k+1,A6,c6,xs,by omega,by go_num,rfl,HS2,HO.out,HUX.out⟩
     ·have hb0:(N != 0)=true:=by simpa using h0
      have HS2:=Qh (show xs++[⟨x,N⟩]=ZV g (es.take (k+1)) by rw[HS.out,if_neg h0]);clear h0;go_wp2;refine wp_region_noPanic ?_;refine wp_region_held_drew (S:=(fun W'=>Upd (Own (.slice A6 xs.length c6)) wx W')) (by kernel_rfl) ?_ (fun hHeld=> ?_)
      ·(first|exact(Upd.refl _ wx).drew|exact hHeld|exact hHeld.alloc _|exact hU6)
      refine wpK 0 rfl ?_;refine wpK 1 rfl ?_;refine wpK 2 rfl ?_;refine wpK 3 rfl ?_;refine wpR [4] ?_;refine wpC rfl (fun K hK=> ?_) AllReadyH.nil;go_simp;refine hK.out _ _ ?_ (fun hHeld=> ?_)
      ·(first|exact(Upd.refl _ wx).drew|exact hHeld|exact hHeld.alloc _|exact hU6)
      clear hK K
      try simp only[Act.put,sT,sS,sZ]
      refine wpK 5 rfl ?_;refine wpR [6] ?_;refine wpC rfl (fun K hK=> ?_) AllReadyH.nil;go_simp;refine hK.out _ _ ?_ (fun hHeld=> ?_)
      ·(first|exact(Upd.refl _ wx).drew|exact hHeld|exact hHeld.alloc _|exact hU6)
      clear hK K
      try simp only[Act.put,sT,sS,sZ]
      refine wpR [7] ?_;refine wpC rfl (fun K hK=> ?_) AllReadyH.nil
      (first
  |(refine Zb1 (by rfl) (by rfl) Zgc (v:= .slice A6 xs.length c6) (n:=xs.length) (xs:=Zbw xs) (cells:=[.int .i64 x.f,.int .i64 x.t,.int .i64 x.k,.int .i64 x.key,.int .i64 N]) (by rfl) (by rfl) (by exact Zb HO.out hzd (fun _ _=>id)) rfl (by exact ZbO) (by rfl) (by omega) (by omega) (by have:=HSZ.out;simp;omega) ?_;intro g6 c7 w6 hown6 hu6 hg6 hlt6;have hU6:Upd (Own (.slice A6 xs.length c6)) wx w6:=hHeld.trans hu6))
      refine hK.out _ _ ?_ (fun hHeld=> ?_)
      ·(first|exact(Upd.refl _ wx).drew|exact hHeld|exact hHeld.alloc _|exact hU6)
      clear hK K
      try simp only[Act.put,sT,sS,sZ]
      refine wpK 8 rfl ?_;refine wpD (NoPanic.normal ?_);have HU6:=Qh hHeld;clear hHeld;go_wp2
      go_roundg (gk-1)
      case measure=>omega
      case rel=>
       have hl1:(xs++[(⟨x,N⟩:Hvy)]).length=xs.length+1:=by simp
       exact⟨k+1,some ⟨g6,0,none⟩,c7,xs++[⟨x,N⟩],by omega,by go_num,by rw[hl1],HS2,Qh (by rw[hl1,Zd7];exact hown6),HUX.out.then_ HU6.out (fun i e=>Or.inr (HO.out.lt i e).1)⟩
    ·obtain rfl:k=es.length:=by omega
     have HX:=Qh (show xs=l by rw[hs.out,List.take_length];exact HLE.out);have HUF:=Qh (HU5.out.noR hu);have hz5:=HU5.out.size;have HOW:=Qh hown.out;clear hown hs hu;go_wp2
     go_ret2
     rw[←HX.out];exact⟨A6,c6,rfl,ZK HOW.out (by omega),((UB.out.trans UM.out).then_ HUF.out (fun i e=> .inr (by cases e;omega)))⟩
end
end
/- How bad reads change:they are sorted (slices.SortFunc,derive.compare). -/
section
open Go.RowKit
instance:Inhabited HBad:=⟨⟨0,0,⟨0,0,0⟩⟩⟩
theorem Grw.trans {a b c:World} (h:Grw a b) (k:Grw b c):Grw a c:=by
 obtain⟨q,o1,rfl⟩:=h;obtain⟨r,o2,rfl⟩:=k;exact⟨q+r,o1++o2,by unfold Sort.grow World.drewN;simp[Nat.add_assoc,Array.append_assoc]⟩
set_option maxRecDepth 100000 in
set_option maxHeartbeats 1000000 in
theorem ZjT (w:World) (x y:HBad):Calls Tryz.prog 91 #[.agg x.cells.toArray,.agg y.cells.toArray] w fun e w'=>e= .returned (.int .i64 (ZaJ x y))∧Grw w w':=by
 obtain⟨v1,hv1⟩:∃v,Zw x y=v:=⟨_,rfl⟩;obtain⟨v2,hv2⟩:∃v,Zw y x=v:=⟨_,rfl⟩;have HC:=Qh (show ZaJ x y=if v1 then -1 else if v2 then 1 else 0 by unfold ZaJ;rw[hv1,hv2]);have CL:=Qh (fun W=>Zkx W x y);have CM:=Qh (fun W=>Zkx W y x);rw[hv1]at CL;rw[hv2]at CM;clear hv1 hv2;obtain⟨ax,ap,⟨at_,ak,an⟩⟩:=x;obtain⟨bx,bp,⟨bt,bk,bn⟩⟩:=y;unfold HBad.cells at CL CM ⊢;simp only at CL CM ⊢;obtain⟨z,hz⟩:∃z,w.heap.size=z:=⟨_,rfl⟩;obtain⟨w1,hw1⟩:∃w1,w.alloc (.cells #[.int .i64 ax,.int .i64 ap,.int .i64 at_,.int .i64 ak,.int .i64 an] 38)=w1:=⟨_,rfl⟩;have s1:w1.heap.size=z+1:=by rw[←hw1,←hz];simp
 obtain⟨w2,hw2⟩:∃w2,w1.alloc (.cells #[.int .i64 bx,.int .i64 bp,.int .i64 bt,.int .i64 bk,.int .i64 bn] 38)=w2:=⟨_,rfl⟩;have u1:Upd No w w1:=by rw[←hw1];exact(Upd.refl No w).alloc _
 have u2:Upd No w1 w2:=by rw[←hw2];exact(Upd.refl No w1).alloc _
 have b1:Blk w1 z 38 [.int .i64 ax,.int .i64 ap,.int .i64 at_,.int .i64 ak,.int .i64 an]:=by rw[←hw1,←hz];exact Blk.new w _ _
 have b2:Blk w2 (z+1) 38 [.int .i64 bx,.int .i64 bp,.int .i64 bt,.int .i64 bk,.int .i64 bn]:=by rw[←hw2,←s1];exact Blk.new w1 _ _
 have x0:∀W,Upd No w2 W→W.cell? ⟨z,0,none⟩=some (.int .i64 ax):=fun W u=>(b1.upd (u2.trans u) id).cell 0
 have x1:∀W,Upd No w2 W→W.cell? ⟨z,1,none⟩=some (.int .i64 ap):=fun W u=>(b1.upd (u2.trans u) id).cell 1
 have x2:∀W,Upd No w2 W→W.cell? ⟨z,2,none⟩=some (.int .i64 at_):=fun W u=>(b1.upd (u2.trans u) id).cell 2
 have x3:∀W,Upd No w2 W→W.cell? ⟨z,3,none⟩=some (.int .i64 ak):=fun W u=>(b1.upd (u2.trans u) id).cell 3
 have x4:∀W,Upd No w2 W→W.cell? ⟨z,4,none⟩=some (.int .i64 an):=fun W u=>(b1.upd (u2.trans u) id).cell 4
 have y0:∀W,Upd No w2 W→W.cell? ⟨z+1,0,none⟩=some (.int .i64 bx):=fun W u=>(b2.upd u id).cell 0
 have y1:∀W,Upd No w2 W→W.cell? ⟨z+1,1,none⟩=some (.int .i64 bp):=fun W u=>(b2.upd u id).cell 1
 have y2:∀W,Upd No w2 W→W.cell? ⟨z+1,2,none⟩=some (.int .i64 bt):=fun W u=>(b2.upd u id).cell 2
 have y3:∀W,Upd No w2 W→W.cell? ⟨z+1,3,none⟩=some (.int .i64 bk):=fun W u=>(b2.upd u id).cell 3
 have y4:∀W,Upd No w2 W→W.cell? ⟨z+1,4,none⟩=some (.int .i64 bn):=fun W u=>(b2.upd u id).cell 4
 have hr:Upd No w2 w2:=Upd.refl _ _;have G0:=Qh (show Grw w w2 by rw[←hw2,←hw1];exact((Grw.refl _).alloc _).alloc _);clear u1 u2 b1 b2
 cases v1 with
 |true=>
  go_enter Tryz.func91,Tryz.ntmps91
  go_wp2_with fail
  refine(CL.out _).mono ?_;rintro e w3 ⟨rfl,hg3⟩;go_wp2
  go_ret
  exact⟨by rw[HC.out];rfl,G0.out.trans hg3⟩
 |false=>
  go_enter Tryz.func91,Tryz.ntmps91
  go_wp2_with fail
  refine(CL.out _).mono ?_;rintro e w3 ⟨rfl,hg3⟩;have hu3:=hg3.upd
  cases v2 with
  |true=>
   go_wp2_with fail
   refine(CM.out _).mono ?_;rintro e w4 ⟨rfl,hg4⟩;go_wp2
   go_ret
   exact⟨by rw[HC.out];rfl,(G0.out.trans hg3).trans hg4⟩
  |false=>
   go_wp2_with fail
   refine(CM.out _).mono ?_;rintro e w4 ⟨rfl,hg4⟩;go_wp2
   go_ret
   exact⟨by rw[HC.out];rfl,(G0.out.trans hg3).trans hg4⟩
theorem Zfe {l:List HBad}:∀v∈(l.map HBad.cells).flatten,v.oneCell'=true:=fun v hv=>by
 obtain⟨r,hr,h⟩:=List.mem_flatten.1 hv;obtain⟨e,_,rfl⟩:=List.mem_map.1 hr;simp only[HBad.cells,List.mem_cons,List.not_mem_nil,or_false]at h;rcases h with rfl|rfl|rfl|rfl|rfl<;>rfl
theorem ZeO (d:Array HBad):(Sort.flatK HBad.cells 5 d).toList=(d.toList.map HBad.cells).flatten:=by
 apply List.ext_getElem?
 intro t;have hlen:((d.toList.map HBad.cells).flatten).length=d.size*5:=by rw[ZbQ ZaG];simp
 by_cases ht:t<d.size*5
 ·have hq:t/5<d.size:=by omega
  have h1:(d.toList.map HBad.cells)[t/5]? =some (HBad.cells d[t/5]!):=by
   rw[List.getElem?_map,Array.getElem?_toList,Array.getElem?_eq_getElem hq,getElem!_pos d _ hq];rfl
  have h3:t%5<(HBad.cells d[t/5]!).length:=by simp[HBad.cells];omega
  have h2:(HBad.cells d[t/5]!)[t%5]? =some ((HBad.cells d[t/5]!)[t%5]!):=by
   rw[getElem!_pos (HBad.cells d[t/5]!) (t%5) h3,Qg h3]
  have:=ZcD ZaG h1 h2;rw[show t/5*5+t%5=t by omega]at this;rw[this,Array.getElem?_toList];have h4:=Sort.get_flatK HBad.cells 5 d t ht;have h5:t<(Sort.flatK HBad.cells 5 d).size:=by simpa using ht
  rw[Array.getElem?_eq_getElem h5,←h4,getElem!_pos (Sort.flatK HBad.cells 5 d) t h5]
 ·rw[List.getElem?_eq_none (by simp;omega),List.getElem?_eq_none (by omega)]
theorem Zik {w:World} {g n:Nat} {t:TypeId} {cs:List Value} {d:Array HBad} {os:Array Obj} (hb:Blk w g t cs) (hl:d.size*5≤cs.length):
  Blk (sortWorldK HBad.cells 5 w g 0 n d os) g t ((d.toList.map HBad.cells).flatten++cs.drop (d.size*5)):=by
 have hlt:=hb.lt;unfold Blk at hb ⊢
 have e1:(sortWorldK HBad.cells 5 w g 0 n d os).heap[g]? =some (.cells (Sort.putCells id 0 (Sort.flatK HBad.cells 5 d) cs.toArray) t (0,0)):=by
  unfold sortWorldK Sort.grow Sort.putRowK Sort.putRow Sort.mapBlock;simp only;rw[Array.getElem?_append_left (by simpa using hlt),Array.getElem?_modify];simp only[if_true];rw[show(Sort.ahead w n).heap=w.heap from rfl,hb];rfl
 rw[e1,ZhG _ _ (by simpa using hl),ZeO];simp
theorem Zij (w:World) (g n:Nat) (d:Array HBad) (os:Array Obj):Upd (One g) w (sortWorldK HBad.cells 5 w g 0 n d os):=by
 refine⟨rfl,rfl,rfl,?_,fun k hk hn=> ?_⟩
 ·unfold sortWorldK Sort.grow Sort.putRowK Sort.putRow Sort.mapBlock;simp only[Array.size_append,Array.size_modify]
  show w.heap.size≤w.heap.size+os.size
  omega
 ·unfold sortWorldK Sort.grow Sort.putRowK Sort.putRow Sort.mapBlock;simp only;rw[Array.getElem?_append_left (by simpa using hk),Array.getElem?_modify,if_neg (fun e=>hn e.symm)];rfl
theorem ZnZ {w:World} {g:Nat} {t:TypeId} {cs:List Value} {l:List HBad} (hb:Blk w g t cs) (hcs:cs.take (l.length*5)=(l.map HBad.cells).flatten):Sort.HoldsK HBad.cells 5 w g 0 l.toArray:=by
 intro j hj;simp only[Sort.size_flatK,List.size_toArray]at hj;rw[Nat.zero_add];refine⟨?_,hb.free j⟩;rw[hb.cell j];have h1:(cs.take (l.length*5))[j]? =cs[j]? :=by rw[List.getElem?_take,if_pos hj]
 have h2:=ZeO l.toArray;rw[←h1,hcs];have h3:j<(Sort.flatK HBad.cells 5 l.toArray).size:=by simpa using hj
 rw[show(l.map HBad.cells).flatten=(Sort.flatK HBad.cells 5 l.toArray).toList from h2.symm,Array.getElem?_toList,Array.getElem?_eq_getElem h3,getElem!_pos (Sort.flatK HBad.cells 5 l.toArray) j h3];rfl
set_option maxHeartbeats 1000000 in
theorem Zn7 (w:World) (g cap:Nat) (l:List HBad) (cs:List Value) (hb:Blk w g 38 cs) (hcs:cs.take (l.length*5)=(l.map HBad.cells).flatten) (hlen:l.length*5≤cs.length) (hl:l.length≤1000000):
  Calls Tryz.prog 90 #[.slice (some ⟨g,0,none⟩) l.length cap,.func (.func 91) #[] #[]] w fun e w'=>e= .returned (.tuple #[])∧Blk w' g 38 (((ZaZ l).map HBad.cells).flatten++cs.drop (l.length*5))∧Upd (One g) w w':=by
 have eg:∀args w,(callFunc 91 args).run Tryz.prog w= .ok (.enter 91 args) w:=enters_of Tryz.func91 (by kernel_rfl) rfl;have hcmp:CmpLays Tryz.prog 91 #[] HBad.cells 5 ZaJ g 0 l.toArray.size w:=fun m os dk _ x y=>ZjT _ x y
 have hcon:=AnyQ.slices_SortFunc_total ZgC 5 Tryz.isAgg38 Tryz.sizeOf38 HBad.cells (fun _=>rfl) (fun x v hv=>Zfe (l:=[x]) v (by simpa using hv)) ZaJ ZoY 91 #[] g 0 cap l.toArray w eg hcmp (ZnZ hb hcs) hb.lt (by simp;omega) (fun x y h1 h2=>ZfL (by rw[←Zad];exact h1) (by rw[←Zad];exact h2));refine Calls.mono hcon ?_;rintro e w' ⟨rfl,n,os,rfl⟩;refine⟨rfl,?_,Zij _ _ _ _ _⟩;have h:=Zik (n:=n) (d:=(l.mergeSort fun x y=> !(ltOf ZaJ) y x).toArray) (os:=os) hb (by simpa using hlen);simp only[List.size_toArray,List.length_mergeSort]at h;exact h
theorem ZmE (w:World) (base:Nat) (A:Option Addr) (c:Nat) (l:List HBad) (hown:w.ownsRow base 38 5 (.slice A l.length c) l.length (l.map HBad.cells).flatten) (hl:l.length≤1000000) {n:Nat} (hn:l.length=n):
  Calls Tryz.prog 90 #[.slice A n c,.func (.func 91) #[] #[]] w fun e w'=>e= .returned (.tuple #[])∧w'.ownsRow base 38 5 (.slice A n c) n ((ZaZ l).map HBad.cells).flatten∧Upd (Own (.slice A n c)) w w':=by
 subst hn;rcases hown.2 with ⟨hv,hn⟩|⟨g,cap,cur,hv,hbg,hg,hnc,hcm,hcs,htake⟩
 ·have hl0:l=[]:=List.eq_nil_of_length_eq_zero hn;subst hl0;refine(AnyF.slices_SortFunc_none ZgC A c _ w).mono ?_;rintro e w' ⟨rfl,rfl⟩;exact⟨rfl,by rw[show ZaZ ([]:List HBad)=[] by unfold ZaZ;simp];exact hown,Upd.refl _ _⟩
 ·cases hv
  have hb:Blk w g 38 cur.toList:=by unfold Blk;rw[Array.toArray_toList];exact hg
  have hcl:cur.toList.length=c*5:=by rw[Array.length_toList];exact hcs
  have hs:(ZaZ l).length=l.length:=ZdN l;have hfl:((ZaZ l).map HBad.cells).flatten.length=l.length*5:=by rw[ZbQ ZaG,List.length_map,hs]
  refine(Zn7 w g c l _ hb htake (by rw[hcl];omega) hl).mono ?_;rintro e w' ⟨rfl,hb2,hu2⟩;unfold Blk at hb2;refine⟨rfl,⟨hfl,.inr ⟨g,c,_,rfl,hbg,hb2,hnc,hcm,?_,?_⟩⟩,hu2.mono (fun i _ e=>by cases e;rfl)⟩
  ·rw[List.size_toArray,List.length_append,hfl,List.length_drop,hcl];omega
  ·rw[List.take_append_of_le_length (by rw[hfl];exact Nat.le_refl _),List.take_of_length_le (by rw[hfl];exact Nat.le_refl _)]
end
end Go.Proofs.YtblplapkdmhikaaGreat
