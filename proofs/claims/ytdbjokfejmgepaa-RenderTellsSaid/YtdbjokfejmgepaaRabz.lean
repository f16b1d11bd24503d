/- Witnesses, plain: how many edges there are, what a witness is. -/
import Derived.Test.YtdbjokfejmgepaaRabe
import Derived.Test.YtdbjokfejmgepaaRabg
import Derived.Test.YtdbjokfejmgepaaRabh
import Derived.Test.YtdbjokfejmgepaaRabi
import Derived.Test.YtdbjokfejmgepaaRabj
import Derived.Test.YtdbjokfejmgepaaRabt
import Derived.Test.YtdbjokfejmgepaaRabx
import Derived.Test.YtdbjokfejmgepaaRaby
namespace Go.Proofs.Ytdbjokfejmgepaa
set_option linter.unusedVariables false
set_option linter.unusedSimpArgs false
section
open Go.RowKit
theorem Zde {α:Type} [DecidableEq α]:∀(l m:List α),l.Nodup→(∀x∈l,x∈m)→l.length≤m.length
 |[],_,_,_=>Nat.zero_le _
 |x::l,m,hn,hs=>by
  obtain⟨h1,h2⟩:=List.nodup_cons.1 hn;have hx:=hs x (List.mem_cons_self ..);have:=Zde l (m.erase x) h2 fun y hy=>(List.mem_erase_of_ne (fun e:y=x=>h1 (by rw[←e];exact hy))).2 (hs y (List.mem_cons_of_mem _ hy))
  rw[List.length_erase_of_mem hx]at this;have:=List.length_pos_of_mem hx;rw[List.length_cons];omega
theorem Zi5 (key:Int):∀l:List Int,(wwO key l).length≤l.length
 |[]=>by simp[wwO]
 |[a]=>by simp[wwO]
 |a::b::l=>by
  have:=Zi5 key (b::l)
  show(⟨a,b,1,key⟩::wwO key (b::l)).length≤_
  rw[List.length_cons];simp only[List.length_cons]at*;omega
theorem Zeq {α β:Type} (f:α→List β) (K:Nat):∀l:List α,(∀x∈l,(f x).length≤K)→(l.flatMap f).length≤K*l.length
 |[],_=>by simp
 |x::l,h=>by
  have h1:=h x (List.mem_cons_self ..);have h2:=Zeq f K l fun y hy=>h y (List.mem_cons_of_mem _ hy)
  rw[List.flatMap_cons,List.length_append,List.length_cons,Nat.mul_succ];omega
theorem ZfA {h:Hist} (hl:ZF h=true):h.ords.length≤24∧∀o∈h.ords,o.txs.length≤24:=by
 unfold ZF at hl;simp only[Bool.and_eq_true,decide_eq_true_eq,List.all_eq_true]at hl;exact⟨hl.1.1.2,fun t ht=>hl.2 t ht⟩
theorem ZgG {h:Hist} (hl:ZF h=true):(ZK h).length≤1152:=by
 by_cases hr:Zg h=true
 ·obtain⟨n1,n2⟩:=ZbD hl;obtain⟨n3,n4⟩:=ZfA hl
  have h1:((ZK h).map (·.e)).length≤(wwL (fun _=>true) h.ords++rdL (fun _=>true) (Zax h.txs) (Z0 h.txs) (ZJ h.ords) h.txs).length:=by
   refine Zde _ _ ?_ fun e he=> ?_
   ·rw[List.nodup_iff_pairwise_ne,List.pairwise_map];exact ZjP
   ·obtain⟨x,hx,rfl⟩:=List.mem_map.1 he;have hc:=((ZiK hr).1 hx).1;have hg:=ZlH hr (fun _=>true) x.e;rw[if_pos rfl]at hg;rw[←hg]at hc;unfold ZkF at hc;rw[List.mem_append]
    apply Classical.byContradiction
    intro hn;rw[not_or]at hn
    apply hc
    unfold Zhv;rw[if_neg hn.1,Nat.zero_add];unfold Zx;rw[List.length_eq_zero_iff,List.filter_eq_nil_iff];intro y hy;simp only[decide_eq_true_eq];intro e;rw[e]at hy;exact hn.2 hy
  rw[List.length_map,List.length_append]at h1
  have h2:(wwL (fun _=>true) h.ords).length≤24*h.ords.length:=Zeq _ 24 _ fun o ho=>by
   unfold wwC;rw[if_pos rfl];exact Nat.le_trans (Zi5 _ _) (n4 o ho)
  have h3:(rdL (fun _=>true) (Zax h.txs) (Z0 h.txs) (ZJ h.ords) h.txs).length≤48*(h.txs.filter (·.done)).length:=Zeq _ 48 _ fun t ht=>by
   have h4:(rdO (fun _=>true) (Zax h.txs) (Z0 h.txs) (ZJ h.ords) t.id t.ops).length≤2*(t.ops.filter fun o=>o.read&&true).length:=Zeq _ 2 _ fun o _=>Zjo _ _ _ _ _
   have h5:=List.length_filter_le (fun o:HOp=>o.read&&true) t.ops;have h6:=n2 t (List.mem_filter.1 ht).1;exact Nat.le_trans h4 (by omega)
  have h7:=List.length_filter_le (fun t:HTx=>t.done) h.txs;omega
 ·unfold ZK;rw[if_neg hr];simp
structure HWit where
 p:Int
 walk:List Edge
 read:HBad
deriving DecidableEq
def Ziy:HWit:=⟨0,[],⟨0,0,⟨0,0,0⟩⟩⟩
def HWit.at_ (x:HWit) (A:Option Addr) (c:Nat):List Value:=[.int .i64 x.p,.slice A x.walk.length c,.int .i64 x.read.tx,.int .i64 x.read.place,.int .i64 x.read.of.tx,.int .i64 x.read.of.key,.int .i64 x.read.of.nth]
def Zfb (l:List Edge) (p:Int):HWit×Bool:=
 if ZaT p=0 then (Ziy,false) else if Zbi l (ZaT p) (ZbS p)=[] then (Ziy,false) else (⟨p,Zbi l (ZaT p) (ZbS p),⟨0,0,⟨0,0,0⟩⟩⟩,true)
def Zk1 (l:List HBad) (p:Int):HWit×Bool:=match l with|[]=>(Ziy,false)|b::_=>(⟨p,[],b⟩,true)
def ofX (h:Hist) (p:Int):HWit×Bool:=if p=2∨p=3 then Zk1 (Zbf h p) p else Zfb (ZY (ZK h)) p
def ToldW (w:World) (x:HWit×Bool) (e:Ending) (w':World):Prop:=
 ∃A c,e= .returned (.tuple #[.agg (x.1.at_ A c).toArray,.bool x.2])∧Walk (fun i=>w.heap.size≤i) w' A x.1.walk∧Upd No w w'
theorem ZbX {F:Nat→Prop} {w:World} {A:Option Addr}:Walk F w A []:=fun h=>absurd rfl h
theorem EdX.nil {w:World} {A:Option Addr}:EdX w A []:=⟨fun _=>True,fun h=>absurd rfl h⟩
end
/- Witnesses:of edges,of reads,of a history:the program's and the document's. -/
section
open Go.RowKit
theorem ToldC.no {w:World} {d:List Edge} {e:Ending} {w':World} (h:ToldC w d e w') (hd:d=[]):∃A c,e= .returned (.tuple #[.slice A 0 c,.int .i64 3])∧Upd No w w':=by
 obtain⟨A,c,rfl,_,hu⟩:=h;subst hd;exact⟨A,c,rfl,hu⟩
theorem ToldC.yes {w:World} {d:List Edge} {e:Ending} {w':World} (h:ToldC w d e w') (hd:d≠[]):∃A c,e= .returned (.tuple #[.slice A d.length c,.int .i64 0])∧Walk (fun i=>w.heap.size≤i) w' A d∧Upd No w w':=by
 obtain⟨A,c,rfl,ho,hu⟩:=h;rw[if_neg (by rw[List.length_eq_zero_iff];exact hd)];exact⟨A,c,rfl,Recs.weak (Recs.of_own Za5 (by omega) ho) (fun i _ e=>(ho.lt i e).1),hu⟩
theorem Zdo {W:World} {b:Nat} {ty:TypeId} {c0 c1 c2 c3 c4 c5 c6:Value} (h:Blk W b ty [c0,c1,c2,c3,c4,c5,c6]) (v0 v1 v2 v3 v4 v5 v6:Value):
  Blk (((((((W.setCell ⟨b,0,none⟩ v0).setCell ⟨b,1,none⟩ v1).setCell ⟨b,2,none⟩ v2).setCell ⟨b,3,none⟩ v3).setCell ⟨b,4,none⟩ v4).setCell ⟨b,5,none⟩ v5).setCell ⟨b,6,none⟩ v6) b ty [v0,v1,v2,v3,v4,v5,v6]∧
  Upd (One b) W (((((((W.setCell ⟨b,0,none⟩ v0).setCell ⟨b,1,none⟩ v1).setCell ⟨b,2,none⟩ v2).setCell ⟨b,3,none⟩ v3).setCell ⟨b,4,none⟩ v4).setCell ⟨b,5,none⟩ v5).setCell ⟨b,6,none⟩ v6):=by
 refine⟨?_,(((((((Upd.refl _ _).setOne 0 _).setOne 1 _).setOne 2 _).setOne 3 _).setOne 4 _).setOne 5 _).setOne 6 _⟩;have:=((((((h.set_ 0 v0).set_ 1 v1).set_ 2 v2).set_ 3 v3).set_ 4 v4).set_ 5 v5).set_ 6 v6
 simpa only[List.set_cons_zero,List.set_cons_succ]using this
set_option maxRecDepth 100000 in
set_option maxHeartbeats 1000000 in
theorem Zlr (F:Nat→Prop) (w:World) (A:Option Addr) (c:Nat) (l:List Edge) (p:Int) (h:Walk F w A l) (hl:l.length≤2000):Calls Try.prog 40 #[.slice A l.length c,.int .i64 p] w (ToldW w (Zfb l p)):=by
 obtain⟨M,hM⟩:∃M,ZaT p=M:=⟨_,rfl⟩;obtain⟨T,hT⟩:∃T,ZbS p=T:=⟨_,rfl⟩;have PM:=Qh (fun W=>Zk3 W p);have PT:=Qh (fun W=>Zk2 W p);rw[hM]at PM;rw[hT]at PT;unfold Zfb;rw[hM,hT];clear hM hT;obtain⟨z,hz⟩:∃z,w.heap.size=z:=⟨_,rfl⟩;obtain⟨wb,hwb⟩:∃wb,w.alloc (.cells #[.int .i64 0,.slice none 0 0,.int .i64 0,.int .i64 0,.int .i64 0,.int .i64 0,.int .i64 0] 32)=wb:=⟨_,rfl⟩;have u0:Upd No w wb:=by rw[←hwb];exact(Upd.refl No w).alloc _
 have bW:Blk wb z 32 [.int .i64 0,.slice none 0 0,.int .i64 0,.int .i64 0,.int .i64 0,.int .i64 0,.int .i64 0]:=by rw[←hwb,←hz];exact Blk.new w _ _
 have c0:∀W,Upd No wb W→W.cell? ⟨z,0,none⟩=some (.int .i64 0):=fun W u=>(bW.upd u id).cell 0
 have f0:∀W,Upd No wb W→W.frozen? ⟨z,0,none⟩=false:=fun W u=>(bW.upd u id).free 0
 have f1:∀W,Upd No wb W→W.frozen? ⟨z,1,none⟩=false:=fun W u=>(bW.upd u id).free 1
 have f2:∀W,Upd No wb W→W.frozen? ⟨z,2,none⟩=false:=fun W u=>(bW.upd u id).free 2
 have f3:∀W,Upd No wb W→W.frozen? ⟨z,3,none⟩=false:=fun W u=>(bW.upd u id).free 3
 have f4:∀W,Upd No wb W→W.frozen? ⟨z,4,none⟩=false:=fun W u=>(bW.upd u id).free 4
 have f5:∀W,Upd No wb W→W.frozen? ⟨z,5,none⟩=false:=fun W u=>(bW.upd u id).free 5
 have f6:∀W,Upd No wb W→W.frozen? ⟨z,6,none⟩=false:=fun W u=>(bW.upd u id).free 6
 have e0:∀W,Upd No wb W→W.cell? ⟨z,1,none⟩=some (.slice none 0 0):=fun W u=>(bW.upd u id).cell 1
 have e2:∀W,Upd No wb W→W.cell? ⟨z,2,none⟩=some (.int .i64 0):=fun W u=>(bW.upd u id).cell 2
 have e3:∀W,Upd No wb W→W.cell? ⟨z,3,none⟩=some (.int .i64 0):=fun W u=>(bW.upd u id).cell 3
 have e4:∀W,Upd No wb W→W.cell? ⟨z,4,none⟩=some (.int .i64 0):=fun W u=>(bW.upd u id).cell 4
 have e5:∀W,Upd No wb W→W.cell? ⟨z,5,none⟩=some (.int .i64 0):=fun W u=>(bW.upd u id).cell 5
 have e6:∀W,Upd No wb W→W.cell? ⟨z,6,none⟩=some (.int .i64 0):=fun W u=>(bW.upd u id).cell 6
 have BW:=Qh bW;have HZ:=Qh hz;have U0:=Qh u0;have hbz:Upd No wb wb:=Upd.refl _ _;clear bW u0
 by_cases hm:M=0
 ·subst hm;rw[if_pos rfl]
  go_enter Try.func40,Try.ntmps40
  go_wp2_with fail
  refine(PM.out _).mono ?_;rintro e w1 ⟨rfl,hu1⟩;go_wp2;obtain⟨b7,u7⟩:=Zdo (BW.out.upd hu1 id) (.int .i64 0) (.slice none 0 0) (.int .i64 0) (.int .i64 0) (.int .i64 0) (.int .i64 0) (.int .i64 0);have r0:=b7.cell 0;have r1:=b7.cell 1;have r2:=b7.cell 2;have r3:=b7.cell 3;have r4:=b7.cell 4;have r5:=b7.cell 5;have r6:=b7.cell 6;simp only[Qz,Qs]at r0 r1 r2 r3 r4 r5 r6;refine bodyPost_ret (v:= .tuple #[.agg #[.int .i64 0,.slice none 0 0,.int .i64 0,.int .i64 0,.int .i64 0,.int .i64 0,.int .i64 0],.bool false]) (by simp[results,Try.results40,go_sem,r0,r1,r2,r3,r4,r5,r6]) rfl ?_;have uE:=(U0.out.trans hu1).then_ u7 (fun i e=>Or.inr (by have:=HZ.out;unfold One at e;omega));exact⟨none,0,rfl,ZbX,uE⟩
 ·rw[if_neg hm];have hmb:(M==0)=false:=by simpa using hm
  have CS:=Qh (fun W (u:Upd No wb W)=>Zjs F W A c l M T (Recs.upd h (U0.out.trans u) (fun _ _=>id)) hl)
  by_cases hd:Zbi l M T=[]
  ·rw[if_pos hd];have HD:=Qh hd;clear hd hm
   go_enter Try.func40,Try.ntmps40
   go_wp2_with fail
   refine(PM.out _).mono ?_;rintro e w1 ⟨rfl,hu1⟩
   go_wp2_with fail
   refine(PM.out _).mono ?_;rintro e w2 ⟨rfl,hu2⟩
   go_wp2_with fail
   refine(PT.out _).mono ?_;rintro e w3 ⟨rfl,hu3⟩;have hu:=(hu1.trans hu2).trans hu3
   go_wp2_with fail
   refine(CS.out _ hu).mono ?_;rintro e w4 h4;obtain⟨A2,c2,rfl,hu4⟩:=h4.no HD.out;have hu5:=hu.trans hu4;go_wp2;obtain⟨b7,u7⟩:=Zdo (BW.out.upd hu5 id) (.int .i64 0) (.slice none 0 0) (.int .i64 0) (.int .i64 0) (.int .i64 0) (.int .i64 0) (.int .i64 0);have r0:=b7.cell 0;have r1:=b7.cell 1;have r2:=b7.cell 2;have r3:=b7.cell 3;have r4:=b7.cell 4;have r5:=b7.cell 5;have r6:=b7.cell 6;simp only[Qz,Qs]at r0 r1 r2 r3 r4 r5 r6;refine bodyPost_ret (v:= .tuple #[.agg #[.int .i64 0,.slice none 0 0,.int .i64 0,.int .i64 0,.int .i64 0,.int .i64 0,.int .i64 0],.bool false]) (by simp[results,Try.results40,go_sem,r0,r1,r2,r3,r4,r5,r6]) rfl ?_;have uE:=(U0.out.trans hu5).then_ u7 (fun i e=>Or.inr (by have:=HZ.out;unfold One at e;omega));exact⟨none,0,rfl,ZbX,uE⟩
  ·rw[if_neg hd];obtain⟨d,hdd⟩:∃d,Zbi l M T=d:=⟨_,rfl⟩;rw[hdd]at hd CS ⊢;have HD:=Qh hd;clear hd hm hdd
   go_enter Try.func40,Try.ntmps40
   go_wp2_with fail
   refine(PM.out _).mono ?_;rintro e w1 ⟨rfl,hu1⟩
   go_wp2_with fail
   refine(PM.out _).mono ?_;rintro e w2 ⟨rfl,hu2⟩
   go_wp2_with fail
   refine(PT.out _).mono ?_;rintro e w3 ⟨rfl,hu3⟩;have hu:=(hu1.trans hu2).trans hu3;have HSZ:=Qh hu.size
   go_wp2_with fail
   refine(CS.out _ hu).mono ?_;rintro e w4 h4;obtain⟨A2,c2,rfl,hx2,hu4⟩:=h4.yes HD.out;have hu5:=hu.trans hu4;have HX:=Qh hx2;clear hx2 h4;go_wp2;obtain⟨b7,u7⟩:=Zdo (BW.out.upd hu5 id) (.int .i64 p) (.slice A2 d.length c2) (.int .i64 0) (.int .i64 0) (.int .i64 0) (.int .i64 0) (.int .i64 0);have r0:=b7.cell 0;have r1:=b7.cell 1;have r2:=b7.cell 2;have r3:=b7.cell 3;have r4:=b7.cell 4;have r5:=b7.cell 5;have r6:=b7.cell 6;simp only[Qz,Qs]at r0 r1 r2 r3 r4 r5 r6;refine bodyPost_ret (v:= .tuple #[.agg #[.int .i64 p,.slice A2 d.length c2,.int .i64 0,.int .i64 0,.int .i64 0,.int .i64 0,.int .i64 0],.bool true]) (by simp[results,Try.results40,go_sem,r0,r1,r2,r3,r4,r5,r6]) rfl ?_;have uE:=(U0.out.trans hu5).then_ u7 (fun i e=>Or.inr (by have:=HZ.out;unfold One at e;omega));exact⟨A2,c2,rfl,Recs.weak (Recs.upd HX.out u7 (fun i (hi:w3.heap.size≤i) (e:i=z)=>by have:=BW.out.lt;have:=HSZ.out;omega)) (fun i _ (hi:w3.heap.size≤i)=>Nat.le_trans U0.out.size (Nat.le_trans HSZ.out hi)),uE⟩
end
/- Witnesses of reads and of histories;which one is ahead,and whether two are one. -/
section
open Go.RowKit
theorem ZfN {w:World} {base:Nat} {A:Option Addr} {c:Nat} {b:HBad} {l:List HBad} (h:w.ownsRow base 30 5 (.slice A (b::l).length c) (b::l).length ((b::l).map HBad.cells).flatten):
  ∃g,A=some ⟨g,0,none⟩∧base≤g∧g<w.heap.size∧w.cell? ⟨g,0,none⟩=some (.int .i64 b.tx)∧w.cell? ⟨g,1,none⟩=some (.int .i64 b.place)∧w.cell? ⟨g,2,none⟩=some (.int .i64 b.of.tx)∧w.cell? ⟨g,3,none⟩=some (.int .i64 b.of.key)∧w.cell? ⟨g,4,none⟩=some (.int .i64 b.of.nth):=by
 obtain⟨ad,e,q0,q1,q2,q3,q4⟩:=(ZhW h).at_ (k:=0) (by simp);rcases h.2 with ⟨h',hn⟩|⟨g,cap,cur,hv,hb,hg,hnc,hcm,hcs,htake⟩
 ·cases hn
 ·cases hv
  cases e
  have hg2:=h.lt g rfl;exact⟨g,rfl,hg2.1,hg2.2,q0,q1,q2,q3,q4⟩
end
/- Witnesses of histories;which one is ahead,and whether two are one. -/
section
open Go.RowKit
theorem Zhl {h:Hist} {p:Int} (hp:p=2∨p=3):ofX h p=Zk1 (Zbf h p) p:=by unfold ofX;rw[if_pos hp]
theorem Zks {h:Hist} {p:Int} (hp:¬(p=2∨p=3)):ofX h p=Zfb (ZY (ZK h)) p:=by unfold ofX;rw[if_neg hp]
theorem ToldW.parts {w:World} {x:HWit×Bool} {e:Ending} {w':World} (h:ToldW w x e w') {p r0 r1 r2 r3 r4:Int} {d:List Edge} {b:Bool} (hx:x=(⟨p,d,⟨r0,r1,⟨r2,r3,r4⟩⟩⟩,b)):
  ∃A c,e= .returned (.tuple #[.agg #[.int .i64 p,.slice A d.length c,.int .i64 r0,.int .i64 r1,.int .i64 r2,.int .i64 r3,.int .i64 r4],.bool b])∧Walk (fun i=>w.heap.size≤i) w' A d∧Upd No w w':=by
 subst hx;exact h
set_option maxRecDepth 100000 in
set_option maxHeartbeats 1000000 in
theorem Znl (F:Nat→Prop) (w:World) (txs:List HTx) (ords:List HOrd) (A:Option Addr) (c:Nat) (B:Option Addr) (d:Nat) (p:Int) (H:Hist.lies F w ⟨txs,ords,A,c,B,d⟩) (hl:ZF ⟨txs,ords,A,c,B,d⟩=true):
  Calls Try.prog 21 #[.agg #[.slice A txs.length c,.slice B ords.length d],.int .i64 p] w (ToldW w (ofX ⟨txs,ords,A,c,B,d⟩ p)):=by
 have hfew:=ZgG hl;obtain⟨n1,n2⟩:=ZbD hl;obtain⟨wh,hwh⟩:∃wh,w.alloc (.cells #[.slice A txs.length c,.slice B ords.length d] 39)=wh:=⟨_,rfl⟩;have uh:Upd No w wh:=by rw[←hwh];exact(Upd.refl No w).alloc _
 have bH:Blk wh w.heap.size 39 [.slice A txs.length c,.slice B ords.length d]:=by rw[←hwh];exact Blk.new w _ _
 obtain⟨z,hz⟩:∃z,wh.heap.size=z:=⟨_,rfl⟩;obtain⟨wb,hwb⟩:∃wb,wh.alloc (.cells #[.int .i64 0,.slice none 0 0,.int .i64 0,.int .i64 0,.int .i64 0,.int .i64 0,.int .i64 0] 32)=wb:=⟨_,rfl⟩;have u0:Upd No wh wb:=by rw[←hwb];exact(Upd.refl No wh).alloc _
 have bW:Blk wb z 32 [.int .i64 0,.slice none 0 0,.int .i64 0,.int .i64 0,.int .i64 0,.int .i64 0,.int .i64 0]:=by rw[←hwb,←hz];exact Blk.new wh _ _
 have c0:∀W,Upd No wb W→W.cell? ⟨z,0,none⟩=some (.int .i64 0):=fun W u=>(bW.upd u id).cell 0
 have f0:∀W,Upd No wb W→W.frozen? ⟨z,0,none⟩=false:=fun W u=>(bW.upd u id).free 0
 have f1:∀W,Upd No wb W→W.frozen? ⟨z,1,none⟩=false:=fun W u=>(bW.upd u id).free 1
 have f2:∀W,Upd No wb W→W.frozen? ⟨z,2,none⟩=false:=fun W u=>(bW.upd u id).free 2
 have f3:∀W,Upd No wb W→W.frozen? ⟨z,3,none⟩=false:=fun W u=>(bW.upd u id).free 3
 have f4:∀W,Upd No wb W→W.frozen? ⟨z,4,none⟩=false:=fun W u=>(bW.upd u id).free 4
 have f5:∀W,Upd No wb W→W.frozen? ⟨z,5,none⟩=false:=fun W u=>(bW.upd u id).free 5
 have f6:∀W,Upd No wb W→W.frozen? ⟨z,6,none⟩=false:=fun W u=>(bW.upd u id).free 6
 have e0:∀W,Upd No wb W→W.cell? ⟨z,1,none⟩=some (.slice none 0 0):=fun W u=>(bW.upd u id).cell 1
 have e2:∀W,Upd No wb W→W.cell? ⟨z,2,none⟩=some (.int .i64 0):=fun W u=>(bW.upd u id).cell 2
 have e3:∀W,Upd No wb W→W.cell? ⟨z,3,none⟩=some (.int .i64 0):=fun W u=>(bW.upd u id).cell 3
 have e4:∀W,Upd No wb W→W.cell? ⟨z,4,none⟩=some (.int .i64 0):=fun W u=>(bW.upd u id).cell 4
 have e5:∀W,Upd No wb W→W.cell? ⟨z,5,none⟩=some (.int .i64 0):=fun W u=>(bW.upd u id).cell 5
 have e6:∀W,Upd No wb W→W.cell? ⟨z,6,none⟩=some (.int .i64 0):=fun W u=>(bW.upd u id).cell 6
 have BW:=Qh bW;have HZ:=Qh hz;have U0:=Qh u0;have hbz:Upd No wb wb:=Upd.refl _ _;clear bW u0;have h0:∀W,Upd No wb W→W.cell? ⟨w.heap.size,0,none⟩=some (.slice A txs.length c):=fun W u=>(bH.upd (U0.out.trans u) id).cell 0
 have h1:∀W,Upd No wb W→W.cell? ⟨w.heap.size,1,none⟩=some (.slice B ords.length d):=fun W u=>(bH.upd (U0.out.trans u) id).cell 1
 have HH:=Qh (H.upd (uh.trans U0.out) (fun _ _=>id));have UH:=Qh uh;clear bH uh H
 by_cases p2:p=2
 ·subst p2;have CR:=Qh (ZgR F wb txs ords A c B d 2 HH.out);obtain⟨l,hll⟩:∃l,Zbf ⟨txs,ords,A,c,B,d⟩ 2=l:=⟨_,rfl⟩;rw[Zhl (by decide)];rw[hll]at CR ⊢;clear hll
  cases l with
  |nil=>
   go_enter Try.func21,Try.ntmps21
   go_wp2_with fail
   refine(CR.out).mono ?_;rintro e w1 ⟨A1,c1,rfl,ho,hu1⟩;go_wp2;obtain⟨b7,u7⟩:=Zdo (BW.out.upd hu1 id) (.int .i64 0) (.slice none 0 0) (.int .i64 0) (.int .i64 0) (.int .i64 0) (.int .i64 0) (.int .i64 0);have r0:=b7.cell 0;have r1:=b7.cell 1;have r2:=b7.cell 2;have r3:=b7.cell 3;have r4:=b7.cell 4;have r5:=b7.cell 5;have r6:=b7.cell 6;simp only[Qz,Qs]at r0 r1 r2 r3 r4 r5 r6;refine bodyPost_ret (v:= .tuple #[.agg #[.int .i64 0,.slice none 0 0,.int .i64 0,.int .i64 0,.int .i64 0,.int .i64 0,.int .i64 0],.bool false]) (by simp[results,Try.results21,go_sem,r0,r1,r2,r3,r4,r5,r6]) rfl ?_;have uE:=(U0.out.trans hu1).then_ u7 (fun i e=>Or.inr (by have:=HZ.out;unfold One at e;omega));exact⟨none,0,rfl,ZbX,UH.out.trans uE⟩
  |cons b l=>
   obtain⟨bx,bp,⟨bt,bk,bn⟩⟩:=b;obtain⟨n,hn⟩:∃n,((⟨bx,bp,⟨bt,bk,bn⟩⟩:HBad)::l).length=n:=⟨_,rfl⟩;have hn0:(0:Int)<(n:Int):=by rw[←hn];simp only[List.length_cons];omega
   have hn1:((n:Int)==0)=false:=by rw[beq_eq_false_iff_ne];omega
   have HN:=Qh hn;clear hn
   go_enter Try.func21,Try.ntmps21
   go_wp2_with fail
   refine(CR.out).mono ?_;rintro e w1 ⟨A1,c1,rfl,ho,hu1⟩;obtain⟨g,rfl,hg1,hg2,q0,q1,q2,q3,q4⟩:=ZfN ho;rw[HN.out];simp only at q0 q1 q2 q3 q4;clear ho;go_wp2;obtain⟨b7,u7⟩:=Zdo (BW.out.upd hu1 id) (.int .i64 2) (.slice none 0 0) (.int .i64 bx) (.int .i64 bp) (.int .i64 bt) (.int .i64 bk) (.int .i64 bn);have r0:=b7.cell 0;have r1:=b7.cell 1;have r2:=b7.cell 2;have r3:=b7.cell 3;have r4:=b7.cell 4;have r5:=b7.cell 5;have r6:=b7.cell 6;simp only[Qz,Qs]at r0 r1 r2 r3 r4 r5 r6;refine bodyPost_ret (v:= .tuple #[.agg #[.int .i64 2,.slice none 0 0,.int .i64 bx,.int .i64 bp,.int .i64 bt,.int .i64 bk,.int .i64 bn],.bool true]) (by simp[results,Try.results21,go_sem,r0,r1,r2,r3,r4,r5,r6]) rfl ?_;have uE:=(U0.out.trans hu1).then_ u7 (fun i e=>Or.inr (by have:=HZ.out;unfold One at e;omega));exact⟨none,0,rfl,ZbX,UH.out.trans uE⟩
 by_cases p3:p=3
 ·subst p3;have CR:=Qh (ZgR F wb txs ords A c B d 3 HH.out);obtain⟨l,hll⟩:∃l,Zbf ⟨txs,ords,A,c,B,d⟩ 3=l:=⟨_,rfl⟩;rw[Zhl (by decide)];rw[hll]at CR ⊢;clear hll
  cases l with
  |nil=>
   go_enter Try.func21,Try.ntmps21
   go_wp2_with fail
   refine(CR.out).mono ?_;rintro e w1 ⟨A1,c1,rfl,ho,hu1⟩;go_wp2;obtain⟨b7,u7⟩:=Zdo (BW.out.upd hu1 id) (.int .i64 0) (.slice none 0 0) (.int .i64 0) (.int .i64 0) (.int .i64 0) (.int .i64 0) (.int .i64 0);have r0:=b7.cell 0;have r1:=b7.cell 1;have r2:=b7.cell 2;have r3:=b7.cell 3;have r4:=b7.cell 4;have r5:=b7.cell 5;have r6:=b7.cell 6;simp only[Qz,Qs]at r0 r1 r2 r3 r4 r5 r6;refine bodyPost_ret (v:= .tuple #[.agg #[.int .i64 0,.slice none 0 0,.int .i64 0,.int .i64 0,.int .i64 0,.int .i64 0,.int .i64 0],.bool false]) (by simp[results,Try.results21,go_sem,r0,r1,r2,r3,r4,r5,r6]) rfl ?_;have uE:=(U0.out.trans hu1).then_ u7 (fun i e=>Or.inr (by have:=HZ.out;unfold One at e;omega));exact⟨none,0,rfl,ZbX,UH.out.trans uE⟩
  |cons b l=>
   obtain⟨bx,bp,⟨bt,bk,bn⟩⟩:=b;obtain⟨n,hn⟩:∃n,((⟨bx,bp,⟨bt,bk,bn⟩⟩:HBad)::l).length=n:=⟨_,rfl⟩;have hn0:(0:Int)<(n:Int):=by rw[←hn];simp only[List.length_cons];omega
   have hn1:((n:Int)==0)=false:=by rw[beq_eq_false_iff_ne];omega
   have HN:=Qh hn;clear hn
   go_enter Try.func21,Try.ntmps21
   go_wp2_with fail
   refine(CR.out).mono ?_;rintro e w1 ⟨A1,c1,rfl,ho,hu1⟩;obtain⟨g,rfl,hg1,hg2,q0,q1,q2,q3,q4⟩:=ZfN ho;rw[HN.out];simp only at q0 q1 q2 q3 q4;clear ho;go_wp2;obtain⟨b7,u7⟩:=Zdo (BW.out.upd hu1 id) (.int .i64 3) (.slice none 0 0) (.int .i64 bx) (.int .i64 bp) (.int .i64 bt) (.int .i64 bk) (.int .i64 bn);have r0:=b7.cell 0;have r1:=b7.cell 1;have r2:=b7.cell 2;have r3:=b7.cell 3;have r4:=b7.cell 4;have r5:=b7.cell 5;have r6:=b7.cell 6;simp only[Qz,Qs]at r0 r1 r2 r3 r4 r5 r6;refine bodyPost_ret (v:= .tuple #[.agg #[.int .i64 3,.slice none 0 0,.int .i64 bx,.int .i64 bp,.int .i64 bt,.int .i64 bk,.int .i64 bn],.bool true]) (by simp[results,Try.results21,go_sem,r0,r1,r2,r3,r4,r5,r6]) rfl ?_;have uE:=(U0.out.trans hu1).then_ u7 (fun i e=>Or.inr (by have:=HZ.out;unfold One at e;omega));exact⟨none,0,rfl,ZbX,UH.out.trans uE⟩
 have q2:(p==2)=false:=by simpa using p2
 have q3:(p==3)=false:=by simpa using p3
 rw[Zks (by omega)];obtain⟨l,hll⟩:∃l,ZK ⟨txs,ords,A,c,B,d⟩=l:=⟨_,rfl⟩;have C1:=Qh (Zie HH.out n1 n2 hll);rw[hll]at hfew ⊢;obtain⟨pl,hpl⟩:∃pl,ZY l=pl:=⟨_,rfl⟩;have hpn:pl.length=l.length:=by rw[←hpl];unfold ZY;rw[List.length_map]
 have HPL:=Qh hpl;rw[hpl];have HPN:=Qh hpn;have HF:=Qh hfew;obtain⟨⟨⟨xp,xw,⟨y0,y1,⟨y2,y3,y4⟩⟩⟩,xb⟩,hx⟩:∃x,Zfb pl p=x:=⟨_,rfl⟩;rw[hx];have HXX:=Qh hx;clear hx hll hpl hpn p2 p3 n1 n2 hfew
 go_enter Try.func21,Try.ntmps21
 go_wp2_with fail
 refine(C1.out).mono ?_;rintro e w1 ⟨A1,c1,rfl,hx1,hu1⟩;have C2:=Qh (Zid (c:=c1) hx1 (by have:=HF.out;omega));rw[HPL.out]at C2
 go_wp2_with fail
 refine(C2.out).mono ?_;rintro e w2 ⟨A2,c2,rfl,⟨G,hx2⟩,hu2⟩;have hu12:=hu1.trans hu2;have HS12:=Qh hu12.size;have C3:=Qh (Zlr G w2 A2 c2 pl p hx2 (by have:=HF.out;have:=HPN.out;omega));clear hx1 hx2 hu1 hu2;rw[HXX.out]at C3
 go_wp2_with fail
 refine C3.out.mono ?_;rintro e w3 hh;obtain⟨A3,c3,rfl,hx3,hu3⟩:=hh.parts rfl;have hu13:=hu12.trans hu3;have HX:=Qh hx3;clear hx3 hh hu12 hu3;go_wp2;obtain⟨b7,u7⟩:=Zdo (BW.out.upd hu13 id) (.int .i64 xp) (.slice A3 xw.length c3) (.int .i64 y0) (.int .i64 y1) (.int .i64 y2) (.int .i64 y3) (.int .i64 y4);have r0:=b7.cell 0;have r1:=b7.cell 1;have r2:=b7.cell 2;have r3:=b7.cell 3;have r4:=b7.cell 4;have r5:=b7.cell 5;have r6:=b7.cell 6;simp only[Qz,Qs]at r0 r1 r2 r3 r4 r5 r6;refine bodyPost_ret (v:= .tuple #[.agg #[.int .i64 xp,.slice A3 xw.length c3,.int .i64 y0,.int .i64 y1,.int .i64 y2,.int .i64 y3,.int .i64 y4],.bool xb]) (by simp[results,Try.results21,go_sem,r0,r1,r2,r3,r4,r5,r6]) rfl ?_;have uE:=(U0.out.trans hu13).then_ u7 (fun i e=>Or.inr (by have:=HZ.out;unfold One at e;omega));exact⟨A3,c3,rfl,Recs.weak (Recs.upd HX.out u7 (fun i (hi:w2.heap.size≤i) (e:i=z)=>by have:=BW.out.lt;have:=HS12.out;omega)) (fun i _ (hi:w2.heap.size≤i)=>Nat.le_trans (UH.out.trans U0.out).size (Nat.le_trans HS12.out hi)),UH.out.trans uE⟩
end
/- Witnesses:the answers that the document gives. -/
section
open Go.RowKit
theorem ToldW.part {w:World} {x:HWit×Bool} {e:Ending} {w':World} (h:ToldW w x e w') {p r0 r1 r2 r3 r4:Int} {d:List Edge} {b:Bool} {n:Nat} (hx:x=(⟨p,d,⟨r0,r1,⟨r2,r3,r4⟩⟩⟩,b)) (hn:d.length=n):
  ∃A c,e= .returned (.tuple #[.agg #[.int .i64 p,.slice A n c,.int .i64 r0,.int .i64 r1,.int .i64 r2,.int .i64 r3,.int .i64 r4],.bool b])∧EdX w' A d∧Upd No w w':=by
 subst hx hn;obtain⟨A,c,h1,h2,h3⟩:=h;exact⟨A,c,h1,⟨_,h2⟩,h3⟩
section
variable {F:Nat→Prop} {w:World} {n:Nat} {p:Int} {x:HWit×Bool}
end
theorem okE:∀e∈[e1,e2],e.ok:=fun e he=>by
 simp only[List.mem_cons,List.not_mem_nil,or_false]at he;rcases he with rfl|rfl
 ·exact⟨⟨by decide,by decide⟩,⟨by decide,by decide⟩,by decide,by decide⟩
 ·exact⟨⟨by decide,by decide⟩,⟨by decide,by decide⟩,by decide,by decide⟩
section
variable {w:World} {A B:Option Addr} {c d:Nat}
end
section
variable (n:Nat)
theorem o0:ZF (Zo n)=true:=by kernel_rfl
theorem o1:ofX (Zo n) 5=(⟨5,[e1,e2],⟨0,0,⟨0,0,0⟩⟩⟩,true):=by kernel_rfl
theorem o2:ofX (Zo n) 4=(⟨0,[],⟨0,0,⟨0,0,0⟩⟩⟩,false):=by kernel_rfl
theorem o3:ofX (Zo n) 0=(⟨0,[],⟨0,0,⟨0,0,0⟩⟩⟩,false):=by kernel_rfl
end
end
end Go.Proofs.Ytdbjokfejmgepaa
