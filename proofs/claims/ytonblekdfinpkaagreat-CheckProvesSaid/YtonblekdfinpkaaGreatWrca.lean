/- Witnesses, plain: how many edges there are, what a witness is. -/
import Derived.Test.YtonblekdfinpkaaGreatWrbd
import Derived.Test.YtonblekdfinpkaaGreatWrbf
import Derived.Test.YtonblekdfinpkaaGreatWrbk
import Derived.Test.YtonblekdfinpkaaGreatWrbl
import Derived.Test.YtonblekdfinpkaaGreatWrbp
import Derived.Test.YtonblekdfinpkaaGreatWrbr
import Derived.Test.YtonblekdfinpkaaGreatWrbu
import Derived.Test.YtonblekdfinpkaaGreatWrbv
import Derived.Test.YtonblekdfinpkaaGreatWrby
import Derived.Test.YtonblekdfinpkaaGreatWrbz
namespace Go.Proofs.YtonblekdfinpkaaGreat
set_option linter.unusedVariables false
set_option linter.unusedSimpArgs false
section
open Go.RowKit
theorem Zfc {α:Type} [DecidableEq α]:∀(l m:List α),l.Nodup→(∀x∈l,x∈m)→l.length≤m.length
 |[],_,_,_=>Nat.zero_le _
 |x::l,m,hn,hs=>by
  obtain⟨h1,h2⟩:=List.nodup_cons.1 hn;have hx:=hs x (List.mem_cons_self ..);have:=Zfc l (m.erase x) h2 fun y hy=>(List.mem_erase_of_ne (fun e:y=x=>h1 (by rw[←e];exact hy))).2 (hs y (List.mem_cons_of_mem _ hy))
  rw[List.length_erase_of_mem hx]at this;have:=List.length_pos_of_mem hx;rw[List.length_cons];omega
theorem Zoe (key:Int):∀l:List Int,(wwO key l).length≤l.length
 |[]=>by simp[wwO]
 |[a]=>by simp[wwO]
 |a::b::l=>by
  have:=Zoe key (b::l)
  show(⟨a,b,1,key⟩::wwO key (b::l)).length≤_
  rw[List.length_cons];simp only[List.length_cons]at*;omega
theorem ZgP {α β:Type} (f:α→List β) (K:Nat):∀l:List α,(∀x∈l,(f x).length≤K)→(l.flatMap f).length≤K*l.length
 |[],_=>by simp
 |x::l,h=>by
  have h1:=h x (List.mem_cons_self ..);have h2:=ZgP f K l fun y hy=>h y (List.mem_cons_of_mem _ hy)
  rw[List.flatMap_cons,List.length_append,List.length_cons,Nat.mul_succ];omega
theorem Znr {h:Hist} (hl:ZW h=true):h.ords.length≤24∧∀o∈h.ords,o.txs.length≤24:=by
 unfold ZW at hl;simp only[Bool.and_eq_true,decide_eq_true_eq,List.all_eq_true]at hl;exact⟨hl.1.1.2,fun t ht=>hl.2 t ht⟩
theorem ZeP {h:Hist} (hl:ZW h=true):(ZD h).length≤1152:=by
 by_cases hr:Zb h=true
 ·obtain⟨n1,n2⟩:=Zgg hl;obtain⟨n3,n4⟩:=Znr hl
  have h1:((ZD h).map (·.e)).length≤(wwL (fun _=>true) h.ords++rdL (fun _=>true) (ZO h.txs) (Zh h.txs) (ZC h.ords) h.txs).length:=by
   refine Zfc _ _ ?_ fun e he=> ?_
   ·rw[List.nodup_iff_pairwise_ne,List.pairwise_map];exact Zpv
   ·obtain⟨x,hx,rfl⟩:=List.mem_map.1 he;have hc:=((ZbT hr).1 hx).1;have hg:=ZmU hr (fun _=>true) x.e;rw[if_pos rfl]at hg;rw[←hg]at hc;unfold ZnB at hc;rw[List.mem_append]
    apply Classical.byContradiction
    intro hn;rw[not_or]at hn
    apply hc
    unfold Zbh;rw[if_neg hn.1,Nat.zero_add];unfold Zx;rw[List.length_eq_zero_iff,List.filter_eq_nil_iff];intro y hy;simp only[decide_eq_true_eq];intro e;rw[e]at hy;exact hn.2 hy
  rw[List.length_map,List.length_append]at h1
  have h2:(wwL (fun _=>true) h.ords).length≤24*h.ords.length:=ZgP _ 24 _ fun o ho=>by
   unfold wwC;rw[if_pos rfl];exact Nat.le_trans (Zoe _ _) (n4 o ho)
  have h3:(rdL (fun _=>true) (ZO h.txs) (Zh h.txs) (ZC h.ords) h.txs).length≤48*(h.txs.filter (·.done)).length:=ZgP _ 48 _ fun t ht=>by
   have h4:(rdO (fun _=>true) (ZO h.txs) (Zh h.txs) (ZC h.ords) t.id t.ops).length≤2*(t.ops.filter fun o=>o.read&&true).length:=ZgP _ 2 _ fun o _=>Zjy _ _ _ _ _
   have h5:=List.length_filter_le (fun o:HOp=>o.read&&true) t.ops;have h6:=n2 t (List.mem_filter.1 ht).1;exact Nat.le_trans h4 (by omega)
  have h7:=List.length_filter_le (fun t:HTx=>t.done) h.txs;omega
 ·unfold ZD;rw[if_neg hr];simp
structure HWit where
 p:Int
 walk:List Edge
 read:HBad
deriving DecidableEq
def zeroW:HWit:=⟨0,[],⟨0,0,⟨0,0,0⟩⟩⟩
def HWit.at_ (x:HWit) (A:Option Addr) (c:Nat):List Value:=[.int .i64 x.p,.slice A x.walk.length c,.int .i64 x.read.tx,.int .i64 x.read.place,.int .i64 x.read.of.tx,.int .i64 x.read.of.key,.int .i64 x.read.of.nth]
def Zdz (l:List Edge) (p:Int):HWit×Bool:=
 if Zan p=0 then (zeroW,false) else if ZaO l (Zan p) (ZaS p)=[] then (zeroW,false) else (⟨p,ZaO l (Zan p) (ZaS p),⟨0,0,⟨0,0,0⟩⟩⟩,true)
def Zcb (l:List HBad) (p:Int):HWit×Bool:=match l with|[]=>(zeroW,false)|b::_=>(⟨p,[],b⟩,true)
def ofX (h:Hist) (p:Int):HWit×Bool:=if p=2∨p=3 then Zcb (Z3 h p) p else Zdz (ZS (ZD h)) p
def ToldW (w:World) (x:HWit×Bool) (e:Ending) (w':World):Prop:=
 ∃A c,e= .returned (.tuple #[.agg (x.1.at_ A c).toArray,.bool x.2])∧Walk (fun i=>w.heap.size≤i) w' A x.1.walk∧Upd No w w'
def ZfD (a b:HWit):Bool:=if a.walk=b.walk then ZbE a.read b.read else Zd7 a.walk b.walk
theorem Zd8 {F:Nat→Prop} {w:World} {A:Option Addr}:Walk F w A []:=fun h=>absurd rfl h
theorem EdX.nil {w:World} {A:Option Addr}:EdX w A []:=⟨fun _=>True,fun h=>absurd rfl h⟩
end
/- Phenomena:which a history has (phen.Has,phen.All,tenterref30.Has). -/
section
open Go.RowKit
def ZfK (h:Hist) (p:Int):Bool:=if p=2∨p=3 then decide (0<(Z3 h p).length) else Zb2 (ZS (ZD h)) (Zan p) (ZaS p)
theorem Zpg (l:List Edge):Zf l 0=[]:=by
 unfold Zf;rw[List.filter_eq_nil_iff];intro e _ h;unfold Zs Zd at h;simp at h
theorem Zh1 (l:List Edge) (must:Int):Zb2 l 0 must=false:=by
 have h:=Zpg l;unfold Zf at h;unfold Zb2;simp only[h]
 split<;>rfl
set_option maxRecDepth 100000 in
set_option maxHeartbeats 2000000 in
theorem Zvn (F:Nat→Prop) (w:World) (txs:List HTx) (ords:List HOrd) (A:Option Addr) (c:Nat) (B:Option Addr) (d:Nat) (p:Int) (H:Hist.lies F w ⟨txs,ords,A,c,B,d⟩) (hl:ZW ⟨txs,ords,A,c,B,d⟩=true):
  Calls Tryz.prog 20 #[.agg #[.slice A txs.length c,.slice B ords.length d],.int .i64 p] w fun e w'=>e= .returned (.bool (ZfK ⟨txs,ords,A,c,B,d⟩ p))∧Upd No w w':=by
 obtain⟨wb,hwb⟩:∃wb,w.alloc (.cells #[.slice A txs.length c,.slice B ords.length d] 50)=wb:=⟨_,rfl⟩;have u0:Upd No w wb:=by rw[←hwb];exact(Upd.refl No w).alloc _
 have bH:Blk wb w.heap.size 50 [.slice A txs.length c,.slice B ords.length d]:=by rw[←hwb];exact Blk.new w _ _
 have h0:∀W,Upd No wb W→W.cell? ⟨w.heap.size,0,none⟩=some (.slice A txs.length c):=fun W u=>(bH.upd u id).cell 0
 have h1:∀W,Upd No wb W→W.cell? ⟨w.heap.size,1,none⟩=some (.slice B ords.length d):=fun W u=>(bH.upd u id).cell 1
 have HH:=Qh (H.upd u0 (fun _ _=>id));have U0:=Qh u0;have hr:Upd No wb wb:=Upd.refl _ _;clear bH u0 H
 by_cases p2:p=2
 ·subst p2;have CB:=Qh (oOf F wb txs ords A c B d 2 HH.out);obtain⟨bl,hbl⟩:∃bl,Z3 ⟨txs,ords,A,c,B,d⟩ 2=bl:=⟨_,rfl⟩;have HV:=Qh (show ZfK ⟨txs,ords,A,c,B,d⟩ 2=decide (0<bl.length) by unfold ZfK;rw[if_pos (by decide),hbl]);rw[hbl]at CB;rw[HV.out];clear hbl
  go_enter Tryz.func20,Tryz.ntmps20
  go_wp2_with fail
  refine(CB.out).mono ?_;rintro e w1 ⟨A1,c1,rfl,_,hu1⟩;go_wp2
  go_ret
  exact⟨rfl,U0.out.trans hu1⟩
 by_cases p3:p=3
 ·subst p3;have CB:=Qh (oOf F wb txs ords A c B d 3 HH.out);obtain⟨bl,hbl⟩:∃bl,Z3 ⟨txs,ords,A,c,B,d⟩ 3=bl:=⟨_,rfl⟩;have HV:=Qh (show ZfK ⟨txs,ords,A,c,B,d⟩ 3=decide (0<bl.length) by unfold ZfK;rw[if_pos (by decide),hbl]);rw[hbl]at CB;rw[HV.out];clear hbl
  go_enter Tryz.func20,Tryz.ntmps20
  go_wp2_with fail
  refine(CB.out).mono ?_;rintro e w1 ⟨A1,c1,rfl,_,hu1⟩;go_wp2
  go_ret
  exact⟨rfl,U0.out.trans hu1⟩
 have q2:(p==2)=false:=by simpa using p2
 have q3:(p==3)=false:=by simpa using p3
 have hv:ZfK ⟨txs,ords,A,c,B,d⟩ p=Zb2 (ZS (ZD ⟨txs,ords,A,c,B,d⟩)) (Zan p) (ZaS p):=by unfold ZfK;rw[if_neg (by omega)]
 rw[hv];clear hv;obtain⟨l,hll⟩:∃l,ZD ⟨txs,ords,A,c,B,d⟩=l:=⟨_,rfl⟩;have hfew:=ZeP hl;obtain⟨n1,n2⟩:=Zgg hl;have CE:=Qh (Zop HH.out n1 n2 rfl rfl hll rfl);rw[hll]at hfew ⊢;obtain⟨pl,hpl⟩:∃pl,ZS l=pl:=⟨_,rfl⟩;have hpn:pl.length=l.length:=by rw[←hpl];unfold ZS;rw[List.length_map]
 have HPL:=Qh hpl;rw[hpl];have HPN:=Qh hpn;have HF:=Qh hfew;obtain⟨M,hM⟩:∃M,Zan p=M:=⟨_,rfl⟩;obtain⟨T,hT⟩:∃T,ZaS p=T:=⟨_,rfl⟩;have PM:=Qh (fun W=>ZkZ W p);rw[hM,hT]at PM ⊢;clear hM hT hll hpl hpn p2 p3 n1 n2 hfew
 by_cases hm:M=0
 ·subst hm;rw[Zh1]
  go_enter Tryz.func20,Tryz.ntmps20
  go_wp2_with fail
  refine(PM.out _).mono ?_;rintro e w1 ⟨rfl,rfl⟩;go_wp2
  go_ret
  exact⟨rfl,U0.out⟩
 ·have hmb:(M != 0)=true:=by simpa using hm
  clear hm
  go_enter Tryz.func20,Tryz.ntmps20
  go_wp2_with fail
  refine(PM.out _).mono ?_;rintro e w1 ⟨rfl,rfl⟩
  go_wp2_with fail
  refine(CE.out).mono ?_;rintro e w1 ⟨A1,c1,rfl,hx1,hu1⟩;have C2:=Qh (Zoo (c:=c1) hx1 (by have:=HF.out;omega) rfl HPL.out rfl)
  go_wp2_with fail
  refine(C2.out).mono ?_;rintro e w2 ⟨A2,c2,rfl,⟨G,hx2⟩,hu2⟩;have hu12:=hu1.trans hu2;have C3:=Qh (Ztq G w2 A2 c2 pl M T hx2 (by have:=HF.out;have:=HPN.out;omega));clear hx1 hx2 hu1 hu2
  go_wp2_with fail
  refine(C3.out).mono ?_;rintro e w3 ⟨rfl,hu3⟩;go_wp2
  go_ret
  exact⟨rfl,U0.out.trans (hu12.trans hu3)⟩
end
/- Witnesses:of edges,of reads,of a history:the program's and the document's. -/
section
open Go.RowKit
theorem ToldC.no {w:World} {d:List Edge} {e:Ending} {w':World} (h:ToldC w d e w') (hd:d=[]):∃A c,e= .returned (.tuple #[.slice A 0 c,.int .i64 3])∧Upd No w w':=by
 obtain⟨A,c,rfl,_,hu⟩:=h;subst hd;exact⟨A,c,rfl,hu⟩
theorem ToldC.yes {w:World} {d:List Edge} {e:Ending} {w':World} (h:ToldC w d e w') (hd:d≠[]):∃A c,e= .returned (.tuple #[.slice A d.length c,.int .i64 0])∧Walk (fun i=>w.heap.size≤i) w' A d∧Upd No w w':=by
 obtain⟨A,c,rfl,ho,hu⟩:=h;rw[if_neg (by rw[List.length_eq_zero_iff];exact hd)];exact⟨A,c,rfl,Recs.weak (Recs.of_own Zas (by omega) ho) (fun i _ e=>(ho.lt i e).1),hu⟩
theorem Zf5 {W:World} {b:Nat} {ty:TypeId} {c0 c1 c2 c3 c4 c5 c6:Value} (h:Blk W b ty [c0,c1,c2,c3,c4,c5,c6]) (v0 v1 v2 v3 v4 v5 v6:Value):
  Blk (((((((W.setCell ⟨b,0,none⟩ v0).setCell ⟨b,1,none⟩ v1).setCell ⟨b,2,none⟩ v2).setCell ⟨b,3,none⟩ v3).setCell ⟨b,4,none⟩ v4).setCell ⟨b,5,none⟩ v5).setCell ⟨b,6,none⟩ v6) b ty [v0,v1,v2,v3,v4,v5,v6]∧
  Upd (One b) W (((((((W.setCell ⟨b,0,none⟩ v0).setCell ⟨b,1,none⟩ v1).setCell ⟨b,2,none⟩ v2).setCell ⟨b,3,none⟩ v3).setCell ⟨b,4,none⟩ v4).setCell ⟨b,5,none⟩ v5).setCell ⟨b,6,none⟩ v6):=by
 refine⟨?_,(((((((Upd.refl _ _).setOne 0 _).setOne 1 _).setOne 2 _).setOne 3 _).setOne 4 _).setOne 5 _).setOne 6 _⟩;have:=((((((h.set_ 0 v0).set_ 1 v1).set_ 2 v2).set_ 3 v3).set_ 4 v4).set_ 5 v5).set_ 6 v6
 simpa only[List.set_cons_zero,List.set_cons_succ]using this
set_option maxRecDepth 100000 in
set_option maxHeartbeats 1000000 in
theorem Zub (F:Nat→Prop) (w:World) (A:Option Addr) (c:Nat) (l:List Edge) (p:Int) (h:Walk F w A l) (hl:l.length≤2000):Calls Tryz.prog 15 #[.slice A l.length c,.int .i64 p] w (ToldW w (Zdz l p)):=by
 obtain⟨M,hM⟩:∃M,Zan p=M:=⟨_,rfl⟩;obtain⟨T,hT⟩:∃T,ZaS p=T:=⟨_,rfl⟩;have PM:=Qh (fun W=>ZkZ W p);rw[hM,hT]at PM;unfold Zdz;rw[hM,hT];clear hM hT;obtain⟨z,hz⟩:∃z,w.heap.size=z:=⟨_,rfl⟩;obtain⟨wb,hwb⟩:∃wb,w.alloc (.cells #[.int .i64 0,.slice none 0 0,.int .i64 0,.int .i64 0,.int .i64 0,.int .i64 0,.int .i64 0] 40)=wb:=⟨_,rfl⟩;have u0:Upd No w wb:=by rw[←hwb];exact(Upd.refl No w).alloc _
 have bW:Blk wb z 40 [.int .i64 0,.slice none 0 0,.int .i64 0,.int .i64 0,.int .i64 0,.int .i64 0,.int .i64 0]:=by rw[←hwb,←hz];exact Blk.new w _ _
 have c0:∀W,Upd No wb W→W.cell? ⟨z,0,none⟩=some (.int .i64 0):=fun W u=>(bW.upd u id).cell 0
 have f0:∀W,Upd No wb W→W.frozen? ⟨z,0,none⟩=false:=fun W u=>(bW.upd u id).free 0
 have f1:∀W,Upd No wb W→W.frozen? ⟨z,1,none⟩=false:=fun W u=>(bW.upd u id).free 1
 have f2:∀W,Upd No wb W→W.frozen? ⟨z,2,none⟩=false:=fun W u=>(bW.upd u id).free 2
 have f3:∀W,Upd No wb W→W.frozen? ⟨z,3,none⟩=false:=fun W u=>(bW.upd u id).free 3
 have f4:∀W,Upd No wb W→W.frozen? ⟨z,4,none⟩=false:=fun W u=>(bW.upd u id).free 4
 have f5:∀W,Upd No wb W→W.frozen? ⟨z,5,none⟩=false:=fun W u=>(bW.upd u id).free 5
 have f6:∀W,Upd No wb W→W.frozen? ⟨z,6,none⟩=false:=fun W u=>(bW.upd u id).free 6
 have e0:∀W,Upd No wb W→W.cell? ⟨z,1,none⟩=some (.slice none 0 0):=fun W u=>(bW.upd u id).cell 1
 have e2:∀W,Upd No wb W→W.cell? ⟨z,2,none⟩=some (.int .i64 0):=fun W u=>(bW.upd u id).cell 2
 have e3:∀W,Upd No wb W→W.cell? ⟨z,3,none⟩=some (.int .i64 0):=fun W u=>(bW.upd u id).cell 3
 have e4:∀W,Upd No wb W→W.cell? ⟨z,4,none⟩=some (.int .i64 0):=fun W u=>(bW.upd u id).cell 4
 have e5:∀W,Upd No wb W→W.cell? ⟨z,5,none⟩=some (.int .i64 0):=fun W u=>(bW.upd u id).cell 5
 have e6:∀W,Upd No wb W→W.cell? ⟨z,6,none⟩=some (.int .i64 0):=fun W u=>(bW.upd u id).cell 6
 have BW:=Qh bW;have HZ:=Qh hz;have U0:=Qh u0;have hbz:Upd No wb wb:=Upd.refl _ _;clear bW u0
 by_cases hm:M=0
 ·subst hm;rw[if_pos rfl]
  go_enter Tryz.func15,Tryz.ntmps15
  go_wp2_with fail
  refine(PM.out _).mono ?_;rintro e w1 ⟨rfl,rfl⟩;go_wp2;obtain⟨b7,u7⟩:=Zf5 (BW.out.upd hbz id) (.int .i64 0) (.slice none 0 0) (.int .i64 0) (.int .i64 0) (.int .i64 0) (.int .i64 0) (.int .i64 0);have r0:=b7.cell 0;have r1:=b7.cell 1;have r2:=b7.cell 2;have r3:=b7.cell 3;have r4:=b7.cell 4;have r5:=b7.cell 5;have r6:=b7.cell 6;simp only[Qz,Qs]at r0 r1 r2 r3 r4 r5 r6;refine bodyPost_ret (v:= .tuple #[.agg #[.int .i64 0,.slice none 0 0,.int .i64 0,.int .i64 0,.int .i64 0,.int .i64 0,.int .i64 0],.bool false]) (by simp[results,Tryz.results15,go_sem,r0,r1,r2,r3,r4,r5,r6]) rfl ?_;have uE:=(U0.out.trans hbz).then_ u7 (fun i e=>Or.inr (by have:=HZ.out;unfold One at e;omega));exact⟨none,0,rfl,Zd8,uE⟩
 ·rw[if_neg hm];have hmb:(M==0)=false:=by simpa using hm
  have CS:=Qh (ZpH F wb A c l M T (Recs.upd h U0.out (fun _ _=>id)) hl)
  by_cases hd:ZaO l M T=[]
  ·rw[if_pos hd];have HD:=Qh hd;clear hd hm
   go_enter Tryz.func15,Tryz.ntmps15
   go_wp2_with fail
   refine(PM.out _).mono ?_;rintro e w1 ⟨rfl,rfl⟩
   go_wp2_with fail
   refine CS.out.mono ?_;rintro e w2 h2;obtain⟨A2,c2,rfl,hu2⟩:=h2.no HD.out;go_wp2;obtain⟨b7,u7⟩:=Zf5 (BW.out.upd hu2 id) (.int .i64 0) (.slice none 0 0) (.int .i64 0) (.int .i64 0) (.int .i64 0) (.int .i64 0) (.int .i64 0);have r0:=b7.cell 0;have r1:=b7.cell 1;have r2:=b7.cell 2;have r3:=b7.cell 3;have r4:=b7.cell 4;have r5:=b7.cell 5;have r6:=b7.cell 6;simp only[Qz,Qs]at r0 r1 r2 r3 r4 r5 r6;refine bodyPost_ret (v:= .tuple #[.agg #[.int .i64 0,.slice none 0 0,.int .i64 0,.int .i64 0,.int .i64 0,.int .i64 0,.int .i64 0],.bool false]) (by simp[results,Tryz.results15,go_sem,r0,r1,r2,r3,r4,r5,r6]) rfl ?_;have uE:=(U0.out.trans hu2).then_ u7 (fun i e=>Or.inr (by have:=HZ.out;unfold One at e;omega));exact⟨none,0,rfl,Zd8,uE⟩
  ·rw[if_neg hd];obtain⟨d,hdd⟩:∃d,ZaO l M T=d:=⟨_,rfl⟩;rw[hdd]at hd CS ⊢;have HD:=Qh hd;clear hd hm hdd
   go_enter Tryz.func15,Tryz.ntmps15
   go_wp2_with fail
   refine(PM.out _).mono ?_;rintro e w1 ⟨rfl,rfl⟩
   go_wp2_with fail
   refine CS.out.mono ?_;rintro e w2 h2;obtain⟨A2,c2,rfl,hx2,hu2⟩:=h2.yes HD.out;have HX:=Qh hx2;clear hx2 h2;go_wp2;obtain⟨b7,u7⟩:=Zf5 (BW.out.upd hu2 id) (.int .i64 p) (.slice A2 d.length c2) (.int .i64 0) (.int .i64 0) (.int .i64 0) (.int .i64 0) (.int .i64 0);have r0:=b7.cell 0;have r1:=b7.cell 1;have r2:=b7.cell 2;have r3:=b7.cell 3;have r4:=b7.cell 4;have r5:=b7.cell 5;have r6:=b7.cell 6;simp only[Qz,Qs]at r0 r1 r2 r3 r4 r5 r6;refine bodyPost_ret (v:= .tuple #[.agg #[.int .i64 p,.slice A2 d.length c2,.int .i64 0,.int .i64 0,.int .i64 0,.int .i64 0,.int .i64 0],.bool true]) (by simp[results,Tryz.results15,go_sem,r0,r1,r2,r3,r4,r5,r6]) rfl ?_;have uE:=(U0.out.trans hu2).then_ u7 (fun i e=>Or.inr (by have:=HZ.out;unfold One at e;omega));exact⟨A2,c2,rfl,Recs.weak (Recs.upd HX.out u7 (fun i (hi:wb.heap.size≤i) (e:i=z)=>by have:=BW.out.lt;omega)) (fun i _ (hi:wb.heap.size≤i)=>Nat.le_trans U0.out.size hi),uE⟩
end
/- Witnesses of reads and of histories;which one is ahead,and whether two are one. -/
section
open Go.RowKit
theorem Zn2 {w:World} {base:Nat} {A:Option Addr} {c:Nat} {b:HBad} {l:List HBad} (h:w.ownsRow base 38 5 (.slice A (b::l).length c) (b::l).length ((b::l).map HBad.cells).flatten):
  ∃g,A=some ⟨g,0,none⟩∧base≤g∧g<w.heap.size∧w.cell? ⟨g,0,none⟩=some (.int .i64 b.tx)∧w.cell? ⟨g,1,none⟩=some (.int .i64 b.place)∧w.cell? ⟨g,2,none⟩=some (.int .i64 b.of.tx)∧w.cell? ⟨g,3,none⟩=some (.int .i64 b.of.key)∧w.cell? ⟨g,4,none⟩=some (.int .i64 b.of.nth):=by
 obtain⟨ad,e,q0,q1,q2,q3,q4⟩:=(ZlW h).at_ (k:=0) (by simp);rcases h.2 with ⟨h',hn⟩|⟨g,cap,cur,hv,hb,hg,hnc,hcm,hcs,htake⟩
 ·cases hn
 ·cases hv
  cases e
  have hg2:=h.lt g rfl;exact⟨g,rfl,hg2.1,hg2.2,q0,q1,q2,q3,q4⟩
set_option maxRecDepth 100000 in
set_option maxHeartbeats 1000000 in
theorem Zrz (F:Nat→Prop) (w:World) (txs:List HTx) (ords:List HOrd) (A:Option Addr) (c:Nat) (B:Option Addr) (d:Nat) (p:Int) (H:Hist.lies F w ⟨txs,ords,A,c,B,d⟩):
  Calls Tryz.prog 55 #[.agg #[.slice A txs.length c,.slice B ords.length d],.int .i64 p] w (ToldW w (Zcb (Z3 ⟨txs,ords,A,c,B,d⟩ p) p)):=by
 obtain⟨wh,hwh⟩:∃wh,w.alloc (.cells #[.slice A txs.length c,.slice B ords.length d] 50)=wh:=⟨_,rfl⟩;have uh:Upd No w wh:=by rw[←hwh];exact(Upd.refl No w).alloc _
 have bH:Blk wh w.heap.size 50 [.slice A txs.length c,.slice B ords.length d]:=by rw[←hwh];exact Blk.new w _ _
 obtain⟨z,hz⟩:∃z,wh.heap.size=z:=⟨_,rfl⟩;obtain⟨wb,hwb⟩:∃wb,wh.alloc (.cells #[.int .i64 0,.slice none 0 0,.int .i64 0,.int .i64 0,.int .i64 0,.int .i64 0,.int .i64 0] 40)=wb:=⟨_,rfl⟩;have u0:Upd No wh wb:=by rw[←hwb];exact(Upd.refl No wh).alloc _
 have bW:Blk wb z 40 [.int .i64 0,.slice none 0 0,.int .i64 0,.int .i64 0,.int .i64 0,.int .i64 0,.int .i64 0]:=by rw[←hwb,←hz];exact Blk.new wh _ _
 have c0:∀W,Upd No wb W→W.cell? ⟨z,0,none⟩=some (.int .i64 0):=fun W u=>(bW.upd u id).cell 0
 have f0:∀W,Upd No wb W→W.frozen? ⟨z,0,none⟩=false:=fun W u=>(bW.upd u id).free 0
 have f1:∀W,Upd No wb W→W.frozen? ⟨z,1,none⟩=false:=fun W u=>(bW.upd u id).free 1
 have f2:∀W,Upd No wb W→W.frozen? ⟨z,2,none⟩=false:=fun W u=>(bW.upd u id).free 2
 have f3:∀W,Upd No wb W→W.frozen? ⟨z,3,none⟩=false:=fun W u=>(bW.upd u id).free 3
 have f4:∀W,Upd No wb W→W.frozen? ⟨z,4,none⟩=false:=fun W u=>(bW.upd u id).free 4
 have f5:∀W,Upd No wb W→W.frozen? ⟨z,5,none⟩=false:=fun W u=>(bW.upd u id).free 5
 have f6:∀W,Upd No wb W→W.frozen? ⟨z,6,none⟩=false:=fun W u=>(bW.upd u id).free 6
 have e0:∀W,Upd No wb W→W.cell? ⟨z,1,none⟩=some (.slice none 0 0):=fun W u=>(bW.upd u id).cell 1
 have e2:∀W,Upd No wb W→W.cell? ⟨z,2,none⟩=some (.int .i64 0):=fun W u=>(bW.upd u id).cell 2
 have e3:∀W,Upd No wb W→W.cell? ⟨z,3,none⟩=some (.int .i64 0):=fun W u=>(bW.upd u id).cell 3
 have e4:∀W,Upd No wb W→W.cell? ⟨z,4,none⟩=some (.int .i64 0):=fun W u=>(bW.upd u id).cell 4
 have e5:∀W,Upd No wb W→W.cell? ⟨z,5,none⟩=some (.int .i64 0):=fun W u=>(bW.upd u id).cell 5
 have e6:∀W,Upd No wb W→W.cell? ⟨z,6,none⟩=some (.int .i64 0):=fun W u=>(bW.upd u id).cell 6
 have BW:=Qh bW;have HZ:=Qh hz;have U0:=Qh u0;have hbz:Upd No wb wb:=Upd.refl _ _;clear bW u0;have h0:∀W,Upd No wb W→W.cell? ⟨w.heap.size,0,none⟩=some (.slice A txs.length c):=fun W u=>(bH.upd (U0.out.trans u) id).cell 0
 have h1:∀W,Upd No wb W→W.cell? ⟨w.heap.size,1,none⟩=some (.slice B ords.length d):=fun W u=>(bH.upd (U0.out.trans u) id).cell 1
 have HH:=Qh (H.upd (uh.trans U0.out) (fun _ _=>id));have UH:=Qh uh;clear bH uh H;obtain⟨l,hl⟩:∃l,Z3 ⟨txs,ords,A,c,B,d⟩ p=l:=⟨_,rfl⟩;have CO:=Qh (oOf F wb txs ords A c B d p HH.out);rw[hl]at CO ⊢;clear hl
 cases l with
 |nil=>
  go_enter Tryz.func55,Tryz.ntmps55
  go_wp2_with fail
  refine(CO.out).mono ?_;rintro e w1 ⟨A1,c1,rfl,ho,hu1⟩;go_wp2;obtain⟨b7,u7⟩:=Zf5 (BW.out.upd hu1 id) (.int .i64 0) (.slice none 0 0) (.int .i64 0) (.int .i64 0) (.int .i64 0) (.int .i64 0) (.int .i64 0);have r0:=b7.cell 0;have r1:=b7.cell 1;have r2:=b7.cell 2;have r3:=b7.cell 3;have r4:=b7.cell 4;have r5:=b7.cell 5;have r6:=b7.cell 6;simp only[Qz,Qs]at r0 r1 r2 r3 r4 r5 r6;refine bodyPost_ret (v:= .tuple #[.agg #[.int .i64 0,.slice none 0 0,.int .i64 0,.int .i64 0,.int .i64 0,.int .i64 0,.int .i64 0],.bool false]) (by simp[results,Tryz.results55,go_sem,r0,r1,r2,r3,r4,r5,r6]) rfl ?_;have uE:=(U0.out.trans hu1).then_ u7 (fun i e=>Or.inr (by have:=HZ.out;unfold One at e;omega));exact⟨none,0,rfl,Zd8,UH.out.trans uE⟩
 |cons b l=>
  obtain⟨bx,bp,⟨bt,bk,bn⟩⟩:=b;have hlen:(((⟨bx,bp,⟨bt,bk,bn⟩⟩:HBad)::l).length==0)=false:=by simp
  have hlen2:((((⟨bx,bp,⟨bt,bk,bn⟩⟩:HBad)::l).length:Nat):Int)≠0:=by simp only[List.length_cons];omega
  obtain⟨n,hn⟩:∃n,((⟨bx,bp,⟨bt,bk,bn⟩⟩:HBad)::l).length=n:=⟨_,rfl⟩;have hn0:(0:Int)<(n:Int):=by rw[←hn];simp only[List.length_cons];omega
  have hn1:((n:Int)==0)=false:=by rw[beq_eq_false_iff_ne];omega
  have HN:=Qh hn;clear hlen hlen2 hn
  go_enter Tryz.func55,Tryz.ntmps55
  go_wp2_with fail
  refine(CO.out).mono ?_;rintro e w1 ⟨A1,c1,rfl,ho,hu1⟩;obtain⟨g,rfl,hg1,hg2,q0,q1,q2,q3,q4⟩:=Zn2 ho;rw[HN.out];simp only at q0 q1 q2 q3 q4;clear ho;go_wp2;obtain⟨b7,u7⟩:=Zf5 (BW.out.upd hu1 id) (.int .i64 p) (.slice none 0 0) (.int .i64 bx) (.int .i64 bp) (.int .i64 bt) (.int .i64 bk) (.int .i64 bn);have r0:=b7.cell 0;have r1:=b7.cell 1;have r2:=b7.cell 2;have r3:=b7.cell 3;have r4:=b7.cell 4;have r5:=b7.cell 5;have r6:=b7.cell 6;simp only[Qz,Qs]at r0 r1 r2 r3 r4 r5 r6;refine bodyPost_ret (v:= .tuple #[.agg #[.int .i64 p,.slice none 0 0,.int .i64 bx,.int .i64 bp,.int .i64 bt,.int .i64 bk,.int .i64 bn],.bool true]) (by simp[results,Tryz.results55,go_sem,r0,r1,r2,r3,r4,r5,r6]) rfl ?_;have uE:=(U0.out.trans hu1).then_ u7 (fun i e=>Or.inr (by have:=HZ.out;unfold One at e;omega));exact⟨none,0,rfl,Zd8,UH.out.trans uE⟩
end
/- Witnesses of histories;which one is ahead,and whether two are one. -/
section
open Go.RowKit
theorem Zlc {h:Hist} {p:Int} (hp:p=2∨p=3):ofX h p=Zcb (Z3 h p) p:=by unfold ofX;rw[if_pos hp]
theorem ZqG {h:Hist} {p:Int} (hp:¬(p=2∨p=3)):ofX h p=Zdz (ZS (ZD h)) p:=by unfold ofX;rw[if_neg hp]
theorem ToldW.parts {w:World} {x:HWit×Bool} {e:Ending} {w':World} (h:ToldW w x e w') {p r0 r1 r2 r3 r4:Int} {d:List Edge} {b:Bool} (hx:x=(⟨p,d,⟨r0,r1,⟨r2,r3,r4⟩⟩⟩,b)):
  ∃A c,e= .returned (.tuple #[.agg #[.int .i64 p,.slice A d.length c,.int .i64 r0,.int .i64 r1,.int .i64 r2,.int .i64 r3,.int .i64 r4],.bool b])∧Walk (fun i=>w.heap.size≤i) w' A d∧Upd No w w':=by
 subst hx;exact h
set_option maxRecDepth 100000 in
set_option maxHeartbeats 1000000 in
theorem wOf (F:Nat→Prop) (w:World) (txs:List HTx) (ords:List HOrd) (A:Option Addr) (c:Nat) (B:Option Addr) (d:Nat) (p:Int) (H:Hist.lies F w ⟨txs,ords,A,c,B,d⟩) (hl:ZW ⟨txs,ords,A,c,B,d⟩=true):
  Calls Tryz.prog 19 #[.agg #[.slice A txs.length c,.slice B ords.length d],.int .i64 p] w (ToldW w (ofX ⟨txs,ords,A,c,B,d⟩ p)):=by
 have hfew:=ZeP hl;obtain⟨n1,n2⟩:=Zgg hl;obtain⟨wh,hwh⟩:∃wh,w.alloc (.cells #[.slice A txs.length c,.slice B ords.length d] 50)=wh:=⟨_,rfl⟩;have uh:Upd No w wh:=by rw[←hwh];exact(Upd.refl No w).alloc _
 have bH:Blk wh w.heap.size 50 [.slice A txs.length c,.slice B ords.length d]:=by rw[←hwh];exact Blk.new w _ _
 obtain⟨z,hz⟩:∃z,wh.heap.size=z:=⟨_,rfl⟩;obtain⟨wb,hwb⟩:∃wb,wh.alloc (.cells #[.int .i64 0,.slice none 0 0,.int .i64 0,.int .i64 0,.int .i64 0,.int .i64 0,.int .i64 0] 40)=wb:=⟨_,rfl⟩;have u0:Upd No wh wb:=by rw[←hwb];exact(Upd.refl No wh).alloc _
 have bW:Blk wb z 40 [.int .i64 0,.slice none 0 0,.int .i64 0,.int .i64 0,.int .i64 0,.int .i64 0,.int .i64 0]:=by rw[←hwb,←hz];exact Blk.new wh _ _
 have c0:∀W,Upd No wb W→W.cell? ⟨z,0,none⟩=some (.int .i64 0):=fun W u=>(bW.upd u id).cell 0
 have f0:∀W,Upd No wb W→W.frozen? ⟨z,0,none⟩=false:=fun W u=>(bW.upd u id).free 0
 have f1:∀W,Upd No wb W→W.frozen? ⟨z,1,none⟩=false:=fun W u=>(bW.upd u id).free 1
 have f2:∀W,Upd No wb W→W.frozen? ⟨z,2,none⟩=false:=fun W u=>(bW.upd u id).free 2
 have f3:∀W,Upd No wb W→W.frozen? ⟨z,3,none⟩=false:=fun W u=>(bW.upd u id).free 3
 have f4:∀W,Upd No wb W→W.frozen? ⟨z,4,none⟩=false:=fun W u=>(bW.upd u id).free 4
 have f5:∀W,Upd No wb W→W.frozen? ⟨z,5,none⟩=false:=fun W u=>(bW.upd u id).free 5
 have f6:∀W,Upd No wb W→W.frozen? ⟨z,6,none⟩=false:=fun W u=>(bW.upd u id).free 6
 have e0:∀W,Upd No wb W→W.cell? ⟨z,1,none⟩=some (.slice none 0 0):=fun W u=>(bW.upd u id).cell 1
 have e2:∀W,Upd No wb W→W.cell? ⟨z,2,none⟩=some (.int .i64 0):=fun W u=>(bW.upd u id).cell 2
 have e3:∀W,Upd No wb W→W.cell? ⟨z,3,none⟩=some (.int .i64 0):=fun W u=>(bW.upd u id).cell 3
 have e4:∀W,Upd No wb W→W.cell? ⟨z,4,none⟩=some (.int .i64 0):=fun W u=>(bW.upd u id).cell 4
 have e5:∀W,Upd No wb W→W.cell? ⟨z,5,none⟩=some (.int .i64 0):=fun W u=>(bW.upd u id).cell 5
 have e6:∀W,Upd No wb W→W.cell? ⟨z,6,none⟩=some (.int .i64 0):=fun W u=>(bW.upd u id).cell 6
 have BW:=Qh bW;have HZ:=Qh hz;have U0:=Qh u0;have hbz:Upd No wb wb:=Upd.refl _ _;clear bW u0;have h0:∀W,Upd No wb W→W.cell? ⟨w.heap.size,0,none⟩=some (.slice A txs.length c):=fun W u=>(bH.upd (U0.out.trans u) id).cell 0
 have h1:∀W,Upd No wb W→W.cell? ⟨w.heap.size,1,none⟩=some (.slice B ords.length d):=fun W u=>(bH.upd (U0.out.trans u) id).cell 1
 have HH:=Qh (H.upd (uh.trans U0.out) (fun _ _=>id));have UH:=Qh uh;clear bH uh H
 by_cases p2:p=2
 ·subst p2;have CR:=Qh (Zrz F wb txs ords A c B d 2 HH.out);obtain⟨⟨⟨xp,xw,⟨y0,y1,⟨y2,y3,y4⟩⟩⟩,xb⟩,hx⟩:∃x,Zcb (Z3 ⟨txs,ords,A,c,B,d⟩ 2) 2=x:=⟨_,rfl⟩
  have hxw:xw=[]:=by
   cases hl:Z3 ⟨txs,ords,A,c,B,d⟩ 2 with
   |nil=>rw[hl]at hx;unfold Zcb zeroW at hx;simp only[Prod.mk.injEq,HWit.mk.injEq]at hx;exact hx.1.2.1.symm
   |cons b l=>rw[hl]at hx;unfold Zcb at hx;simp only[Prod.mk.injEq,HWit.mk.injEq]at hx;exact hx.1.2.1.symm
  subst hxw;rw[Zlc (by decide),hx];rw[hx]at CR;clear hx
  go_enter Tryz.func19,Tryz.ntmps19
  go_wp2_with fail
  refine CR.out.mono ?_;rintro e w1 hh;obtain⟨A1,c1,rfl,_,hu1⟩:=hh.parts rfl;go_wp2;obtain⟨b7,u7⟩:=Zf5 (BW.out.upd hu1 id) (.int .i64 xp) (.slice A1 0 c1) (.int .i64 y0) (.int .i64 y1) (.int .i64 y2) (.int .i64 y3) (.int .i64 y4);have r0:=b7.cell 0;have r1:=b7.cell 1;have r2:=b7.cell 2;have r3:=b7.cell 3;have r4:=b7.cell 4;have r5:=b7.cell 5;have r6:=b7.cell 6;simp only[Qz,Qs]at r0 r1 r2 r3 r4 r5 r6;refine bodyPost_ret (v:= .tuple #[.agg #[.int .i64 xp,.slice A1 0 c1,.int .i64 y0,.int .i64 y1,.int .i64 y2,.int .i64 y3,.int .i64 y4],.bool xb]) (by simp[results,Tryz.results19,go_sem,r0,r1,r2,r3,r4,r5,r6]) rfl ?_;have uE:=(U0.out.trans hu1).then_ u7 (fun i e=>Or.inr (by have:=HZ.out;unfold One at e;omega));exact⟨A1,c1,rfl,Zd8,UH.out.trans uE⟩
 by_cases p3:p=3
 ·subst p3;have CR:=Qh (Zrz F wb txs ords A c B d 3 HH.out);obtain⟨⟨⟨xp,xw,⟨y0,y1,⟨y2,y3,y4⟩⟩⟩,xb⟩,hx⟩:∃x,Zcb (Z3 ⟨txs,ords,A,c,B,d⟩ 3) 3=x:=⟨_,rfl⟩
  have hxw:xw=[]:=by
   cases hl:Z3 ⟨txs,ords,A,c,B,d⟩ 3 with
   |nil=>rw[hl]at hx;unfold Zcb zeroW at hx;simp only[Prod.mk.injEq,HWit.mk.injEq]at hx;exact hx.1.2.1.symm
   |cons b l=>rw[hl]at hx;unfold Zcb at hx;simp only[Prod.mk.injEq,HWit.mk.injEq]at hx;exact hx.1.2.1.symm
  subst hxw;rw[Zlc (by decide),hx];rw[hx]at CR;clear hx
  go_enter Tryz.func19,Tryz.ntmps19
  go_wp2_with fail
  refine CR.out.mono ?_;rintro e w1 hh;obtain⟨A1,c1,rfl,_,hu1⟩:=hh.parts rfl;go_wp2;obtain⟨b7,u7⟩:=Zf5 (BW.out.upd hu1 id) (.int .i64 xp) (.slice A1 0 c1) (.int .i64 y0) (.int .i64 y1) (.int .i64 y2) (.int .i64 y3) (.int .i64 y4);have r0:=b7.cell 0;have r1:=b7.cell 1;have r2:=b7.cell 2;have r3:=b7.cell 3;have r4:=b7.cell 4;have r5:=b7.cell 5;have r6:=b7.cell 6;simp only[Qz,Qs]at r0 r1 r2 r3 r4 r5 r6;refine bodyPost_ret (v:= .tuple #[.agg #[.int .i64 xp,.slice A1 0 c1,.int .i64 y0,.int .i64 y1,.int .i64 y2,.int .i64 y3,.int .i64 y4],.bool xb]) (by simp[results,Tryz.results19,go_sem,r0,r1,r2,r3,r4,r5,r6]) rfl ?_;have uE:=(U0.out.trans hu1).then_ u7 (fun i e=>Or.inr (by have:=HZ.out;unfold One at e;omega));exact⟨A1,c1,rfl,Zd8,UH.out.trans uE⟩
 have q2:(p==2)=false:=by simpa using p2
 have q3:(p==3)=false:=by simpa using p3
 rw[ZqG (by omega)];obtain⟨l,hll⟩:∃l,ZD ⟨txs,ords,A,c,B,d⟩=l:=⟨_,rfl⟩;have C1:=Qh (Zop HH.out n1 n2 rfl rfl hll rfl);rw[hll]at hfew ⊢;obtain⟨pl,hpl⟩:∃pl,ZS l=pl:=⟨_,rfl⟩;have hpn:pl.length=l.length:=by rw[←hpl];unfold ZS;rw[List.length_map]
 have HPL:=Qh hpl;rw[hpl];have HPN:=Qh hpn;have HF:=Qh hfew;obtain⟨⟨⟨xp,xw,⟨y0,y1,⟨y2,y3,y4⟩⟩⟩,xb⟩,hx⟩:∃x,Zdz pl p=x:=⟨_,rfl⟩;rw[hx];have HXX:=Qh hx;clear hx hll hpl hpn p2 p3 n1 n2 hfew
 go_enter Tryz.func19,Tryz.ntmps19
 go_wp2_with fail
 refine(C1.out).mono ?_;rintro e w1 ⟨A1,c1,rfl,hx1,hu1⟩;have C2:=Qh (Zoo (c:=c1) hx1 (by have:=HF.out;omega) rfl HPL.out rfl)
 go_wp2_with fail
 refine(C2.out).mono ?_;rintro e w2 ⟨A2,c2,rfl,⟨G,hx2⟩,hu2⟩;have hu12:=hu1.trans hu2;have HS12:=Qh hu12.size;have C3:=Qh (Zub G w2 A2 c2 pl p hx2 (by have:=HF.out;have:=HPN.out;omega));clear hx1 hx2 hu1 hu2;rw[HXX.out]at C3
 go_wp2_with fail
 refine C3.out.mono ?_;rintro e w3 hh;obtain⟨A3,c3,rfl,hx3,hu3⟩:=hh.parts rfl;have hu13:=hu12.trans hu3;have HX:=Qh hx3;clear hx3 hh hu12 hu3;go_wp2;obtain⟨b7,u7⟩:=Zf5 (BW.out.upd hu13 id) (.int .i64 xp) (.slice A3 xw.length c3) (.int .i64 y0) (.int .i64 y1) (.int .i64 y2) (.int .i64 y3) (.int .i64 y4);have r0:=b7.cell 0;have r1:=b7.cell 1;have r2:=b7.cell 2;have r3:=b7.cell 3;have r4:=b7.cell 4;have r5:=b7.cell 5;have r6:=b7.cell 6;simp only[Qz,Qs]at r0 r1 r2 r3 r4 r5 r6;refine bodyPost_ret (v:= .tuple #[.agg #[.int .i64 xp,.slice A3 xw.length c3,.int .i64 y0,.int .i64 y1,.int .i64 y2,.int .i64 y3,.int .i64 y4],.bool xb]) (by simp[results,Tryz.results19,go_sem,r0,r1,r2,r3,r4,r5,r6]) rfl ?_;have uE:=(U0.out.trans hu13).then_ u7 (fun i e=>Or.inr (by have:=HZ.out;unfold One at e;omega));exact⟨A3,c3,rfl,Recs.weak (Recs.upd HX.out u7 (fun i (hi:w2.heap.size≤i) (e:i=z)=>by have:=BW.out.lt;have:=HS12.out;omega)) (fun i _ (hi:w2.heap.size≤i)=>Nat.le_trans (UH.out.trans U0.out).size (Nat.le_trans HS12.out hi)),UH.out.trans uE⟩
end
/- Witnesses:which one is ahead,and whether two are one. -/
section
open Go.RowKit
section
variable (w:World) (A B:Option Addr) (c d:Nat) (a b:HWit)
set_option maxRecDepth 100000 in
theorem Zuc (ha:EdX w A a.walk) (hb:EdX w B b.walk) (la:a.walk.length≤100000) (lb:b.walk.length≤100000):
  Calls Tryz.prog 16 #[.agg (a.at_ A c).toArray,.agg (b.at_ B d).toArray] w fun e w'=>e= .returned (.bool (ZfD a b))∧Upd No w w':=by
 obtain⟨v,hv⟩:∃v,ZfD a b=v:=⟨_,rfl⟩;rw[hv];unfold ZfD at hv;obtain⟨ap,aw,⟨a0,a1,⟨a2,a3,a4⟩⟩⟩:=a;obtain⟨bp,bw,⟨b0,b1,⟨b2,b3,b4⟩⟩⟩:=b;unfold HWit.at_;simp only at ha hb la lb ⊢;obtain⟨z,hz⟩:∃z,w.heap.size=z:=⟨_,rfl⟩;obtain⟨w1,hw1⟩:∃w1,w.alloc (.cells #[.int .i64 ap,.slice A aw.length c,.int .i64 a0,.int .i64 a1,.int .i64 a2,.int .i64 a3,.int .i64 a4] 40)=w1:=⟨_,rfl⟩;have s1:w1.heap.size=z+1:=by rw[←hw1,←hz];simp
 obtain⟨wb,hwb⟩:∃wb,w1.alloc (.cells #[.int .i64 bp,.slice B bw.length d,.int .i64 b0,.int .i64 b1,.int .i64 b2,.int .i64 b3,.int .i64 b4] 40)=wb:=⟨_,rfl⟩;have u1:Upd No w w1:=by rw[←hw1];exact(Upd.refl No w).alloc _
 have u2:Upd No w1 wb:=by rw[←hwb];exact(Upd.refl No w1).alloc _
 have k1:Blk w1 z 40 [.int .i64 ap,.slice A aw.length c,.int .i64 a0,.int .i64 a1,.int .i64 a2,.int .i64 a3,.int .i64 a4]:=by rw[←hw1,←hz];exact Blk.new w _ _
 have k2:Blk wb (z+1) 40 [.int .i64 bp,.slice B bw.length d,.int .i64 b0,.int .i64 b1,.int .i64 b2,.int .i64 b3,.int .i64 b4]:=by rw[←hwb,←s1];exact Blk.new w1 _ _
 have x0:∀W,Upd No wb W→W.cell? ⟨z,0,none⟩=some (.int .i64 ap):=fun W u=>(k1.upd (u2.trans u) id).cell 0
 have x1:∀W,Upd No wb W→W.cell? ⟨z,1,none⟩=some (.slice A aw.length c):=fun W u=>(k1.upd (u2.trans u) id).cell 1
 have x2:∀W,Upd No wb W→W.cell? ⟨z,2,none⟩=some (.int .i64 a0):=fun W u=>(k1.upd (u2.trans u) id).cell 2
 have x3:∀W,Upd No wb W→W.cell? ⟨z,3,none⟩=some (.int .i64 a1):=fun W u=>(k1.upd (u2.trans u) id).cell 3
 have x4:∀W,Upd No wb W→W.cell? ⟨z,4,none⟩=some (.int .i64 a2):=fun W u=>(k1.upd (u2.trans u) id).cell 4
 have x5:∀W,Upd No wb W→W.cell? ⟨z,5,none⟩=some (.int .i64 a3):=fun W u=>(k1.upd (u2.trans u) id).cell 5
 have x6:∀W,Upd No wb W→W.cell? ⟨z,6,none⟩=some (.int .i64 a4):=fun W u=>(k1.upd (u2.trans u) id).cell 6
 have y0:∀W,Upd No wb W→W.cell? ⟨z+1,0,none⟩=some (.int .i64 bp):=fun W u=>(k2.upd u id).cell 0
 have y1:∀W,Upd No wb W→W.cell? ⟨z+1,1,none⟩=some (.slice B bw.length d):=fun W u=>(k2.upd u id).cell 1
 have y2:∀W,Upd No wb W→W.cell? ⟨z+1,2,none⟩=some (.int .i64 b0):=fun W u=>(k2.upd u id).cell 2
 have y3:∀W,Upd No wb W→W.cell? ⟨z+1,3,none⟩=some (.int .i64 b1):=fun W u=>(k2.upd u id).cell 3
 have y4:∀W,Upd No wb W→W.cell? ⟨z+1,4,none⟩=some (.int .i64 b2):=fun W u=>(k2.upd u id).cell 4
 have y5:∀W,Upd No wb W→W.cell? ⟨z+1,5,none⟩=some (.int .i64 b3):=fun W u=>(k2.upd u id).cell 5
 have y6:∀W,Upd No wb W→W.cell? ⟨z+1,6,none⟩=some (.int .i64 b4):=fun W u=>(k2.upd u id).cell 6
 have hr:Upd No wb wb:=Upd.refl _ _;have U0:=Qh (u1.trans u2);have HA:=Qh (fun W (u:Upd No wb W)=>EdX.upd ha (U0.out.trans u));have HB:=Qh (fun W (u:Upd No wb W)=>EdX.upd hb (U0.out.trans u));clear u1 u2 k1 k2 ha hb;simp only at hv
 by_cases hs:aw=bw
 ·have CS:=Qh (ZrB (c:=c) (d:=d) (HA.out wb hr) (HB.out wb hr) (by omega) (by omega) rfl rfl (v:=true) (by rw[hs];simp));rw[if_pos hs]at hv;have CL:=Qh (fun W=>Zuw W ⟨a0,a1,⟨a2,a3,a4⟩⟩ ⟨b0,b1,⟨b2,b3,b4⟩⟩);rw[hv]at CL;clear hs hv
  go_enter Tryz.func16,Tryz.ntmps16
  go_wp2_with fail
  refine(CS.out).mono ?_;rintro e w3 ⟨rfl,hu3⟩
  go_wp2_with fail
  refine(CL.out _).mono ?_;rintro e w4 ⟨rfl,hu4⟩;go_wp2
  go_ret
  exact⟨rfl,(U0.out.trans hu3).trans hu4⟩
 ·have CS:=Qh (ZrB (c:=c) (d:=d) (HA.out wb hr) (HB.out wb hr) (by omega) (by omega) rfl rfl (v:=false) (by simpa using hs));rw[if_neg hs]at hv;have CL:=Qh (fun W (u:Upd No wb W)=>ZuA (c:=c) (d:=d) (HA.out W u) (HB.out W u) (by omega) rfl rfl hv);clear hs hv
  go_enter Tryz.func16,Tryz.ntmps16
  go_wp2_with fail
  refine(CS.out).mono ?_;rintro e w3 ⟨rfl,hu3⟩
  go_wp2_with fail
  refine(CL.out _ hu3).mono ?_;rintro e w4 ⟨rfl,hu4⟩;go_wp2
  go_ret
  exact⟨rfl,(U0.out.trans hu3).trans hu4⟩
end
end
/- Witnesses:the answers that the document gives. -/
section
open Go.RowKit
theorem ToldW.part {w:World} {x:HWit×Bool} {e:Ending} {w':World} (h:ToldW w x e w') {p r0 r1 r2 r3 r4:Int} {d:List Edge} {b:Bool} {n:Nat} (hx:x=(⟨p,d,⟨r0,r1,⟨r2,r3,r4⟩⟩⟩,b)) (hn:d.length=n):
  ∃A c,e= .returned (.tuple #[.agg #[.int .i64 p,.slice A n c,.int .i64 r0,.int .i64 r1,.int .i64 r2,.int .i64 r3,.int .i64 r4],.bool b])∧EdX w' A d∧Upd No w w':=by
 subst hx hn;obtain⟨A,c,h1,h2,h3⟩:=h;exact⟨A,c,h1,⟨_,h2⟩,h3⟩
section
variable {F:Nat→Prop} {w:World} {n:Nat} {p:Int} {x:HWit×Bool}
end
theorem Ztx {w:World} {A B:Option Addr} {c d n m:Nat} {ap a0 a1 a2 a3 a4 bp b0 b1 b2 b3 b4:Int} {aw bw:List Edge} {v:Bool} (ha:EdX w A aw) (hb:EdX w B bw) (la:aw.length≤100000) (lb:bw.length≤100000) (hn:aw.length=n) (hm:bw.length=m)
  (hv:ZfD ⟨ap,aw,⟨a0,a1,⟨a2,a3,a4⟩⟩⟩ ⟨bp,bw,⟨b0,b1,⟨b2,b3,b4⟩⟩⟩=v):
  Calls Tryz.prog 16 #[.agg #[.int .i64 ap,.slice A n c,.int .i64 a0,.int .i64 a1,.int .i64 a2,.int .i64 a3,.int .i64 a4],.agg #[.int .i64 bp,.slice B m d,.int .i64 b0,.int .i64 b1,.int .i64 b2,.int .i64 b3,.int .i64 b4]] w fun e w'=>e= .returned (.bool v)∧Upd No w w':=by
 subst hn hm hv;exact Zuc w A B c d ⟨ap,aw,⟨a0,a1,⟨a2,a3,a4⟩⟩⟩ ⟨bp,bw,⟨b0,b1,⟨b2,b3,b4⟩⟩⟩ ha hb la lb
section
variable {w:World} {A B:Option Addr} {c d:Nat}
end
section
variable (n:Nat)
theorem o0:ZW (Zaj n)=true:=by kernel_rfl
theorem o1:ofX (Zaj n) 5=(⟨5,[e1,e2],⟨0,0,⟨0,0,0⟩⟩⟩,true):=by kernel_rfl
theorem o2:ofX (Zaj n) 4=(⟨0,[],⟨0,0,⟨0,0,0⟩⟩⟩,false):=by kernel_rfl
theorem o3:ofX (Zaj n) 0=(⟨0,[],⟨0,0,⟨0,0,0⟩⟩⟩,false):=by kernel_rfl
end
end
end Go.Proofs.YtonblekdfinpkaaGreat
