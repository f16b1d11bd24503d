/- Witnesses, plain: how many edges there are, what a witness is. -/
import Derived.Test.YtonblekdfinpkaaGreatWqbd
import Derived.Test.YtonblekdfinpkaaGreatWqbj
import Derived.Test.YtonblekdfinpkaaGreatWqbr
import Derived.Test.YtonblekdfinpkaaGreatWqby
import Derived.Test.YtonblekdfinpkaaGreatWqbz
namespace Go.Proofs.YtonblekdfinpkaaGreat
set_option linter.unusedVariables false
set_option linter.unusedSimpArgs false
section
open Go.RowKit
theorem ZeQ {α:Type} [DecidableEq α]:∀(l m:List α),l.Nodup→(∀x∈l,x∈m)→l.length≤m.length
 |[],_,_,_=>Nat.zero_le _
 |x::l,m,hn,hs=>by
  obtain⟨h1,h2⟩:=List.nodup_cons.1 hn;have hx:=hs x (List.mem_cons_self ..);have:=ZeQ l (m.erase x) h2 fun y hy=>(List.mem_erase_of_ne (fun e:y=x=>h1 (by rw[←e];exact hy))).2 (hs y (List.mem_cons_of_mem _ hy))
  rw[List.length_erase_of_mem hx]at this;have:=List.length_pos_of_mem hx;rw[List.length_cons];omega
theorem ZnN (key:Int):∀l:List Int,(wwO key l).length≤l.length
 |[]=>by simp[wwO]
 |[a]=>by simp[wwO]
 |a::b::l=>by
  have:=ZnN key (b::l)
  show(⟨a,b,1,key⟩::wwO key (b::l)).length≤_
  rw[List.length_cons];simp only[List.length_cons]at*;omega
theorem Zgv {α β:Type} (f:α→List β) (K:Nat):∀l:List α,(∀x∈l,(f x).length≤K)→(l.flatMap f).length≤K*l.length
 |[],_=>by simp
 |x::l,h=>by
  have h1:=h x (List.mem_cons_self ..);have h2:=Zgv f K l fun y hy=>h y (List.mem_cons_of_mem _ hy)
  rw[List.flatMap_cons,List.length_append,List.length_cons,Nat.mul_succ];omega
theorem Zm7 {h:Hist} (hl:Zci h=true):h.ords.length≤24∧∀o∈h.ords,o.txs.length≤24:=by
 unfold Zci at hl;simp only[Bool.and_eq_true,decide_eq_true_eq,List.all_eq_true]at hl;exact⟨hl.1.1.2,fun t ht=>hl.2 t ht⟩
theorem ZoV {h:Hist} (hl:Zci h=true):(ZaA h).length≤1152:=by
 by_cases hr:Zc h=true
 ·obtain⟨n1,n2⟩:=ZjA hl;obtain⟨n3,n4⟩:=Zm7 hl
  have h1:((ZaA h).map (·.e)).length≤(wwL (fun _=>true) h.ords++rdL (fun _=>true) (ZJ h.txs) (Zh h.txs) (ZA h.ords) h.txs).length:=by
   refine ZeQ _ _ ?_ fun e he=> ?_
   ·rw[List.nodup_iff_pairwise_ne,List.pairwise_map];exact ZoW
   ·obtain⟨x,hx,rfl⟩:=List.mem_map.1 he;have hc:=((ZcO hr).1 hx).1;have hg:=Zmx hr (fun _=>true) x.e;rw[if_pos rfl]at hg;rw[←hg]at hc;unfold Znd at hc;rw[List.mem_append]
    apply Classical.byContradiction
    intro hn;rw[not_or]at hn
    apply hc
    unfold Za6;rw[if_neg hn.1,Nat.zero_add];unfold Zq;rw[List.length_eq_zero_iff,List.filter_eq_nil_iff];intro y hy;simp only[decide_eq_true_eq];intro e;rw[e]at hy;exact hn.2 hy
  rw[List.length_map,List.length_append]at h1
  have h2:(wwL (fun _=>true) h.ords).length≤24*h.ords.length:=Zgv _ 24 _ fun o ho=>by
   unfold wwC;rw[if_pos rfl];exact Nat.le_trans (ZnN _ _) (n4 o ho)
  have h3:(rdL (fun _=>true) (ZJ h.txs) (Zh h.txs) (ZA h.ords) h.txs).length≤48*(h.txs.filter (·.done)).length:=Zgv _ 48 _ fun t ht=>by
   have h4:(rdO (fun _=>true) (ZJ h.txs) (Zh h.txs) (ZA h.ords) t.id t.ops).length≤2*(t.ops.filter fun o=>o.read&&true).length:=Zgv _ 2 _ fun o _=>Zjh _ _ _ _ _
   have h5:=List.length_filter_le (fun o:HOp=>o.read&&true) t.ops;have h6:=n2 t (List.mem_filter.1 ht).1;exact Nat.le_trans h4 (by omega)
  have h7:=List.length_filter_le (fun t:HTx=>t.done) h.txs;omega
 ·unfold ZaA;rw[if_neg hr];simp
structure HWit where
 p:Int
 walk:List Edge
 read:HBad
deriving DecidableEq
def Zcm:HWit:=⟨0,[],⟨0,0,⟨0,0,0⟩⟩⟩
def HWit.at_ (x:HWit) (A:Option Addr) (c:Nat):List Value:=[.int .i64 x.p,.slice A x.walk.length c,.int .i64 x.read.tx,.int .i64 x.read.place,.int .i64 x.read.of.tx,.int .i64 x.read.of.key,.int .i64 x.read.of.nth]
def ZX (l:List Edge) (p:Int):HWit×Bool:=
 if Zac p=0 then (Zcm,false) else if ZI l (Zac p) (ZaI p)=[] then (Zcm,false) else (⟨p,ZI l (Zac p) (ZaI p),⟨0,0,⟨0,0,0⟩⟩⟩,true)
def ZdD (l:List HBad) (p:Int):HWit×Bool:=match l with|[]=>(Zcm,false)|b::_=>(⟨p,[],b⟩,true)
def ofX (h:Hist) (p:Int):HWit×Bool:=if p=2∨p=3 then ZdD (Zcq h p) p else ZX (ZbG (ZaA h)) p
def ToldW (w:World) (x:HWit×Bool) (e:Ending) (w':World):Prop:=
 ∃A c,e= .returned (.tuple #[.agg (x.1.at_ A c).toArray,.bool x.2])∧Walk (fun i=>w.heap.size≤i) w' A x.1.walk∧Upd No w w'
def Zdc (a b:HWit):Bool:=if a.walk=b.walk then ZeR a.read b.read else Zx a.walk b.walk
theorem ZcU {F:Nat→Prop} {w:World} {A:Option Addr}:Walk F w A []:=fun h=>absurd rfl h
theorem EdX.nil {w:World} {A:Option Addr}:EdX w A []:=⟨fun _=>True,fun h=>absurd rfl h⟩
end
/- Witnesses:of edges,of reads,of a history:the program's and the document's. -/
section
open Go.RowKit
theorem ToldC.no {w:World} {d:List Edge} {e:Ending} {w':World} (h:ToldC w d e w') (hd:d=[]):∃A c,e= .returned (.tuple #[.slice A 0 c,.int .i64 3])∧Upd No w w':=by
 obtain⟨A,c,rfl,_,hu⟩:=h;subst hd;exact⟨A,c,rfl,hu⟩
theorem ToldC.yes {w:World} {d:List Edge} {e:Ending} {w':World} (h:ToldC w d e w') (hd:d≠[]):∃A c,e= .returned (.tuple #[.slice A d.length c,.int .i64 0])∧Walk (fun i=>w.heap.size≤i) w' A d∧Upd No w w':=by
 obtain⟨A,c,rfl,ho,hu⟩:=h;rw[if_neg (by rw[List.length_eq_zero_iff];exact hd)];exact⟨A,c,rfl,Recs.weak (Recs.of_own Zav (by omega) ho) (fun i _ e=>(ho.lt i e).1),hu⟩
theorem Zex {W:World} {b:Nat} {ty:TypeId} {c0 c1 c2 c3 c4 c5 c6:Value} (h:Blk W b ty [c0,c1,c2,c3,c4,c5,c6]) (v0 v1 v2 v3 v4 v5 v6:Value):
  Blk (((((((W.setCell ⟨b,0,none⟩ v0).setCell ⟨b,1,none⟩ v1).setCell ⟨b,2,none⟩ v2).setCell ⟨b,3,none⟩ v3).setCell ⟨b,4,none⟩ v4).setCell ⟨b,5,none⟩ v5).setCell ⟨b,6,none⟩ v6) b ty [v0,v1,v2,v3,v4,v5,v6]∧
  Upd (One b) W (((((((W.setCell ⟨b,0,none⟩ v0).setCell ⟨b,1,none⟩ v1).setCell ⟨b,2,none⟩ v2).setCell ⟨b,3,none⟩ v3).setCell ⟨b,4,none⟩ v4).setCell ⟨b,5,none⟩ v5).setCell ⟨b,6,none⟩ v6):=by
 refine⟨?_,(((((((Upd.refl _ _).setOne 0 _).setOne 1 _).setOne 2 _).setOne 3 _).setOne 4 _).setOne 5 _).setOne 6 _⟩;have:=((((((h.set_ 0 v0).set_ 1 v1).set_ 2 v2).set_ 3 v3).set_ 4 v4).set_ 5 v5).set_ 6 v6
 simpa only[List.set_cons_zero,List.set_cons_succ]using this
set_option maxRecDepth 100000 in
set_option maxHeartbeats 1000000 in
theorem Zkb (F:Nat→Prop) (w:World) (A:Option Addr) (c:Nat) (l:List Edge) (p:Int) (h:Walk F w A l) (hl:l.length≤2000):Calls Tryz.prog 15 #[.slice A l.length c,.int .i64 p] w (ToldW w (ZX l p)):=by
 obtain⟨M,hM⟩:∃M,Zac p=M:=⟨_,rfl⟩;obtain⟨T,hT⟩:∃T,ZaI p=T:=⟨_,rfl⟩;have PM:=Qh (fun W=>Zsn W p);rw[hM,hT]at PM;unfold ZX;rw[hM,hT];clear hM hT;obtain⟨z,hz⟩:∃z,w.heap.size=z:=⟨_,rfl⟩;obtain⟨wb,hwb⟩:∃wb,w.alloc (.cells #[.int .i64 0,.slice none 0 0,.int .i64 0,.int .i64 0,.int .i64 0,.int .i64 0,.int .i64 0] 40)=wb:=⟨_,rfl⟩;have u0:Upd No w wb:=by rw[←hwb];exact(Upd.refl No w).alloc _
 have bW:Blk wb z 40 [.int .i64 0,.slice none 0 0,.int .i64 0,.int .i64 0,.int .i64 0,.int .i64 0,.int .i64 0]:=by rw[←hwb,←hz];exact Blk.new w _ _
 have c0:∀W,Upd No wb W→W.cell? ⟨z,0,none⟩=some (.int .i64 0):=fun W u=>(bW.upd u id).cell 0
 have f0:∀W,Upd No wb W→W.frozen? ⟨z,0,none⟩=false:=fun W u=>(bW.upd u id).free 0
 have f1:∀W,Upd No wb W→W.frozen? ⟨z,1,none⟩=false:=fun W u=>(bW.upd u id).free 1
 have f2:∀W,Upd No wb W→W.frozen? ⟨z,2,none⟩=false:=fun W u=>(bW.upd u id).free 2
 have f3:∀W,Upd No wb W→W.frozen? ⟨z,3,none⟩=false:=fun W u=>(bW.upd u id).free 3
 have f4:∀W,Upd No wb W→W.frozen? ⟨z,4,none⟩=false:=fun W u=>(bW.upd u id).free 4
 have f5:∀W,Upd No wb W→W.frozen? ⟨z,5,none⟩=false:=fun W u=>(bW.upd u id).free 5
 have f6:∀W,Upd No wb W→W.frozen? ⟨z,6,none⟩=false:=fun W u=>(bW.upd u id).free 6
 have e0:∀W,Upd No wb W→W.cell? ⟨z,1,none⟩=some (.slice none 0 0):=fun W u=>(bW.upd u id).cell 1
 have e2:∀W,Upd No wb W→W.cell? ⟨z,2,none⟩=some (.int .i64 0):=fun W u=>(bW.upd u id).cell 2
 have e3:∀W,Upd No wb W→W.cell? ⟨z,3,none⟩=some (.int .i64 0):=fun W u=>(bW.upd u id).cell 3
 have e4:∀W,Upd No wb W→W.cell? ⟨z,4,none⟩=some (.int .i64 0):=fun W u=>(bW.upd u id).cell 4
 have e5:∀W,Upd No wb W→W.cell? ⟨z,5,none⟩=some (.int .i64 0):=fun W u=>(bW.upd u id).cell 5
 have e6:∀W,Upd No wb W→W.cell? ⟨z,6,none⟩=some (.int .i64 0):=fun W u=>(bW.upd u id).cell 6
 have BW:=Qh bW;have HZ:=Qh hz;have U0:=Qh u0;have hbz:Upd No wb wb:=Upd.refl _ _;clear bW u0
 by_cases hm:M=0
 ·subst hm;rw[if_pos rfl]
  go_enter Tryz.func15,Tryz.ntmps15
  go_wp2_with fail
  refine(PM.out _).mono ?_;rintro e w1 ⟨rfl,rfl⟩;go_wp2;obtain⟨b7,u7⟩:=Zex (BW.out.upd hbz id) (.int .i64 0) (.slice none 0 0) (.int .i64 0) (.int .i64 0) (.int .i64 0) (.int .i64 0) (.int .i64 0);have r0:=b7.cell 0;have r1:=b7.cell 1;have r2:=b7.cell 2;have r3:=b7.cell 3;have r4:=b7.cell 4;have r5:=b7.cell 5;have r6:=b7.cell 6;simp only[Qz,Qs]at r0 r1 r2 r3 r4 r5 r6;refine bodyPost_ret (v:= .tuple #[.agg #[.int .i64 0,.slice none 0 0,.int .i64 0,.int .i64 0,.int .i64 0,.int .i64 0,.int .i64 0],.bool false]) (by simp[results,Tryz.results15,go_sem,r0,r1,r2,r3,r4,r5,r6]) rfl ?_;have uE:=(U0.out.trans hbz).then_ u7 (fun i e=>Or.inr (by have:=HZ.out;unfold One at e;omega));exact⟨none,0,rfl,ZcU,uE⟩
 ·rw[if_neg hm];have hmb:(M==0)=false:=by simpa using hm
  have CS:=Qh (Zo5 F wb A c l M T (Recs.upd h U0.out (fun _ _=>id)) hl)
  by_cases hd:ZI l M T=[]
  ·rw[if_pos hd];have HD:=Qh hd;clear hd hm
   go_enter Tryz.func15,Tryz.ntmps15
   go_wp2_with fail
   refine(PM.out _).mono ?_;rintro e w1 ⟨rfl,rfl⟩
   go_wp2_with fail
   refine CS.out.mono ?_;rintro e w2 h2;obtain⟨A2,c2,rfl,hu2⟩:=h2.no HD.out;go_wp2;obtain⟨b7,u7⟩:=Zex (BW.out.upd hu2 id) (.int .i64 0) (.slice none 0 0) (.int .i64 0) (.int .i64 0) (.int .i64 0) (.int .i64 0) (.int .i64 0);have r0:=b7.cell 0;have r1:=b7.cell 1;have r2:=b7.cell 2;have r3:=b7.cell 3;have r4:=b7.cell 4;have r5:=b7.cell 5;have r6:=b7.cell 6;simp only[Qz,Qs]at r0 r1 r2 r3 r4 r5 r6;refine bodyPost_ret (v:= .tuple #[.agg #[.int .i64 0,.slice none 0 0,.int .i64 0,.int .i64 0,.int .i64 0,.int .i64 0,.int .i64 0],.bool false]) (by simp[results,Tryz.results15,go_sem,r0,r1,r2,r3,r4,r5,r6]) rfl ?_;have uE:=(U0.out.trans hu2).then_ u7 (fun i e=>Or.inr (by have:=HZ.out;unfold One at e;omega));exact⟨none,0,rfl,ZcU,uE⟩
  ·rw[if_neg hd];obtain⟨d,hdd⟩:∃d,ZI l M T=d:=⟨_,rfl⟩;rw[hdd]at hd CS ⊢;have HD:=Qh hd;clear hd hm hdd
   go_enter Tryz.func15,Tryz.ntmps15
   go_wp2_with fail
   refine(PM.out _).mono ?_;rintro e w1 ⟨rfl,rfl⟩
   go_wp2_with fail
   refine CS.out.mono ?_;rintro e w2 h2;obtain⟨A2,c2,rfl,hx2,hu2⟩:=h2.yes HD.out;have HX:=Qh hx2;clear hx2 h2;go_wp2;obtain⟨b7,u7⟩:=Zex (BW.out.upd hu2 id) (.int .i64 p) (.slice A2 d.length c2) (.int .i64 0) (.int .i64 0) (.int .i64 0) (.int .i64 0) (.int .i64 0);have r0:=b7.cell 0;have r1:=b7.cell 1;have r2:=b7.cell 2;have r3:=b7.cell 3;have r4:=b7.cell 4;have r5:=b7.cell 5;have r6:=b7.cell 6;simp only[Qz,Qs]at r0 r1 r2 r3 r4 r5 r6;refine bodyPost_ret (v:= .tuple #[.agg #[.int .i64 p,.slice A2 d.length c2,.int .i64 0,.int .i64 0,.int .i64 0,.int .i64 0,.int .i64 0],.bool true]) (by simp[results,Tryz.results15,go_sem,r0,r1,r2,r3,r4,r5,r6]) rfl ?_;have uE:=(U0.out.trans hu2).then_ u7 (fun i e=>Or.inr (by have:=HZ.out;unfold One at e;omega));exact⟨A2,c2,rfl,Recs.weak (Recs.upd HX.out u7 (fun i (hi:wb.heap.size≤i) (e:i=z)=>by have:=BW.out.lt;omega)) (fun i _ (hi:wb.heap.size≤i)=>Nat.le_trans U0.out.size hi),uE⟩
end
/- Witnesses of reads and of histories;which one is ahead,and whether two are one. -/
section
open Go.RowKit
theorem ZnD {w:World} {base:Nat} {A:Option Addr} {c:Nat} {b:HBad} {l:List HBad} (h:w.ownsRow base 38 5 (.slice A (b::l).length c) (b::l).length ((b::l).map HBad.cells).flatten):
  ∃g,A=some ⟨g,0,none⟩∧base≤g∧g<w.heap.size∧w.cell? ⟨g,0,none⟩=some (.int .i64 b.tx)∧w.cell? ⟨g,1,none⟩=some (.int .i64 b.place)∧w.cell? ⟨g,2,none⟩=some (.int .i64 b.of.tx)∧w.cell? ⟨g,3,none⟩=some (.int .i64 b.of.key)∧w.cell? ⟨g,4,none⟩=some (.int .i64 b.of.nth):=by
 obtain⟨ad,e,q0,q1,q2,q3,q4⟩:=(ZlB h).at_ (k:=0) (by simp);rcases h.2 with ⟨h',hn⟩|⟨g,cap,cur,hv,hb,hg,hnc,hcm,hcs,htake⟩
 ·cases hn
 ·cases hv
  cases e
  have hg2:=h.lt g rfl;exact⟨g,rfl,hg2.1,hg2.2,q0,q1,q2,q3,q4⟩
set_option maxRecDepth 100000 in
set_option maxHeartbeats 1000000 in
theorem ZqL (F:Nat→Prop) (w:World) (txs:List HTx) (ords:List HOrd) (A:Option Addr) (c:Nat) (B:Option Addr) (d:Nat) (p:Int) (H:Hist.lies F w ⟨txs,ords,A,c,B,d⟩):
  Calls Tryz.prog 55 #[.agg #[.slice A txs.length c,.slice B ords.length d],.int .i64 p] w (ToldW w (ZdD (Zcq ⟨txs,ords,A,c,B,d⟩ p) p)):=by
 obtain⟨wh,hwh⟩:∃wh,w.alloc (.cells #[.slice A txs.length c,.slice B ords.length d] 50)=wh:=⟨_,rfl⟩;have uh:Upd No w wh:=by rw[←hwh];exact(Upd.refl No w).alloc _
 have bH:Blk wh w.heap.size 50 [.slice A txs.length c,.slice B ords.length d]:=by rw[←hwh];exact Blk.new w _ _
 obtain⟨z,hz⟩:∃z,wh.heap.size=z:=⟨_,rfl⟩;obtain⟨wb,hwb⟩:∃wb,wh.alloc (.cells #[.int .i64 0,.slice none 0 0,.int .i64 0,.int .i64 0,.int .i64 0,.int .i64 0,.int .i64 0] 40)=wb:=⟨_,rfl⟩;have u0:Upd No wh wb:=by rw[←hwb];exact(Upd.refl No wh).alloc _
 have bW:Blk wb z 40 [.int .i64 0,.slice none 0 0,.int .i64 0,.int .i64 0,.int .i64 0,.int .i64 0,.int .i64 0]:=by rw[←hwb,←hz];exact Blk.new wh _ _
 have c0:∀W,Upd No wb W→W.cell? ⟨z,0,none⟩=some (.int .i64 0):=fun W u=>(bW.upd u id).cell 0
 have f0:∀W,Upd No wb W→W.frozen? ⟨z,0,none⟩=false:=fun W u=>(bW.upd u id).free 0
 have f1:∀W,Upd No wb W→W.frozen? ⟨z,1,none⟩=false:=fun W u=>(bW.upd u id).free 1
 have f2:∀W,Upd No wb W→W.frozen? ⟨z,2,none⟩=false:=fun W u=>(bW.upd u id).free 2
 have f3:∀W,Upd No wb W→W.frozen? ⟨z,3,none⟩=false:=fun W u=>(bW.upd u id).free 3
 have f4:∀W,Upd No wb W→W.frozen? ⟨z,4,none⟩=false:=fun W u=>(bW.upd u id).free 4
 have f5:∀W,Upd No wb W→W.frozen? ⟨z,5,none⟩=false:=fun W u=>(bW.upd u id).free 5
 have f6:∀W,Upd No wb W→W.frozen? ⟨z,6,none⟩=false:=fun W u=>(bW.upd u id).free 6
 have e0:∀W,Upd No wb W→W.cell? ⟨z,1,none⟩=some (.slice none 0 0):=fun W u=>(bW.upd u id).cell 1
 have e2:∀W,Upd No wb W→W.cell? ⟨z,2,none⟩=some (.int .i64 0):=fun W u=>(bW.upd u id).cell 2
 have e3:∀W,Upd No wb W→W.cell? ⟨z,3,none⟩=some (.int .i64 0):=fun W u=>(bW.upd u id).cell 3
 have e4:∀W,Upd No wb W→W.cell? ⟨z,4,none⟩=some (.int .i64 0):=fun W u=>(bW.upd u id).cell 4
 have e5:∀W,Upd No wb W→W.cell? ⟨z,5,none⟩=some (.int .i64 0):=fun W u=>(bW.upd u id).cell 5
 have e6:∀W,Upd No wb W→W.cell? ⟨z,6,none⟩=some (.int .i64 0):=fun W u=>(bW.upd u id).cell 6
 have BW:=Qh bW;have HZ:=Qh hz;have U0:=Qh u0;have hbz:Upd No wb wb:=Upd.refl _ _;clear bW u0;have h0:∀W,Upd No wb W→W.cell? ⟨w.heap.size,0,none⟩=some (.slice A txs.length c):=fun W u=>(bH.upd (U0.out.trans u) id).cell 0
 have h1:∀W,Upd No wb W→W.cell? ⟨w.heap.size,1,none⟩=some (.slice B ords.length d):=fun W u=>(bH.upd (U0.out.trans u) id).cell 1
 have HH:=Qh (H.upd (uh.trans U0.out) (fun _ _=>id));have UH:=Qh uh;clear bH uh H;obtain⟨l,hl⟩:∃l,Zcq ⟨txs,ords,A,c,B,d⟩ p=l:=⟨_,rfl⟩;have CO:=Qh (oOf F wb txs ords A c B d p HH.out);rw[hl]at CO ⊢;clear hl
 cases l with
 |nil=>
  go_enter Tryz.func55,Tryz.ntmps55
  go_wp2_with fail
  refine(CO.out).mono ?_;rintro e w1 ⟨A1,c1,rfl,ho,hu1⟩;go_wp2;obtain⟨b7,u7⟩:=Zex (BW.out.upd hu1 id) (.int .i64 0) (.slice none 0 0) (.int .i64 0) (.int .i64 0) (.int .i64 0) (.int .i64 0) (.int .i64 0);have r0:=b7.cell 0;have r1:=b7.cell 1;have r2:=b7.cell 2;have r3:=b7.cell 3;have r4:=b7.cell 4;have r5:=b7.cell 5;have r6:=b7.cell 6;simp only[Qz,Qs]at r0 r1 r2 r3 r4 r5 r6;refine bodyPost_ret (v:= .tuple #[.agg #[.int .i64 0,.slice none 0 0,.int .i64 0,.int .i64 0,.int .i64 0,.int .i64 0,.int .i64 0],.bool false]) (by simp[results,Tryz.results55,go_sem,r0,r1,r2,r3,r4,r5,r6]) rfl ?_;have uE:=(U0.out.trans hu1).then_ u7 (fun i e=>Or.inr (by have:=HZ.out;unfold One at e;omega));exact⟨none,0,rfl,ZcU,UH.out.trans uE⟩
 |cons b l=>
  obtain⟨bx,bp,⟨bt,bk,bn⟩⟩:=b;have hlen:(((⟨bx,bp,⟨bt,bk,bn⟩⟩:HBad)::l).length==0)=false:=by simp
  have hlen2:((((⟨bx,bp,⟨bt,bk,bn⟩⟩:HBad)::l).length:Nat):Int)≠0:=by simp only[List.length_cons];omega
  obtain⟨n,hn⟩:∃n,((⟨bx,bp,⟨bt,bk,bn⟩⟩:HBad)::l).length=n:=⟨_,rfl⟩;have hn0:(0:Int)<(n:Int):=by rw[←hn];simp only[List.length_cons];omega
  have hn1:((n:Int)==0)=false:=by rw[beq_eq_false_iff_ne];omega
  have HN:=Qh hn;clear hlen hlen2 hn
  go_enter Tryz.func55,Tryz.ntmps55
  go_wp2_with fail
  refine(CO.out).mono ?_;rintro e w1 ⟨A1,c1,rfl,ho,hu1⟩;obtain⟨g,rfl,hg1,hg2,q0,q1,q2,q3,q4⟩:=ZnD ho;rw[HN.out];simp only at q0 q1 q2 q3 q4;clear ho;go_wp2;obtain⟨b7,u7⟩:=Zex (BW.out.upd hu1 id) (.int .i64 p) (.slice none 0 0) (.int .i64 bx) (.int .i64 bp) (.int .i64 bt) (.int .i64 bk) (.int .i64 bn);have r0:=b7.cell 0;have r1:=b7.cell 1;have r2:=b7.cell 2;have r3:=b7.cell 3;have r4:=b7.cell 4;have r5:=b7.cell 5;have r6:=b7.cell 6;simp only[Qz,Qs]at r0 r1 r2 r3 r4 r5 r6;refine bodyPost_ret (v:= .tuple #[.agg #[.int .i64 p,.slice none 0 0,.int .i64 bx,.int .i64 bp,.int .i64 bt,.int .i64 bk,.int .i64 bn],.bool true]) (by simp[results,Tryz.results55,go_sem,r0,r1,r2,r3,r4,r5,r6]) rfl ?_;have uE:=(U0.out.trans hu1).then_ u7 (fun i e=>Or.inr (by have:=HZ.out;unfold One at e;omega));exact⟨none,0,rfl,ZcU,UH.out.trans uE⟩
end
/- Witnesses of histories;which one is ahead,and whether two are one. -/
section
open Go.RowKit
theorem ZkS {h:Hist} {p:Int} (hp:p=2∨p=3):ofX h p=ZdD (Zcq h p) p:=by unfold ofX;rw[if_pos hp]
theorem Zp0 {h:Hist} {p:Int} (hp:¬(p=2∨p=3)):ofX h p=ZX (ZbG (ZaA h)) p:=by unfold ofX;rw[if_neg hp]
theorem ToldW.parts {w:World} {x:HWit×Bool} {e:Ending} {w':World} (h:ToldW w x e w') {p r0 r1 r2 r3 r4:Int} {d:List Edge} {b:Bool} (hx:x=(⟨p,d,⟨r0,r1,⟨r2,r3,r4⟩⟩⟩,b)):
  ∃A c,e= .returned (.tuple #[.agg #[.int .i64 p,.slice A d.length c,.int .i64 r0,.int .i64 r1,.int .i64 r2,.int .i64 r3,.int .i64 r4],.bool b])∧Walk (fun i=>w.heap.size≤i) w' A d∧Upd No w w':=by
 subst hx;exact h
set_option maxRecDepth 100000 in
set_option maxHeartbeats 1000000 in
theorem wOf (F:Nat→Prop) (w:World) (txs:List HTx) (ords:List HOrd) (A:Option Addr) (c:Nat) (B:Option Addr) (d:Nat) (p:Int) (H:Hist.lies F w ⟨txs,ords,A,c,B,d⟩) (hl:Zci ⟨txs,ords,A,c,B,d⟩=true):
  Calls Tryz.prog 19 #[.agg #[.slice A txs.length c,.slice B ords.length d],.int .i64 p] w (ToldW w (ofX ⟨txs,ords,A,c,B,d⟩ p)):=by
 have hfew:=ZoV hl;obtain⟨n1,n2⟩:=ZjA hl;obtain⟨wh,hwh⟩:∃wh,w.alloc (.cells #[.slice A txs.length c,.slice B ords.length d] 50)=wh:=⟨_,rfl⟩;have uh:Upd No w wh:=by rw[←hwh];exact(Upd.refl No w).alloc _
 have bH:Blk wh w.heap.size 50 [.slice A txs.length c,.slice B ords.length d]:=by rw[←hwh];exact Blk.new w _ _
 obtain⟨z,hz⟩:∃z,wh.heap.size=z:=⟨_,rfl⟩;obtain⟨wb,hwb⟩:∃wb,wh.alloc (.cells #[.int .i64 0,.slice none 0 0,.int .i64 0,.int .i64 0,.int .i64 0,.int .i64 0,.int .i64 0] 40)=wb:=⟨_,rfl⟩;have u0:Upd No wh wb:=by rw[←hwb];exact(Upd.refl No wh).alloc _
 have bW:Blk wb z 40 [.int .i64 0,.slice none 0 0,.int .i64 0,.int .i64 0,.int .i64 0,.int .i64 0,.int .i64 0]:=by rw[←hwb,←hz];exact Blk.new wh _ _
 have c0:∀W,Upd No wb W→W.cell? ⟨z,0,none⟩=some (.int .i64 0):=fun W u=>(bW.upd u id).cell 0
 have f0:∀W,Upd No wb W→W.frozen? ⟨z,0,none⟩=false:=fun W u=>(bW.upd u id).free 0
 have f1:∀W,Upd No wb W→W.frozen? ⟨z,1,none⟩=false:=fun W u=>(bW.upd u id).free 1
 have f2:∀W,Upd No wb W→W.frozen? ⟨z,2,none⟩=false:=fun W u=>(bW.upd u id).free 2
 have f3:∀W,Upd No wb W→W.frozen? ⟨z,3,none⟩=false:=fun W u=>(bW.upd u id).free 3
 have f4:∀W,Upd No wb W→W.frozen? ⟨z,4,none⟩=false:=fun W u=>(bW.upd u id).free 4
 have f5:∀W,Upd No wb W→W.frozen? ⟨z,5,none⟩=false:=fun W u=>(bW.upd u id).free 5
 have f6:∀W,Upd No wb W→W.frozen? ⟨z,6,none⟩=false:=fun W u=>(bW.upd u id).free 6
 have e0:∀W,Upd No wb W→W.cell? ⟨z,1,none⟩=some (.slice none 0 0):=fun W u=>(bW.upd u id).cell 1
 have e2:∀W,Upd No wb W→W.cell? ⟨z,2,none⟩=some (.int .i64 0):=fun W u=>(bW.upd u id).cell 2
 have e3:∀W,Upd No wb W→W.cell? ⟨z,3,none⟩=some (.int .i64 0):=fun W u=>(bW.upd u id).cell 3
 have e4:∀W,Upd No wb W→W.cell? ⟨z,4,none⟩=some (.int .i64 0):=fun W u=>(bW.upd u id).cell 4
 have e5:∀W,Upd No wb W→W.cell? ⟨z,5,none⟩=some (.int .i64 0):=fun W u=>(bW.upd u id).cell 5
 have e6:∀W,Upd No wb W→W.cell? ⟨z,6,none⟩=some (.int .i64 0):=fun W u=>(bW.upd u id).cell 6
 have BW:=Qh bW;have HZ:=Qh hz;have U0:=Qh u0;have hbz:Upd No wb wb:=Upd.refl _ _;clear bW u0;have h0:∀W,Upd No wb W→W.cell? ⟨w.heap.size,0,none⟩=some (.slice A txs.length c):=fun W u=>(bH.upd (U0.out.trans u) id).cell 0
 have h1:∀W,Upd No wb W→W.cell? ⟨w.heap.size,1,none⟩=some (.slice B ords.length d):=fun W u=>(bH.upd (U0.out.trans u) id).cell 1
 have HH:=Qh (H.upd (uh.trans U0.out) (fun _ _=>id));have UH:=Qh uh;clear bH uh H
 by_cases p2:p=2
 ·subst p2;have CR:=Qh (ZqL F wb txs ords A c B d 2 HH.out);obtain⟨⟨⟨xp,xw,⟨y0,y1,⟨y2,y3,y4⟩⟩⟩,xb⟩,hx⟩:∃x,ZdD (Zcq ⟨txs,ords,A,c,B,d⟩ 2) 2=x:=⟨_,rfl⟩
  have hxw:xw=[]:=by
   cases hl:Zcq ⟨txs,ords,A,c,B,d⟩ 2 with
   |nil=>rw[hl]at hx;unfold ZdD Zcm at hx;simp only[Prod.mk.injEq,HWit.mk.injEq]at hx;exact hx.1.2.1.symm
   |cons b l=>rw[hl]at hx;unfold ZdD at hx;simp only[Prod.mk.injEq,HWit.mk.injEq]at hx;exact hx.1.2.1.symm
  subst hxw;rw[ZkS (by decide),hx];rw[hx]at CR;clear hx
  go_enter Tryz.func19,Tryz.ntmps19
  go_wp2_with fail
  refine CR.out.mono ?_;rintro e w1 hh;obtain⟨A1,c1,rfl,_,hu1⟩:=hh.parts rfl;go_wp2;obtain⟨b7,u7⟩:=Zex (BW.out.upd hu1 id) (.int .i64 xp) (.slice A1 0 c1) (.int .i64 y0) (.int .i64 y1) (.int .i64 y2) (.int .i64 y3) (.int .i64 y4);have r0:=b7.cell 0;have r1:=b7.cell 1;have r2:=b7.cell 2;have r3:=b7.cell 3;have r4:=b7.cell 4;have r5:=b7.cell 5;have r6:=b7.cell 6;simp only[Qz,Qs]at r0 r1 r2 r3 r4 r5 r6;refine bodyPost_ret (v:= .tuple #[.agg #[.int .i64 xp,.slice A1 0 c1,.int .i64 y0,.int .i64 y1,.int .i64 y2,.int .i64 y3,.int .i64 y4],.bool xb]) (by simp[results,Tryz.results19,go_sem,r0,r1,r2,r3,r4,r5,r6]) rfl ?_;have uE:=(U0.out.trans hu1).then_ u7 (fun i e=>Or.inr (by have:=HZ.out;unfold One at e;omega));exact⟨A1,c1,rfl,ZcU,UH.out.trans uE⟩
 by_cases p3:p=3
 ·subst p3;have CR:=Qh (ZqL F wb txs ords A c B d 3 HH.out);obtain⟨⟨⟨xp,xw,⟨y0,y1,⟨y2,y3,y4⟩⟩⟩,xb⟩,hx⟩:∃x,ZdD (Zcq ⟨txs,ords,A,c,B,d⟩ 3) 3=x:=⟨_,rfl⟩
  have hxw:xw=[]:=by
   cases hl:Zcq ⟨txs,ords,A,c,B,d⟩ 3 with
   |nil=>rw[hl]at hx;unfold ZdD Zcm at hx;simp only[Prod.mk.injEq,HWit.mk.injEq]at hx;exact hx.1.2.1.symm
   |cons b l=>rw[hl]at hx;unfold ZdD at hx;simp only[Prod.mk.injEq,HWit.mk.injEq]at hx;exact hx.1.2.1.symm
  subst hxw;rw[ZkS (by decide),hx];rw[hx]at CR;clear hx
  go_enter Tryz.func19,Tryz.ntmps19
  go_wp2_with fail
  refine CR.out.mono ?_;rintro e w1 hh;obtain⟨A1,c1,rfl,_,hu1⟩:=hh.parts rfl;go_wp2;obtain⟨b7,u7⟩:=Zex (BW.out.upd hu1 id) (.int .i64 xp) (.slice A1 0 c1) (.int .i64 y0) (.int .i64 y1) (.int .i64 y2) (.int .i64 y3) (.int .i64 y4);have r0:=b7.cell 0;have r1:=b7.cell 1;have r2:=b7.cell 2;have r3:=b7.cell 3;have r4:=b7.cell 4;have r5:=b7.cell 5;have r6:=b7.cell 6;simp only[Qz,Qs]at r0 r1 r2 r3 r4 r5 r6;refine bodyPost_ret (v:= .tuple #[.agg #[.int .i64 xp,.slice A1 0 c1,.int .i64 y0,.int .i64 y1,.int .i64 y2,.int .i64 y3,.int .i64 y4],.bool xb]) (by simp[results,Tryz.results19,go_sem,r0,r1,r2,r3,r4,r5,r6]) rfl ?_;have uE:=(U0.out.trans hu1).then_ u7 (fun i e=>Or.inr (by have:=HZ.out;unfold One at e;omega));exact⟨A1,c1,rfl,ZcU,UH.out.trans uE⟩
 have q2:(p==2)=false:=by simpa using p2
 have q3:(p==3)=false:=by simpa using p3
 rw[Zp0 (by omega)];obtain⟨l,hll⟩:∃l,ZaA ⟨txs,ords,A,c,B,d⟩=l:=⟨_,rfl⟩;have C1:=Qh (Zr8 HH.out n1 n2 rfl rfl hll rfl);rw[hll]at hfew ⊢;obtain⟨pl,hpl⟩:∃pl,ZbG l=pl:=⟨_,rfl⟩;have hpn:pl.length=l.length:=by rw[←hpl];unfold ZbG;rw[List.length_map]
 have HPL:=Qh hpl;rw[hpl];have HPN:=Qh hpn;have HF:=Qh hfew;obtain⟨⟨⟨xp,xw,⟨y0,y1,⟨y2,y3,y4⟩⟩⟩,xb⟩,hx⟩:∃x,ZX pl p=x:=⟨_,rfl⟩;rw[hx];have HXX:=Qh hx;clear hx hll hpl hpn p2 p3 n1 n2 hfew
 go_enter Tryz.func19,Tryz.ntmps19
 go_wp2_with fail
 refine(C1.out).mono ?_;rintro e w1 ⟨A1,c1,rfl,hx1,hu1⟩;have C2:=Qh (Zr7 (c:=c1) hx1 (by have:=HF.out;omega) rfl HPL.out rfl)
 go_wp2_with fail
 refine(C2.out).mono ?_;rintro e w2 ⟨A2,c2,rfl,⟨G,hx2⟩,hu2⟩;have hu12:=hu1.trans hu2;have HS12:=Qh hu12.size;have C3:=Qh (Zkb G w2 A2 c2 pl p hx2 (by have:=HF.out;have:=HPN.out;omega));clear hx1 hx2 hu1 hu2;rw[HXX.out]at C3
 go_wp2_with fail
 refine C3.out.mono ?_;rintro e w3 hh;obtain⟨A3,c3,rfl,hx3,hu3⟩:=hh.parts rfl;have hu13:=hu12.trans hu3;have HX:=Qh hx3;clear hx3 hh hu12 hu3;go_wp2;obtain⟨b7,u7⟩:=Zex (BW.out.upd hu13 id) (.int .i64 xp) (.slice A3 xw.length c3) (.int .i64 y0) (.int .i64 y1) (.int .i64 y2) (.int .i64 y3) (.int .i64 y4);have r0:=b7.cell 0;have r1:=b7.cell 1;have r2:=b7.cell 2;have r3:=b7.cell 3;have r4:=b7.cell 4;have r5:=b7.cell 5;have r6:=b7.cell 6;simp only[Qz,Qs]at r0 r1 r2 r3 r4 r5 r6;refine bodyPost_ret (v:= .tuple #[.agg #[.int .i64 xp,.slice A3 xw.length c3,.int .i64 y0,.int .i64 y1,.int .i64 y2,.int .i64 y3,.int .i64 y4],.bool xb]) (by simp[results,Tryz.results19,go_sem,r0,r1,r2,r3,r4,r5,r6]) rfl ?_;have uE:=(U0.out.trans hu13).then_ u7 (fun i e=>Or.inr (by have:=HZ.out;unfold One at e;omega));exact⟨A3,c3,rfl,Recs.weak (Recs.upd HX.out u7 (fun i (hi:w2.heap.size≤i) (e:i=z)=>by have:=BW.out.lt;have:=HS12.out;omega)) (fun i _ (hi:w2.heap.size≤i)=>Nat.le_trans (UH.out.trans U0.out).size (Nat.le_trans HS12.out hi)),UH.out.trans uE⟩
end
/- Witnesses:which one is ahead,and whether two are one. -/
section
open Go.RowKit
section
variable (w:World) (A B:Option Addr) (c d:Nat) (a b:HWit)
set_option maxRecDepth 100000 in
theorem Zs7 (ha:EdX w A a.walk) (hb:EdX w B b.walk) (la:a.walk.length≤100000) (lb:b.walk.length≤100000):
  Calls Tryz.prog 16 #[.agg (a.at_ A c).toArray,.agg (b.at_ B d).toArray] w fun e w'=>e= .returned (.bool (Zdc a b))∧Upd No w w':=by
 obtain⟨v,hv⟩:∃v,Zdc a b=v:=⟨_,rfl⟩;rw[hv];unfold Zdc at hv;obtain⟨ap,aw,⟨a0,a1,⟨a2,a3,a4⟩⟩⟩:=a;obtain⟨bp,bw,⟨b0,b1,⟨b2,b3,b4⟩⟩⟩:=b;unfold HWit.at_;simp only at ha hb la lb ⊢;obtain⟨z,hz⟩:∃z,w.heap.size=z:=⟨_,rfl⟩;obtain⟨w1,hw1⟩:∃w1,w.alloc (.cells #[.int .i64 ap,.slice A aw.length c,.int .i64 a0,.int .i64 a1,.int .i64 a2,.int .i64 a3,.int .i64 a4] 40)=w1:=⟨_,rfl⟩;have s1:w1.heap.size=z+1:=by rw[←hw1,←hz];simp
 obtain⟨wb,hwb⟩:∃wb,w1.alloc (.cells #[.int .i64 bp,.slice B bw.length d,.int .i64 b0,.int .i64 b1,.int .i64 b2,.int .i64 b3,.int .i64 b4] 40)=wb:=⟨_,rfl⟩;have u1:Upd No w w1:=by rw[←hw1];exact(Upd.refl No w).alloc _
 have u2:Upd No w1 wb:=by rw[←hwb];exact(Upd.refl No w1).alloc _
 have k1:Blk w1 z 40 [.int .i64 ap,.slice A aw.length c,.int .i64 a0,.int .i64 a1,.int .i64 a2,.int .i64 a3,.int .i64 a4]:=by rw[←hw1,←hz];exact Blk.new w _ _
 have k2:Blk wb (z+1) 40 [.int .i64 bp,.slice B bw.length d,.int .i64 b0,.int .i64 b1,.int .i64 b2,.int .i64 b3,.int .i64 b4]:=by rw[←hwb,←s1];exact Blk.new w1 _ _
 have x0:∀W,Upd No wb W→W.cell? ⟨z,0,none⟩=some (.int .i64 ap):=fun W u=>(k1.upd (u2.trans u) id).cell 0
 have x1:∀W,Upd No wb W→W.cell? ⟨z,1,none⟩=some (.slice A aw.length c):=fun W u=>(k1.upd (u2.trans u) id).cell 1
 have x2:∀W,Upd No wb W→W.cell? ⟨z,2,none⟩=some (.int .i64 a0):=fun W u=>(k1.upd (u2.trans u) id).cell 2
 have x3:∀W,Upd No wb W→W.cell? ⟨z,3,none⟩=some (.int .i64 a1):=fun W u=>(k1.upd (u2.trans u) id).cell 3
 have x4:∀W,Upd No wb W→W.cell? ⟨z,4,none⟩=some (.int .i64 a2):=fun W u=>(k1.upd (u2.trans u) id).cell 4
 have x5:∀W,Upd No wb W→W.cell? ⟨z,5,none⟩=some (.int .i64 a3):=fun W u=>(k1.upd (u2.trans u) id).cell 5
 have x6:∀W,Upd No wb W→W.cell? ⟨z,6,none⟩=some (.int .i64 a4):=fun W u=>(k1.upd (u2.trans u) id).cell 6
 have y0:∀W,Upd No wb W→W.cell? ⟨z+1,0,none⟩=some (.int .i64 bp):=fun W u=>(k2.upd u id).cell 0
 have y1:∀W,Upd No wb W→W.cell? ⟨z+1,1,none⟩=some (.slice B bw.length d):=fun W u=>(k2.upd u id).cell 1
 have y2:∀W,Upd No wb W→W.cell? ⟨z+1,2,none⟩=some (.int .i64 b0):=fun W u=>(k2.upd u id).cell 2
 have y3:∀W,Upd No wb W→W.cell? ⟨z+1,3,none⟩=some (.int .i64 b1):=fun W u=>(k2.upd u id).cell 3
 have y4:∀W,Upd No wb W→W.cell? ⟨z+1,4,none⟩=some (.int .i64 b2):=fun W u=>(k2.upd u id).cell 4
 have y5:∀W,Upd No wb W→W.cell? ⟨z+1,5,none⟩=some (.int .i64 b3):=fun W u=>(k2.upd u id).cell 5
 have y6:∀W,Upd No wb W→W.cell? ⟨z+1,6,none⟩=some (.int .i64 b4):=fun W u=>(k2.upd u id).cell 6
 have hr:Upd No wb wb:=Upd.refl _ _;have U0:=Qh (u1.trans u2);have HA:=Qh (fun W (u:Upd No wb W)=>EdX.upd ha (U0.out.trans u));have HB:=Qh (fun W (u:Upd No wb W)=>EdX.upd hb (U0.out.trans u));clear u1 u2 k1 k2 ha hb;simp only at hv
 by_cases hs:aw=bw
 ·have CS:=Qh (ZmS (c:=c) (d:=d) (HA.out wb hr) (HB.out wb hr) (by omega) (by omega) rfl rfl (v:=true) (by rw[hs];simp));rw[if_pos hs]at hv;have CL:=Qh (fun W=>Zto W ⟨a0,a1,⟨a2,a3,a4⟩⟩ ⟨b0,b1,⟨b2,b3,b4⟩⟩);rw[hv]at CL;clear hs hv
  go_enter Tryz.func16,Tryz.ntmps16
  go_wp2_with fail
  refine(CS.out).mono ?_;rintro e w3 ⟨rfl,hu3⟩
  go_wp2_with fail
  refine(CL.out _).mono ?_;rintro e w4 ⟨rfl,hu4⟩;go_wp2
  go_ret
  exact⟨rfl,(U0.out.trans hu3).trans hu4⟩
 ·have CS:=Qh (ZmS (c:=c) (d:=d) (HA.out wb hr) (HB.out wb hr) (by omega) (by omega) rfl rfl (v:=false) (by simpa using hs));rw[if_neg hs]at hv;have CL:=Qh (fun W (u:Upd No wb W)=>Zts (c:=c) (d:=d) (HA.out W u) (HB.out W u) (by omega) rfl rfl hv);clear hs hv
  go_enter Tryz.func16,Tryz.ntmps16
  go_wp2_with fail
  refine(CS.out).mono ?_;rintro e w3 ⟨rfl,hu3⟩
  go_wp2_with fail
  refine(CL.out _ hu3).mono ?_;rintro e w4 ⟨rfl,hu4⟩;go_wp2
  go_ret
  exact⟨rfl,(U0.out.trans hu3).trans hu4⟩
set_option maxRecDepth 100000 in
theorem Zs6 (ha:EdX w A a.walk) (hb:EdX w B b.walk) (la:a.walk.length≤100000) (lb:b.walk.length≤100000):
  Calls Tryz.prog 17 #[.agg (a.at_ A c).toArray,.agg (b.at_ B d).toArray] w fun e w'=>e= .returned (.bool (decide (a=b)))∧Upd No w w':=by
 obtain⟨v,hv⟩:∃v,decide (a=b)=v:=⟨_,rfl⟩;rw[hv];obtain⟨ap,aw,⟨a0,a1,⟨a2,a3,a4⟩⟩⟩:=a;obtain⟨bp,bw,⟨b0,b1,⟨b2,b3,b4⟩⟩⟩:=b;unfold HWit.at_;simp only at ha hb la lb ⊢;obtain⟨z,hz⟩:∃z,w.heap.size=z:=⟨_,rfl⟩;obtain⟨w1,hw1⟩:∃w1,w.alloc (.cells #[.int .i64 ap,.slice A aw.length c,.int .i64 a0,.int .i64 a1,.int .i64 a2,.int .i64 a3,.int .i64 a4] 40)=w1:=⟨_,rfl⟩;have s1:w1.heap.size=z+1:=by rw[←hw1,←hz];simp
 obtain⟨wb,hwb⟩:∃wb,w1.alloc (.cells #[.int .i64 bp,.slice B bw.length d,.int .i64 b0,.int .i64 b1,.int .i64 b2,.int .i64 b3,.int .i64 b4] 40)=wb:=⟨_,rfl⟩;have u1:Upd No w w1:=by rw[←hw1];exact(Upd.refl No w).alloc _
 have u2:Upd No w1 wb:=by rw[←hwb];exact(Upd.refl No w1).alloc _
 have k1:Blk w1 z 40 [.int .i64 ap,.slice A aw.length c,.int .i64 a0,.int .i64 a1,.int .i64 a2,.int .i64 a3,.int .i64 a4]:=by rw[←hw1,←hz];exact Blk.new w _ _
 have k2:Blk wb (z+1) 40 [.int .i64 bp,.slice B bw.length d,.int .i64 b0,.int .i64 b1,.int .i64 b2,.int .i64 b3,.int .i64 b4]:=by rw[←hwb,←s1];exact Blk.new w1 _ _
 have x0:∀W,Upd No wb W→W.cell? ⟨z,0,none⟩=some (.int .i64 ap):=fun W u=>(k1.upd (u2.trans u) id).cell 0
 have x1:∀W,Upd No wb W→W.cell? ⟨z,1,none⟩=some (.slice A aw.length c):=fun W u=>(k1.upd (u2.trans u) id).cell 1
 have x2:∀W,Upd No wb W→W.cell? ⟨z,2,none⟩=some (.int .i64 a0):=fun W u=>(k1.upd (u2.trans u) id).cell 2
 have x3:∀W,Upd No wb W→W.cell? ⟨z,3,none⟩=some (.int .i64 a1):=fun W u=>(k1.upd (u2.trans u) id).cell 3
 have x4:∀W,Upd No wb W→W.cell? ⟨z,4,none⟩=some (.int .i64 a2):=fun W u=>(k1.upd (u2.trans u) id).cell 4
 have x5:∀W,Upd No wb W→W.cell? ⟨z,5,none⟩=some (.int .i64 a3):=fun W u=>(k1.upd (u2.trans u) id).cell 5
 have x6:∀W,Upd No wb W→W.cell? ⟨z,6,none⟩=some (.int .i64 a4):=fun W u=>(k1.upd (u2.trans u) id).cell 6
 have y0:∀W,Upd No wb W→W.cell? ⟨z+1,0,none⟩=some (.int .i64 bp):=fun W u=>(k2.upd u id).cell 0
 have y1:∀W,Upd No wb W→W.cell? ⟨z+1,1,none⟩=some (.slice B bw.length d):=fun W u=>(k2.upd u id).cell 1
 have y2:∀W,Upd No wb W→W.cell? ⟨z+1,2,none⟩=some (.int .i64 b0):=fun W u=>(k2.upd u id).cell 2
 have y3:∀W,Upd No wb W→W.cell? ⟨z+1,3,none⟩=some (.int .i64 b1):=fun W u=>(k2.upd u id).cell 3
 have y4:∀W,Upd No wb W→W.cell? ⟨z+1,4,none⟩=some (.int .i64 b2):=fun W u=>(k2.upd u id).cell 4
 have y5:∀W,Upd No wb W→W.cell? ⟨z+1,5,none⟩=some (.int .i64 b3):=fun W u=>(k2.upd u id).cell 5
 have y6:∀W,Upd No wb W→W.cell? ⟨z+1,6,none⟩=some (.int .i64 b4):=fun W u=>(k2.upd u id).cell 6
 have hr:Upd No wb wb:=Upd.refl _ _;have U0:=Qh (u1.trans u2);have HA:=Qh (fun W (u:Upd No wb W)=>EdX.upd ha (U0.out.trans u));have HB:=Qh (fun W (u:Upd No wb W)=>EdX.upd hb (U0.out.trans u));clear u1 u2 k1 k2 ha hb;simp only[HWit.mk.injEq]at hv;have HE:=fun W=>ZrX W ⟨a0,a1,⟨a2,a3,a4⟩⟩ ⟨b0,b1,⟨b2,b3,b4⟩⟩
 simp only at HE
 by_cases hp:ap=bp
 ·have e1:(ap==bp)=true:=by simpa using hp
  by_cases hq:(⟨a0,a1,⟨a2,a3,a4⟩⟩:HBad)=⟨b0,b1,⟨b2,b3,b4⟩⟩
  ·have he:((⟨a0,a1,⟨a2,a3,a4⟩⟩:HBad)==⟨b0,b1,⟨b2,b3,b4⟩⟩)=true:=by rw[beq_iff_eq];exact hq
   rw[he]at HE
   have hv2:(aw==bw)=v:=by
    rw[←hv]
    by_cases hw:aw=bw
    ·simp[hw,hp,hq]
    ·simp[hw]
   have CS:=Qh (fun W (u:Upd No wb W)=>ZmS (c:=c) (d:=d) (HA.out W u) (HB.out W u) (by omega) (by omega) rfl rfl hv2);clear hv hv2 hp hq he
   go_enter Tryz.func17,Tryz.ntmps17
   go_wp2_with fail
   refine(CS.out _ hr).mono ?_;rintro e w3 ⟨rfl,hu3⟩;go_wp2
   go_ret
   exact⟨rfl,U0.out.trans hu3⟩
  ·have he:((⟨a0,a1,⟨a2,a3,a4⟩⟩:HBad)==⟨b0,b1,⟨b2,b3,b4⟩⟩)=false:=by rw[beq_eq_false_iff_ne];exact hq
   rw[he]at HE;have HV:=Qh (show v=false by rw[←hv];exact decide_eq_false fun h=>hq h.2.2);clear hv hp hq he
   go_enter Tryz.func17,Tryz.ntmps17
   go_wp2
   go_ret
   exact⟨by have:=HV.out;subst this;rfl,U0.out⟩
 ·have e1:(ap==bp)=false:=by simpa using hp
  have HV:=Qh (show v=false by rw[←hv];exact decide_eq_false fun h=>hp h.1);clear hv hp
  go_enter Tryz.func17,Tryz.ntmps17
  go_wp2
  go_ret
  exact⟨by have:=HV.out;subst this;rfl,U0.out⟩
end
end
/- Witnesses:the answers that the document gives. -/
section
open Go.RowKit
theorem ToldW.part {w:World} {x:HWit×Bool} {e:Ending} {w':World} (h:ToldW w x e w') {p r0 r1 r2 r3 r4:Int} {d:List Edge} {b:Bool} {n:Nat} (hx:x=(⟨p,d,⟨r0,r1,⟨r2,r3,r4⟩⟩⟩,b)) (hn:d.length=n):
  ∃A c,e= .returned (.tuple #[.agg #[.int .i64 p,.slice A n c,.int .i64 r0,.int .i64 r1,.int .i64 r2,.int .i64 r3,.int .i64 r4],.bool b])∧EdX w' A d∧Upd No w w':=by
 subst hx hn;obtain⟨A,c,h1,h2,h3⟩:=h;exact⟨A,c,h1,⟨_,h2⟩,h3⟩
section
variable {F:Nat→Prop} {w:World} {n:Nat} {p:Int} {x:HWit×Bool}
theorem ZkT (H:(Zaa n).lies F w) (hl:Zci (Zaa n)=true) (hx:ofX (Zaa n) p=x):
  Calls Tryz.prog 19 #[.agg #[.slice (some ⟨n+1+1+1,0,none⟩) 2 2,.slice (some ⟨n+1+1+1+1+1+1,0,none⟩) 2 2],.int .i64 p] w (ToldW w x):=by
 subst hx;exact wOf F w (Zaa n).txs (Zaa n).ords _ 2 _ 2 p H hl
theorem ZqR (H:(Zcz n).lies F w) (hl:Zci (Zcz n)=true) (hx:ofX (Zcz n) p=x):
  Calls Tryz.prog 19 #[.agg #[.slice (some ⟨n+1+1,0,none⟩) 2 2,.slice none 0 0],.int .i64 p] w (ToldW w x):=by
 subst hx;exact wOf F w (Zcz n).txs (Zcz n).ords _ 2 _ 0 p H hl
theorem ZqM {A:Option Addr} (h:EdX w A [e1,e2]) {c:Nat} (hx:ZX [e1,e2] p=x):Calls Tryz.prog 15 #[.slice A 2 c,.int .i64 p] w (ToldW w x):=by
 subst hx;obtain⟨G,h⟩:=h;exact Zkb G w A c [e1,e2] p h (by decide)
end
theorem okE:∀e∈[e1,e2],e.ok:=fun e he=>by
 simp only[List.mem_cons,List.not_mem_nil,or_false]at he;rcases he with rfl|rfl
 ·exact⟨⟨by decide,by decide⟩,⟨by decide,by decide⟩,by decide,by decide⟩
 ·exact⟨⟨by decide,by decide⟩,⟨by decide,by decide⟩,by decide,by decide⟩
theorem txE:(⟨(Zan [e1,e2] [e1,e2].length).toArray⟩:ByteArray)=⟨#[49,32,114,119,49,32,50,32,114,119,50,32,49]⟩:=by kernel_rfl
theorem Zta {w:World} {A:Option Addr} {c:Nat} (h:EdX w A [e1,e2]):Calls Tryz.prog 47 #[.slice A 2 c] w fun e w'=>e= .returned (.string ⟨#[49,32,114,119,49,32,50,32,114,119,50,32,49]⟩)∧Upd No w w':=
 Zs9 (l:=[e1,e2]) h (by decide) okE rfl txE
theorem Zkx {w:World} {A B:Option Addr} {c d n m:Nat} {ap a0 a1 a2 a3 a4 bp b0 b1 b2 b3 b4:Int} {aw bw:List Edge} {v:Bool} (ha:EdX w A aw) (hb:EdX w B bw) (la:aw.length≤100000) (lb:bw.length≤100000) (hn:aw.length=n) (hm:bw.length=m)
  (hv:decide ((⟨ap,aw,⟨a0,a1,⟨a2,a3,a4⟩⟩⟩:HWit)=⟨bp,bw,⟨b0,b1,⟨b2,b3,b4⟩⟩⟩)=v):
  Calls Tryz.prog 17 #[.agg #[.int .i64 ap,.slice A n c,.int .i64 a0,.int .i64 a1,.int .i64 a2,.int .i64 a3,.int .i64 a4],.agg #[.int .i64 bp,.slice B m d,.int .i64 b0,.int .i64 b1,.int .i64 b2,.int .i64 b3,.int .i64 b4]] w fun e w'=>e= .returned (.bool v)∧Upd No w w':=by
 subst hn hm hv;exact Zs6 w A B c d ⟨ap,aw,⟨a0,a1,⟨a2,a3,a4⟩⟩⟩ ⟨bp,bw,⟨b0,b1,⟨b2,b3,b4⟩⟩⟩ ha hb la lb
theorem Zk8 {w:World} {A B:Option Addr} {c d n m:Nat} {ap a0 a1 a2 a3 a4 bp b0 b1 b2 b3 b4:Int} {aw bw:List Edge} {v:Bool} (ha:EdX w A aw) (hb:EdX w B bw) (la:aw.length≤100000) (lb:bw.length≤100000) (hn:aw.length=n) (hm:bw.length=m)
  (hv:Zdc ⟨ap,aw,⟨a0,a1,⟨a2,a3,a4⟩⟩⟩ ⟨bp,bw,⟨b0,b1,⟨b2,b3,b4⟩⟩⟩=v):
  Calls Tryz.prog 16 #[.agg #[.int .i64 ap,.slice A n c,.int .i64 a0,.int .i64 a1,.int .i64 a2,.int .i64 a3,.int .i64 a4],.agg #[.int .i64 bp,.slice B m d,.int .i64 b0,.int .i64 b1,.int .i64 b2,.int .i64 b3,.int .i64 b4]] w fun e w'=>e= .returned (.bool v)∧Upd No w w':=by
 subst hn hm hv;exact Zs7 w A B c d ⟨ap,aw,⟨a0,a1,⟨a2,a3,a4⟩⟩⟩ ⟨bp,bw,⟨b0,b1,⟨b2,b3,b4⟩⟩⟩ ha hb la lb
section
variable {w:World} {A B:Option Addr} {c d:Nat}
theorem Zsh (ha:EdX w A [e1,e2]) (hb:EdX w B [e1,e2]):Calls Tryz.prog 17 #[.agg #[.int .i64 5,.slice A 2 c,.int .i64 0,.int .i64 0,.int .i64 0,.int .i64 0,.int .i64 0],.agg #[.int .i64 5,.slice B 2 d,.int .i64 0,.int .i64 0,.int .i64 0,.int .i64 0,.int .i64 0]] w fun e w'=>e= .returned (.bool true)∧Upd No w w':=
 Zkx ha hb (by decide) (by decide) rfl rfl (by decide)
theorem Zsg (ha:EdX w A [e1,e2]):Calls Tryz.prog 17 #[.agg #[.int .i64 5,.slice A 2 c,.int .i64 0,.int .i64 0,.int .i64 0,.int .i64 0,.int .i64 0],.agg #[.int .i64 2,.slice B 0 d,.int .i64 2,.int .i64 0,.int .i64 1,.int .i64 5,.int .i64 1]] w fun e w'=>e= .returned (.bool false)∧Upd No w w':=
 Zkx ha (EdX.nil (A:=B)) (by decide) (by decide) rfl rfl (by decide)
theorem Zsx (hb:EdX w B [e1,e2]):Calls Tryz.prog 16 #[.agg #[.int .i64 2,.slice A 0 c,.int .i64 2,.int .i64 0,.int .i64 1,.int .i64 5,.int .i64 1],.agg #[.int .i64 5,.slice B 2 d,.int .i64 0,.int .i64 0,.int .i64 0,.int .i64 0,.int .i64 0]] w fun e w'=>e= .returned (.bool true)∧Upd No w w':=
 Zk8 (EdX.nil (A:=A)) hb (by decide) (by decide) rfl rfl (by kernel_rfl)
theorem Zsw (ha:EdX w A [e1,e2]) (hb:EdX w B [e1,e2]):Calls Tryz.prog 16 #[.agg #[.int .i64 5,.slice A 2 c,.int .i64 0,.int .i64 0,.int .i64 0,.int .i64 0,.int .i64 0],.agg #[.int .i64 5,.slice B 2 d,.int .i64 0,.int .i64 0,.int .i64 0,.int .i64 0,.int .i64 0]] w fun e w'=>e= .returned (.bool false)∧Upd No w w':=
 Zk8 ha hb (by decide) (by decide) rfl rfl (by kernel_rfl)
end
section
variable (n:Nat)
theorem o0:Zci (Zaa n)=true:=by kernel_rfl
theorem o1:ofX (Zaa n) 5=(⟨5,[e1,e2],⟨0,0,⟨0,0,0⟩⟩⟩,true):=by kernel_rfl
theorem o2:ofX (Zaa n) 4=(⟨0,[],⟨0,0,⟨0,0,0⟩⟩⟩,false):=by kernel_rfl
theorem o3:ofX (Zaa n) 0=(⟨0,[],⟨0,0,⟨0,0,0⟩⟩⟩,false):=by kernel_rfl
theorem o4:Zci (Zcz n)=true:=by kernel_rfl
theorem o5:ofX (Zcz n) 2=(⟨2,[],⟨2,0,⟨1,5,1⟩⟩⟩,true):=by kernel_rfl
theorem o6:ofX (Zcz n) 3=(⟨0,[],⟨0,0,⟨0,0,0⟩⟩⟩,false):=by kernel_rfl
theorem o7:ZX [e1,e2] 5=(⟨5,[e1,e2],⟨0,0,⟨0,0,0⟩⟩⟩,true):=by kernel_rfl
theorem o8:ZX [e1,e2] 2=(⟨0,[],⟨0,0,⟨0,0,0⟩⟩⟩,false):=by kernel_rfl
end
set_option maxRecDepth 100000 in
set_option maxHeartbeats 8000000 in
theorem ZrC (w:World):Calls Tryz.prog 9 #[] w fun e w'=>e= .returned (.bool true)∧Upd No w w':=by
 go_enter Tryz.func9,Tryz.ntmps9
 go_wp2_with fail
 refine(Ztb _).mono ?_;rintro e w1 ⟨rfl,hs,hu1⟩;obtain⟨N,hN⟩:∃N,w.heap.size=N:=⟨_,rfl⟩;rw[hN]at hs;simp only[hN];obtain⟨wh,hwh⟩:∃wh,w1.alloc (.cells #[.slice (some ⟨N+1+1+1,0,none⟩) 2 2,.slice (some ⟨N+1+1+1+1+1+1,0,none⟩) 2 2] 50)=wh:=⟨_,rfl⟩;have uh:Upd No w1 wh:=by rw[←hwh];exact(Upd.refl No w1).alloc _
 have bH:Blk wh w1.heap.size 50 [.slice (some ⟨N+1+1+1,0,none⟩) 2 2,.slice (some ⟨N+1+1+1+1+1+1,0,none⟩) 2 2]:=by rw[←hwh];exact Blk.new w1 _ _
 have h0:∀W,Upd No wh W→W.cell? ⟨w1.heap.size,0,none⟩=some (.slice (some ⟨N+1+1+1,0,none⟩) 2 2):=fun W u=>(bH.upd u id).cell 0
 have h1:∀W,Upd No wh W→W.cell? ⟨w1.heap.size,1,none⟩=some (.slice (some ⟨N+1+1+1+1+1+1,0,none⟩) 2 2):=fun W u=>(bH.upd u id).cell 1
 have HS:=Qh (hs.upd uh (fun _ _=>id));have UH:=Qh (hu1.trans uh);have hhz:Upd No wh wh:=Upd.refl _ _;clear hs uh hu1 bH
 go_wp2_with fail
 refine(ZkT HS.out (o0 N) (o1 N)).mono ?_;rintro e w2 hh;obtain⟨A2,c2,rfl,hx2,hu2⟩:=hh.part rfl rfl;simp only[List.length_cons,List.length_nil,Nat.zero_add];have ua:Upd No wh (w2.alloc (.cells #[.int .i64 5,.slice A2 2 c2,.int .i64 0,.int .i64 0,.int .i64 0,.int .i64 0,.int .i64 0] 40)):=hu2.alloc _;have BA:=Qh (Blk.new w2 40 [.int .i64 5,.slice A2 2 c2,.int .i64 0,.int .i64 0,.int .i64 0,.int .i64 0,.int .i64 0]);have HE2:=Qh (hx2.upd ((Upd.refl No w2).alloc (.cells #[.int .i64 5,.slice A2 2 c2,.int .i64 0,.int .i64 0,.int .i64 0,.int .i64 0,.int .i64 0] 40)));clear hx2 hu2 hh
 go_wp2_with fail
 refine(ZkT (HS.out.upd ua (fun _ _=>id)) (o0 N) (o2 N)).mono ?_;rintro e w3 hh;obtain⟨A3,c3,rfl,_,hu3⟩:=hh.part rfl rfl;simp only[List.length_nil];have BA3:=Qh (BA.out.upd hu3 id);have HE3:=Qh (HE2.out.upd hu3);have u3:=ua.trans hu3;have ub:Upd No wh (w3.alloc (.cells #[.int .i64 0,.slice A3 0 c3,.int .i64 0,.int .i64 0,.int .i64 0,.int .i64 0,.int .i64 0] 40)):=u3.alloc _;clear hh hu3 ua BA HE2
 go_wp2_with fail
 refine(ZkT (HS.out.upd ub (fun _ _=>id)) (o0 N) (o3 N)).mono ?_;rintro e w4 hh;obtain⟨A4,c4,rfl,_,hu4⟩:=hh.part rfl rfl;simp only[List.length_nil];have uc:Upd No wh (w4.alloc (.cells #[.int .i64 0,.slice A4 0 c4,.int .i64 0,.int .i64 0,.int .i64 0,.int .i64 0,.int .i64 0] 40)):=(ub.trans hu4).alloc _;have uac:Upd No w3 (w4.alloc (.cells #[.int .i64 0,.slice A4 0 c4,.int .i64 0,.int .i64 0,.int .i64 0,.int .i64 0,.int .i64 0] 40)):=(((Upd.refl No w3).alloc _).trans hu4).alloc _;have BA4:=Qh (BA3.out.upd uac id);have HE4:=Qh (HE3.out.upd uac);have UC:=Qh uc;clear hh hu4 h0 h1 hhz uac uc ub u3 BA3 HE3
 go_wp2_with fail
 have ud:Upd No (w4.alloc (.cells #[.int .i64 0,.slice A4 0 c4,.int .i64 0,.int .i64 0,.int .i64 0,.int .i64 0,.int .i64 0] 40)) (((((w4.alloc (.cells #[.int .i64 0,.slice A4 0 c4,.int .i64 0,.int .i64 0,.int .i64 0,.int .i64 0,.int .i64 0] 40)).alloc (.cells #[.bool false,.int .i64 5,.int .i64 0,.int .i64 0] 82)).alloc (.cells #[.bool true,.int .i64 5,.int .i64 1,.int .i64 1] 82)).alloc (.cells #[.int .i64 1,.bool false,.slice (some ⟨w4.heap.size+1,0,none⟩) 1 1,.int .i64 2,.bool true,.slice (some ⟨w4.heap.size+1+1,0,none⟩) 1 1] 85)).alloc (.cells #[.slice (some ⟨w4.heap.size+1+1+1,0,none⟩) 2 2,.slice none 0 0] 50)):=((((Upd.refl No _).alloc _).alloc _).alloc _).alloc _;have bk1:Blk (((((w4.alloc (.cells #[.int .i64 0,.slice A4 0 c4,.int .i64 0,.int .i64 0,.int .i64 0,.int .i64 0,.int .i64 0] 40)).alloc (.cells #[.bool false,.int .i64 5,.int .i64 0,.int .i64 0] 82)).alloc (.cells #[.bool true,.int .i64 5,.int .i64 1,.int .i64 1] 82)).alloc (.cells #[.int .i64 1,.bool false,.slice (some ⟨w4.heap.size+1,0,none⟩) 1 1,.int .i64 2,.bool true,.slice (some ⟨w4.heap.size+1+1,0,none⟩) 1 1] 85)).alloc (.cells #[.slice (some ⟨w4.heap.size+1+1+1,0,none⟩) 2 2,.slice none 0 0] 50)) (w4.heap.size+1) 82 [.bool false,.int .i64 5,.int .i64 0,.int .i64 0]:=((((Blk.new_at (by simp only[World.size_alloc])).alloc _).alloc _).alloc _);have bk2:Blk (((((w4.alloc (.cells #[.int .i64 0,.slice A4 0 c4,.int .i64 0,.int .i64 0,.int .i64 0,.int .i64 0,.int .i64 0] 40)).alloc (.cells #[.bool false,.int .i64 5,.int .i64 0,.int .i64 0] 82)).alloc (.cells #[.bool true,.int .i64 5,.int .i64 1,.int .i64 1] 82)).alloc (.cells #[.int .i64 1,.bool false,.slice (some ⟨w4.heap.size+1,0,none⟩) 1 1,.int .i64 2,.bool true,.slice (some ⟨w4.heap.size+1+1,0,none⟩) 1 1] 85)).alloc (.cells #[.slice (some ⟨w4.heap.size+1+1+1,0,none⟩) 2 2,.slice none 0 0] 50)) (w4.heap.size+1+1) 82 [.bool true,.int .i64 5,.int .i64 1,.int .i64 1]:=(((Blk.new_at (by simp only[World.size_alloc])).alloc _).alloc _)
 have bk3:Blk (((((w4.alloc (.cells #[.int .i64 0,.slice A4 0 c4,.int .i64 0,.int .i64 0,.int .i64 0,.int .i64 0,.int .i64 0] 40)).alloc (.cells #[.bool false,.int .i64 5,.int .i64 0,.int .i64 0] 82)).alloc (.cells #[.bool true,.int .i64 5,.int .i64 1,.int .i64 1] 82)).alloc (.cells #[.int .i64 1,.bool false,.slice (some ⟨w4.heap.size+1,0,none⟩) 1 1,.int .i64 2,.bool true,.slice (some ⟨w4.heap.size+1+1,0,none⟩) 1 1] 85)).alloc (.cells #[.slice (some ⟨w4.heap.size+1+1+1,0,none⟩) 2 2,.slice none 0 0] 50)) (w4.heap.size+1+1+1) 85 [.int .i64 1,.bool false,.slice (some ⟨w4.heap.size+1,0,none⟩) 1 1,.int .i64 2,.bool true,.slice (some ⟨w4.heap.size+1+1,0,none⟩) 1 1]:=((Blk.new_at (by simp only[World.size_alloc])).alloc _);have bk4:Blk (((((w4.alloc (.cells #[.int .i64 0,.slice A4 0 c4,.int .i64 0,.int .i64 0,.int .i64 0,.int .i64 0,.int .i64 0] 40)).alloc (.cells #[.bool false,.int .i64 5,.int .i64 0,.int .i64 0] 82)).alloc (.cells #[.bool true,.int .i64 5,.int .i64 1,.int .i64 1] 82)).alloc (.cells #[.int .i64 1,.bool false,.slice (some ⟨w4.heap.size+1,0,none⟩) 1 1,.int .i64 2,.bool true,.slice (some ⟨w4.heap.size+1+1,0,none⟩) 1 1] 85)).alloc (.cells #[.slice (some ⟨w4.heap.size+1+1+1,0,none⟩) 2 2,.slice none 0 0] 50)) (w4.heap.size+1+1+1+1) 50 [.slice (some ⟨w4.heap.size+1+1+1,0,none⟩) 2 2,.slice none 0 0]:=Blk.new_at (by simp only[World.size_alloc]);have BA5:=Qh (BA4.out.upd ud id);have HE5:=Qh (HE4.out.upd ud);have UD:=Qh (UC.out.trans ud);have HB:=Qh (ZqA bk1 bk2 bk3)
 have BH:=Qh bk4;clear BA4 HE4 ud bk1 bk2 bk3 bk4 UC;obtain⟨wd,hwd⟩:∃wd,(((((w4.alloc (.cells #[.int .i64 0,.slice A4 0 c4,.int .i64 0,.int .i64 0,.int .i64 0,.int .i64 0,.int .i64 0] 40)).alloc (.cells #[.bool false,.int .i64 5,.int .i64 0,.int .i64 0] 82)).alloc (.cells #[.bool true,.int .i64 5,.int .i64 1,.int .i64 1] 82)).alloc (.cells #[.int .i64 1,.bool false,.slice (some ⟨w4.heap.size+1,0,none⟩) 1 1,.int .i64 2,.bool true,.slice (some ⟨w4.heap.size+1+1,0,none⟩) 1 1] 85)).alloc (.cells #[.slice (some ⟨w4.heap.size+1+1+1,0,none⟩) 2 2,.slice none 0 0] 50))=wd:=⟨_,rfl⟩;rw[hwd]at BA5 HE5 UD HB BH ⊢;clear hwd;obtain⟨M,hM⟩:∃M,w4.heap.size+1=M:=⟨_,rfl⟩;simp only[hM]at HB BH ⊢;have g0:∀W,Upd No wd W→W.cell? ⟨M+1+1+1,0,none⟩=some (.slice (some ⟨M+1+1,0,none⟩) 2 2):=fun W u=>(BH.out.upd u id).cell 0
 have g1:∀W,Upd No wd W→W.cell? ⟨M+1+1+1,1,none⟩=some (.slice none 0 0):=fun W u=>(BH.out.upd u id).cell 1
 have a0:∀W,Upd No wd W→W.cell? ⟨w2.heap.size,0,none⟩=some (.int .i64 5):=fun W u=>(BA5.out.upd u id).cell 0
 have a1:∀W,Upd No wd W→W.cell? ⟨w2.heap.size,1,none⟩=some (.slice A2 2 c2):=fun W u=>(BA5.out.upd u id).cell 1
 have a2:∀W,Upd No wd W→W.cell? ⟨w2.heap.size,2,none⟩=some (.int .i64 0):=fun W u=>(BA5.out.upd u id).cell 2
 have a3:∀W,Upd No wd W→W.cell? ⟨w2.heap.size,3,none⟩=some (.int .i64 0):=fun W u=>(BA5.out.upd u id).cell 3
 have a4:∀W,Upd No wd W→W.cell? ⟨w2.heap.size,4,none⟩=some (.int .i64 0):=fun W u=>(BA5.out.upd u id).cell 4
 have a5:∀W,Upd No wd W→W.cell? ⟨w2.heap.size,5,none⟩=some (.int .i64 0):=fun W u=>(BA5.out.upd u id).cell 5
 have a6:∀W,Upd No wd W→W.cell? ⟨w2.heap.size,6,none⟩=some (.int .i64 0):=fun W u=>(BA5.out.upd u id).cell 6
 clear BH;refine(ZqR HB.out (o4 M) (o5 M)).mono ?_;rintro e w5 hh;obtain⟨A5,c5,rfl,_,hu5⟩:=hh.part rfl rfl;simp only[List.length_nil];have uv:Upd No wd (w5.alloc (.cells #[.int .i64 2,.slice A5 0 c5,.int .i64 2,.int .i64 0,.int .i64 1,.int .i64 5,.int .i64 1] 40)):=hu5.alloc _;have BV:=Qh (Blk.new w5 40 [.int .i64 2,.slice A5 0 c5,.int .i64 2,.int .i64 0,.int .i64 1,.int .i64 5,.int .i64 1]);clear hh hu5
 go_wp2_with fail
 refine(ZqR (HB.out.upd uv (fun _ _=>id)) (o4 M) (o6 M)).mono ?_;rintro e w6 hh;obtain⟨A6,c6,rfl,_,hu6⟩:=hh.part rfl rfl;simp only[List.length_nil];have BV6:=Qh (BV.out.upd hu6 id);have u6:Upd No wd (w6.alloc (.cells #[.int .i64 0,.slice A6 0 c6,.int .i64 0,.int .i64 0,.int .i64 0,.int .i64 0,.int .i64 0] 40)):=(uv.trans hu6).alloc _;clear hh hu6 uv BV g0 g1 HB
 go_wp2_with fail
 refine(ZqM (HE5.out.upd u6) o7).mono ?_;rintro e w7 hh;obtain⟨A7,c7,rfl,hx7,hu7⟩:=hh.part rfl rfl;simp only[List.length_cons,List.length_nil,Nat.zero_add];have BV7:=Qh (BV6.out.upd (((Upd.refl No w6).alloc _).trans hu7) id);have u7:Upd No wd (w7.alloc (.cells #[.int .i64 5,.slice A7 2 c7,.int .i64 0,.int .i64 0,.int .i64 0,.int .i64 0,.int .i64 0] 40)):=(u6.trans hu7).alloc _;have BU:=Qh (Blk.new w7 40 [.int .i64 5,.slice A7 2 c7,.int .i64 0,.int .i64 0,.int .i64 0,.int .i64 0,.int .i64 0]);have HX7:=Qh (hx7.upd ((Upd.refl No w7).alloc (.cells #[.int .i64 5,.slice A7 2 c7,.int .i64 0,.int .i64 0,.int .i64 0,.int .i64 0,.int .i64 0] 40)));clear hh hu7 u6 BV6 hx7
 go_wp2_with fail
 refine(ZqM (HE5.out.upd u7) o8).mono ?_;rintro e w8 hh;obtain⟨A8,c8,rfl,_,hu8⟩:=hh.part rfl rfl;simp only[List.length_nil];have u8:Upd No wd (w8.alloc (.cells #[.int .i64 0,.slice A8 0 c8,.int .i64 0,.int .i64 0,.int .i64 0,.int .i64 0,.int .i64 0] 40)):=(u7.trans hu8).alloc _;have u78:Upd No w7 (w8.alloc (.cells #[.int .i64 0,.slice A8 0 c8,.int .i64 0,.int .i64 0,.int .i64 0,.int .i64 0,.int .i64 0] 40)):=(((Upd.refl No w7).alloc _).trans hu8).alloc _;have u88:Upd No (w7.alloc (.cells #[.int .i64 5,.slice A7 2 c7,.int .i64 0,.int .i64 0,.int .i64 0,.int .i64 0,.int .i64 0] 40)) (w8.alloc (.cells #[.int .i64 0,.slice A8 0 c8,.int .i64 0,.int .i64 0,.int .i64 0,.int .i64 0,.int .i64 0] 40)):=hu8.alloc _;have BV8:=Qh (BV7.out.upd u78 id);have BU8:=Qh (BU.out.upd u88 id);have HX8:=Qh (HX7.out.upd u88);have HE8:=Qh (HE5.out.upd u8);have UZ:=Qh (UH.out.trans (UD.out.trans u8));have BA8:=Qh (BA5.out.upd u8 id);clear hh hu8 u7 u78 u88 u8 a0 a1 a2 a3 a4 a5 a6 BV7 BU HX7 HE5 UH UD BA5;have a0:∀W,Upd No (w8.alloc (.cells #[.int .i64 0,.slice A8 0 c8,.int .i64 0,.int .i64 0,.int .i64 0,.int .i64 0,.int .i64 0] 40)) W→W.cell? ⟨w2.heap.size,0,none⟩=some (.int .i64 5):=fun W u=>(BA8.out.upd u id).cell 0
 have a1:∀W,Upd No (w8.alloc (.cells #[.int .i64 0,.slice A8 0 c8,.int .i64 0,.int .i64 0,.int .i64 0,.int .i64 0,.int .i64 0] 40)) W→W.cell? ⟨w2.heap.size,1,none⟩=some (.slice A2 2 c2):=fun W u=>(BA8.out.upd u id).cell 1
 have a2:∀W,Upd No (w8.alloc (.cells #[.int .i64 0,.slice A8 0 c8,.int .i64 0,.int .i64 0,.int .i64 0,.int .i64 0,.int .i64 0] 40)) W→W.cell? ⟨w2.heap.size,2,none⟩=some (.int .i64 0):=fun W u=>(BA8.out.upd u id).cell 2
 have a3:∀W,Upd No (w8.alloc (.cells #[.int .i64 0,.slice A8 0 c8,.int .i64 0,.int .i64 0,.int .i64 0,.int .i64 0,.int .i64 0] 40)) W→W.cell? ⟨w2.heap.size,3,none⟩=some (.int .i64 0):=fun W u=>(BA8.out.upd u id).cell 3
 have a4:∀W,Upd No (w8.alloc (.cells #[.int .i64 0,.slice A8 0 c8,.int .i64 0,.int .i64 0,.int .i64 0,.int .i64 0,.int .i64 0] 40)) W→W.cell? ⟨w2.heap.size,4,none⟩=some (.int .i64 0):=fun W u=>(BA8.out.upd u id).cell 4
 have a5:∀W,Upd No (w8.alloc (.cells #[.int .i64 0,.slice A8 0 c8,.int .i64 0,.int .i64 0,.int .i64 0,.int .i64 0,.int .i64 0] 40)) W→W.cell? ⟨w2.heap.size,5,none⟩=some (.int .i64 0):=fun W u=>(BA8.out.upd u id).cell 5
 have a6:∀W,Upd No (w8.alloc (.cells #[.int .i64 0,.slice A8 0 c8,.int .i64 0,.int .i64 0,.int .i64 0,.int .i64 0,.int .i64 0] 40)) W→W.cell? ⟨w2.heap.size,6,none⟩=some (.int .i64 0):=fun W u=>(BA8.out.upd u id).cell 6
 have b0:∀W,Upd No (w8.alloc (.cells #[.int .i64 0,.slice A8 0 c8,.int .i64 0,.int .i64 0,.int .i64 0,.int .i64 0,.int .i64 0] 40)) W→W.cell? ⟨w5.heap.size,0,none⟩=some (.int .i64 2):=fun W u=>(BV8.out.upd u id).cell 0
 have b1:∀W,Upd No (w8.alloc (.cells #[.int .i64 0,.slice A8 0 c8,.int .i64 0,.int .i64 0,.int .i64 0,.int .i64 0,.int .i64 0] 40)) W→W.cell? ⟨w5.heap.size,1,none⟩=some (.slice A5 0 c5):=fun W u=>(BV8.out.upd u id).cell 1
 have b2:∀W,Upd No (w8.alloc (.cells #[.int .i64 0,.slice A8 0 c8,.int .i64 0,.int .i64 0,.int .i64 0,.int .i64 0,.int .i64 0] 40)) W→W.cell? ⟨w5.heap.size,2,none⟩=some (.int .i64 2):=fun W u=>(BV8.out.upd u id).cell 2
 have b3:∀W,Upd No (w8.alloc (.cells #[.int .i64 0,.slice A8 0 c8,.int .i64 0,.int .i64 0,.int .i64 0,.int .i64 0,.int .i64 0] 40)) W→W.cell? ⟨w5.heap.size,3,none⟩=some (.int .i64 0):=fun W u=>(BV8.out.upd u id).cell 3
 have b4:∀W,Upd No (w8.alloc (.cells #[.int .i64 0,.slice A8 0 c8,.int .i64 0,.int .i64 0,.int .i64 0,.int .i64 0,.int .i64 0] 40)) W→W.cell? ⟨w5.heap.size,4,none⟩=some (.int .i64 1):=fun W u=>(BV8.out.upd u id).cell 4
 have b5:∀W,Upd No (w8.alloc (.cells #[.int .i64 0,.slice A8 0 c8,.int .i64 0,.int .i64 0,.int .i64 0,.int .i64 0,.int .i64 0] 40)) W→W.cell? ⟨w5.heap.size,5,none⟩=some (.int .i64 5):=fun W u=>(BV8.out.upd u id).cell 5
 have b6:∀W,Upd No (w8.alloc (.cells #[.int .i64 0,.slice A8 0 c8,.int .i64 0,.int .i64 0,.int .i64 0,.int .i64 0,.int .i64 0] 40)) W→W.cell? ⟨w5.heap.size,6,none⟩=some (.int .i64 1):=fun W u=>(BV8.out.upd u id).cell 6
 have c0:∀W,Upd No (w8.alloc (.cells #[.int .i64 0,.slice A8 0 c8,.int .i64 0,.int .i64 0,.int .i64 0,.int .i64 0,.int .i64 0] 40)) W→W.cell? ⟨w7.heap.size,0,none⟩=some (.int .i64 5):=fun W u=>(BU8.out.upd u id).cell 0
 have c1:∀W,Upd No (w8.alloc (.cells #[.int .i64 0,.slice A8 0 c8,.int .i64 0,.int .i64 0,.int .i64 0,.int .i64 0,.int .i64 0] 40)) W→W.cell? ⟨w7.heap.size,1,none⟩=some (.slice A7 2 c7):=fun W u=>(BU8.out.upd u id).cell 1
 have c2:∀W,Upd No (w8.alloc (.cells #[.int .i64 0,.slice A8 0 c8,.int .i64 0,.int .i64 0,.int .i64 0,.int .i64 0,.int .i64 0] 40)) W→W.cell? ⟨w7.heap.size,2,none⟩=some (.int .i64 0):=fun W u=>(BU8.out.upd u id).cell 2
 have c3:∀W,Upd No (w8.alloc (.cells #[.int .i64 0,.slice A8 0 c8,.int .i64 0,.int .i64 0,.int .i64 0,.int .i64 0,.int .i64 0] 40)) W→W.cell? ⟨w7.heap.size,3,none⟩=some (.int .i64 0):=fun W u=>(BU8.out.upd u id).cell 3
 have c4:∀W,Upd No (w8.alloc (.cells #[.int .i64 0,.slice A8 0 c8,.int .i64 0,.int .i64 0,.int .i64 0,.int .i64 0,.int .i64 0] 40)) W→W.cell? ⟨w7.heap.size,4,none⟩=some (.int .i64 0):=fun W u=>(BU8.out.upd u id).cell 4
 have c5:∀W,Upd No (w8.alloc (.cells #[.int .i64 0,.slice A8 0 c8,.int .i64 0,.int .i64 0,.int .i64 0,.int .i64 0,.int .i64 0] 40)) W→W.cell? ⟨w7.heap.size,5,none⟩=some (.int .i64 0):=fun W u=>(BU8.out.upd u id).cell 5
 have c6:∀W,Upd No (w8.alloc (.cells #[.int .i64 0,.slice A8 0 c8,.int .i64 0,.int .i64 0,.int .i64 0,.int .i64 0,.int .i64 0] 40)) W→W.cell? ⟨w7.heap.size,6,none⟩=some (.int .i64 0):=fun W u=>(BU8.out.upd u id).cell 6
 have hzz:Upd No (w8.alloc (.cells #[.int .i64 0,.slice A8 0 c8,.int .i64 0,.int .i64 0,.int .i64 0,.int .i64 0,.int .i64 0] 40)) (w8.alloc (.cells #[.int .i64 0,.slice A8 0 c8,.int .i64 0,.int .i64 0,.int .i64 0,.int .i64 0,.int .i64 0] 40)):=Upd.refl _ _
 go_wp2_with fail
 refine(Zta HE8.out).mono ?_;rintro e w9 ⟨rfl,hu9⟩
 go_wp2_with fail
 refine(Zsh (HX8.out.upd hu9) (HE8.out.upd hu9)).mono ?_;rintro e w10 ⟨rfl,hu10'⟩;have hu10:=hu9.trans hu10';clear hu9 hu10'
 go_wp2_with fail
 refine(Zsg (HX8.out.upd hu10)).mono ?_;rintro e w11 ⟨rfl,hu11'⟩;have hu11:=hu10.trans hu11';clear hu10 hu11'
 go_wp2_with fail
 refine(Zsx (HE8.out.upd hu11)).mono ?_;rintro e w12 ⟨rfl,hu12'⟩;have hu12:=hu11.trans hu12';clear hu11 hu12'
 go_wp2_with fail
 refine(Zsw (HE8.out.upd hu12) (HE8.out.upd hu12)).mono ?_;rintro e w13 ⟨rfl,hu13⟩;go_wp2
 go_ret
 exact⟨rfl,(UZ.out.trans hu12).trans hu13⟩
end
end Go.Proofs.YtonblekdfinpkaaGreat
