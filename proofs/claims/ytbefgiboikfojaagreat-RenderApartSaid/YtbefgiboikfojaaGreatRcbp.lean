/- Witnesses, plain: how many edges there are, what a witness is. -/
import Derived.Test.YtbefgiboikfojaaGreatRcbj
import Derived.Test.YtbefgiboikfojaaGreatRcbo
namespace Go.Proofs.YtbefgiboikfojaaGreat
open Go.RowKit
set_option linter.unusedVariables false
set_option linter.unusedSimpArgs false
set_option maxRecDepth 100000
set_option maxHeartbeats 1000000
theorem Zft{α:Type}[DecidableEq α]:∀(l m:List α),l.Nodup->(∀x∈l,x∈m)->l.length<=m.length
 |[],_,_,_=>Nat.zero_le _
 |x::l,m,hn,hs=>by
  obtain⟨h1,h2⟩:=Fx.1 hn;have hx:=hs x (Fc ..);have:=Zft l (m.erase x) h2 fun y hy=>(List.mem_erase_of_ne (fun e:y=x=>h1 (by rw[<-e];exact hy))).2 (hs y (E7 _ hy))
  rw[List.length_erase_of_mem hx]at this;have:=Ew hx;rw[Fs];omega
theorem ZoP(key:Int):∀l:Gv,(wwO key l).length<=l.length
 |[]=>by simp[wwO]
 |[a]=>by simp[wwO]
 |a::b::l=>by
  have:=ZoP key (b::l)
  show(⟨a,b,1,key⟩::wwO key (b::l)).length<=_
  rw[Fs];simp only[Fs]at*;omega
theorem Zhq{α β:Type}(f:α->List β)(K:Nat):∀l:List α,(∀x∈l,(f x).length<=K)->(l.flatMap f).length<=K*l.length
 |[],_=>by simp
 |x::l,h=>by
  have h1:=h x (Fc ..);have h2:=Zhq f K l fun y hy=>h y (E7 _ hy)
  rw[List.flatMap_cons,Fb,Fs,Nat.mul_succ];omega
theorem Zn7{h:Hist}(hl:ZE h=true):h.ords.length<=24∧∀o∈h.ords,o.txs.length<=24:=by
 unfold ZE at hl;simp only[Fp,Ff,Fn]at hl;exact⟨hl.1.1.2,fun t ht=>hl.2 t ht⟩
theorem Ze7{h:Hist}(hl:ZE h=true):(ZB h).length<=1152:=by
 by_cases hr:Zc h=true
 ·obtain⟨n1,n2⟩:=Zdl hl;obtain⟨n3,n4⟩:=Zn7 hl
  have h1:((ZB h).map (·.e)).length<=(wwL (fun _=>true) h.ords++rdL (fun _=>true) (ZW h.txs) (Zo h.txs) (ZK h.ords) h.txs).length:=by
   refine Zft _ _ ?_ fun e he=>?_
   ·rw[List.nodup_iff_pairwise_ne,List.pairwise_map];exact Zqd
   ·obtain⟨x,hx,rfl⟩:=Gc.1 he;have hc:=((Zce hr).1 hx).1;have hg:=Znv hr (fun _=>true) x.e;rw[if_pos rfl]at hg;rw[<-hg]at hc;unfold Zoh at hc;rw[Fu]
    apply Classical.byContradiction
    intro hn;rw[not_or]at hn
    apply hc
    unfold Zbv;rw[if_neg hn.1,Nat.zero_add];unfold ZA;rw[List.length_eq_zero_iff,List.filter_eq_nil_iff];intro y hy;simp only[Ff];intro e;rw[e]at hy;exact hn.2 hy
  rw[F6,Fb]at h1
  have h2:(wwL (fun _=>true) h.ords).length<=24*h.ords.length:=Zhq _ 24 _ fun o ho=>by
   unfold wwC;rw[if_pos rfl];exact Nat.le_trans (ZoP _ _) (n4 o ho)
  have h3:(rdL (fun _=>true) (ZW h.txs) (Zo h.txs) (ZK h.ords) h.txs).length<=48*(h.txs.filter (·.done)).length:=Zhq _ 48 _ fun t ht=>by
   have h4:(rdO (fun _=>true) (ZW h.txs) (Zo h.txs) (ZK h.ords) t.id t.ops).length<=2*(t.ops.filter fun o=>o.read&&true).length:=Zhq _ 2 _ fun o _=>Zkd _ _ _ _ _
   have h5:=E3 (fun o:HOp=>o.read&&true) t.ops;have h6:=n2 t (Fw.1 ht).1;exact Nat.le_trans h4 (by omega)
  have h7:=E3 (fun t:HTx=>t.done) h.txs;omega
 ·unfold ZB;rw[if_neg hr];simp
structure HWit where
 p:Int
 walk:List Edge
 read:HBad
deriving DecidableEq
def ZfC:HWit:=⟨0,[],⟨0,0,⟨0,0,0⟩⟩⟩
def HWit.at_(x:HWit)(A:OA)(c:Nat):Gl:=[Qi x.p,.slice A x.walk.length c,Qi x.read.tx,Qi x.read.place,Qi x.read.of.tx,Qi x.read.of.key,Qi x.read.of.nth]
def ZdT(l:List Edge)(p:Int):HWit×Bool:=
 if Zba p=0 then (ZfC,false) else if ZaL l (Zba p) (ZbQ p)=[] then (ZfC,false) else (⟨p,ZaL l (Zba p) (ZbQ p),⟨0,0,⟨0,0,0⟩⟩⟩,true)
def ZdV(l:Gp)(p:Int):HWit×Bool:=match l with|[]=>(ZfC,false)|b::_=>(⟨p,[],b⟩,true)
def ofX(h:Hist)(p:Int):HWit×Bool:=if p=2∨p=3 then ZdV (Zab h p) p else ZdT (ZR (ZB h)) p
def ToldW(w:Gy)(x:HWit×Bool)(e:Ending)(w':Gy):Prop:=
 ∃A c,e= .returned (.tuple #[.agg (x.1.at_ A c).toArray,.bool x.2])∧Walk (fun i=>w.heap.size<=i) w' A x.1.walk∧Upd No w w'
theorem Zbj{F:Gt}{w:Gy}{A:OA}:Walk F w A []:=fun h=>absurd rfl h
theorem EdX.nil{w:Gy}{A:OA}:EdX w A []:=⟨fun _=>True,fun h=>absurd rfl h⟩
/- Witnesses:of edges,of reads,of a history:the program's and the document's. -/
theorem ToldC.no{w:Gy}{d:List Edge}{e:Ending}{w':Gy}(h:ToldC w d e w')(hd:d=[]):∃A c,e= .returned (.tuple #[.slice A 0 c,Qi 3])∧Upd No w w':=by
 obtain⟨A,c,rfl,_,hu⟩:=h;subst hd;exact⟨A,c,rfl,hu⟩
theorem ToldC.yes{w:Gy}{d:List Edge}{e:Ending}{w':Gy}(h:ToldC w d e w')(hd:d≠[]):∃A c,e= .returned (.tuple #[.slice A d.length c,Qi 0])∧Walk (fun i=>w.heap.size<=i) w' A d∧Upd No w w':=by
 obtain⟨A,c,rfl,ho,hu⟩:=h;rw[if_neg (by rw[List.length_eq_zero_iff];exact hd)];exact⟨A,c,rfl,Recs.weak (Recs.of_own Zao (by omega) ho) (fun i _ e=>(ho.lt i e).1),hu⟩
theorem Zcx{W:Gy}{b:Nat}{ty:Gx}{c0 c1 c2 c3 c4 c5 c6:Gz}(h:Blk W b ty [c0,c1,c2,c3,c4,c5,c6])(v0 v1 v2 v3 v4 v5 v6:Gz):
  Blk (((((((W.setCell ⟨b,0,none⟩ v0).setCell ⟨b,1,none⟩ v1).setCell ⟨b,2,none⟩ v2).setCell ⟨b,3,none⟩ v3).setCell ⟨b,4,none⟩ v4).setCell ⟨b,5,none⟩ v5).setCell ⟨b,6,none⟩ v6) b ty [v0,v1,v2,v3,v4,v5,v6]∧
  Upd (One b) W (((((((W.setCell ⟨b,0,none⟩ v0).setCell ⟨b,1,none⟩ v1).setCell ⟨b,2,none⟩ v2).setCell ⟨b,3,none⟩ v3).setCell ⟨b,4,none⟩ v4).setCell ⟨b,5,none⟩ v5).setCell ⟨b,6,none⟩ v6):=by
 refine⟨?_,(((((((Gg _ _).setOne 0 _).setOne 1 _).setOne 2 _).setOne 3 _).setOne 4 _).setOne 5 _).setOne 6 _⟩;have:=((((((h.set_ 0 v0).set_ 1 v1).set_ 2 v2).set_ 3 v3).set_ 4 v4).set_ 5 v5).set_ 6 v6
 simpa only[List.set_cons_zero,List.set_cons_succ]using this
theorem ZuY(F:Gt)(w:Gy)(A:OA)(c:Nat)(l:List Edge)(p:Int)(h:Walk F w A l)(hl:l.length<=2000):Calls Tryz.prog 22 #[.slice A l.length c,Qi p] w (ToldW w (ZdT l p)):=by
 obtain⟨M,hM⟩:=Qe (Zba p);obtain⟨T,hT⟩:=Qe (ZbQ p);have PM:=Qh (fun W=>Zul W p);rw[hM,hT]at PM;unfold ZdT;rw[hM,hT];clear hM hT;obtain⟨z,hz⟩:=Qe w.heap.size;obtain⟨wb,ah⟩:=Qe (w.alloc (.cells #[Qi 0,.slice none 0 0,Qi 0,Qi 0,Qi 0,Qi 0,Qi 0] 40));have u0:Upd No w wb:=by rw[<-ah];exact(Gg No w).alloc _
 have bW:Blk wb z 40 [Qi 0,.slice none 0 0,Qi 0,Qi 0,Qi 0,Qi 0,Qi 0]:=by rw[<-ah,<-hz];exact Gh w _ _
 have c0:=bW.ev 0 rfl
 have f0:∀W,Upd No wb W->W.frozen? ⟨z,0,none⟩=false:=fun W u=>(bW.upd u id).free 0
 have f1:∀W,Upd No wb W->W.frozen? ⟨z,1,none⟩=false:=fun W u=>(bW.upd u id).free 1
 have f2:∀W,Upd No wb W->W.frozen? ⟨z,2,none⟩=false:=fun W u=>(bW.upd u id).free 2
 have f3:∀W,Upd No wb W->W.frozen? ⟨z,3,none⟩=false:=fun W u=>(bW.upd u id).free 3
 have f4:∀W,Upd No wb W->W.frozen? ⟨z,4,none⟩=false:=fun W u=>(bW.upd u id).free 4
 have f5:∀W,Upd No wb W->W.frozen? ⟨z,5,none⟩=false:=fun W u=>(bW.upd u id).free 5
 have f6:∀W,Upd No wb W->W.frozen? ⟨z,6,none⟩=false:=fun W u=>(bW.upd u id).free 6
 have e0:=bW.ev 1 rfl
 have e2:=bW.ev 2 rfl
 have e3:=bW.ev 3 rfl
 have e4:=bW.ev 4 rfl
 have e5:=bW.ev 5 rfl
 have e6:=bW.ev 6 rfl
 have BW:=Qh bW;have HZ:=Qh hz;have U0:=Qh u0;have hbz:Upd No wb wb:=Gg _ _;clear bW u0
 by_cases hm:M=0
 ·subst hm;rw[if_pos rfl];go_enter Tryz.func22,Tryz.ntmps22;go_wp2_with fail;refine(PM.out _).mono ?_;rintro e w1 ⟨rfl,rfl⟩;go_wp2;obtain⟨b7,u7⟩:=Zcx (BW.out.upd hbz id) (Qi 0) (.slice none 0 0) (Qi 0) (Qi 0) (Qi 0) (Qi 0) (Qi 0);obtain⟨r0,r1,r2,r3,r4,r5,r6⟩:=b7.c7;refine bodyPost_ret (v:= .tuple #[.agg #[Qi 0,.slice none 0 0,Qi 0,Qi 0,Qi 0,Qi 0,Qi 0],.bool false]) (by simp[results,Tryz.results22,go_sem,r0,r1,r2,r3,r4,r5,r6]) rfl ?_;have uE:=(U0.out.trans hbz).then_ u7 (fun i e=>Or.inr (by have:=HZ.out;unfold One at e;omega));exact⟨none,0,rfl,Zbj,uE⟩
 ·rw[if_neg hm];have sL:(M==0)=false:=by simpa using hm
  have CS:=Qh (Zqo F wb A c l M T (Recs.upd h U0.out Qo) hl)
  by_cases hd:ZaL l M T=[]
  ·rw[if_pos hd];have HD:=Qh hd;clear hd hm;go_enter Tryz.func22,Tryz.ntmps22;go_wp2_with fail;refine(PM.out _).mono ?_;rintro e w1 ⟨rfl,rfl⟩;go_wp2_with fail;refine CS.out.mono ?_;rintro e w2 h2;obtain⟨A2,c2,rfl,hu2⟩:=h2.no HD.out;go_wp2;obtain⟨b7,u7⟩:=Zcx (BW.out.upd hu2 id) (Qi 0) (.slice none 0 0) (Qi 0) (Qi 0) (Qi 0) (Qi 0) (Qi 0);obtain⟨r0,r1,r2,r3,r4,r5,r6⟩:=b7.c7;refine bodyPost_ret (v:= .tuple #[.agg #[Qi 0,.slice none 0 0,Qi 0,Qi 0,Qi 0,Qi 0,Qi 0],.bool false]) (by simp[results,Tryz.results22,go_sem,r0,r1,r2,r3,r4,r5,r6]) rfl ?_;have uE:=(U0.out.trans hu2).then_ u7 (fun i e=>Or.inr (by have:=HZ.out;unfold One at e;omega));exact⟨none,0,rfl,Zbj,uE⟩
  ·rw[if_neg hd];obtain⟨d,lX⟩:=Qe (ZaL l M T);rw[lX]at hd CS ⊢;have HD:=Qh hd;clear hd hm lX;go_enter Tryz.func22,Tryz.ntmps22;go_wp2_with fail;refine(PM.out _).mono ?_;rintro e w1 ⟨rfl,rfl⟩;go_wp2_with fail;refine CS.out.mono ?_;rintro e w2 h2;obtain⟨A2,c2,rfl,a7,hu2⟩:=h2.yes HD.out;have HX:=Qh a7;clear a7 h2;go_wp2;obtain⟨b7,u7⟩:=Zcx (BW.out.upd hu2 id) (Qi p) (.slice A2 d.length c2) (Qi 0) (Qi 0) (Qi 0) (Qi 0) (Qi 0);obtain⟨r0,r1,r2,r3,r4,r5,r6⟩:=b7.c7;refine bodyPost_ret (v:= .tuple #[.agg #[Qi p,.slice A2 d.length c2,Qi 0,Qi 0,Qi 0,Qi 0,Qi 0],.bool true]) (by simp[results,Tryz.results22,go_sem,r0,r1,r2,r3,r4,r5,r6]) rfl ?_;have uE:=(U0.out.trans hu2).then_ u7 (fun i e=>Or.inr (by have:=HZ.out;unfold One at e;omega));exact⟨A2,c2,rfl,Recs.weak (Recs.upd HX.out u7 (fun i (hi:wb.heap.size<=i) (e:i=z)=>by have:=BW.out.lt;omega)) (fun i _ (hi:wb.heap.size<=i)=>Nat.le_trans U0.out.size hi),uE⟩
theorem ZsX(F:Gt)(w:Gy)(A:OA)(c:Nat)(l:List Edge)(p:Int)(h:Walk F w A l)(hl:l.length<=2000):Calls Tryz.prog 29 #[.slice A l.length c,Qi p] w (ToldW w (ZdT l p)):=by
 obtain⟨M,hM⟩:=Qe (Zba p);obtain⟨T,hT⟩:=Qe (ZbQ p);have PM:=Qh (fun W=>Zso W p);have PT:=Qh (fun W=>Zsn W p);rw[hM]at PM;rw[hT]at PT;unfold ZdT;rw[hM,hT];clear hM hT;obtain⟨z,hz⟩:=Qe w.heap.size;obtain⟨wb,ah⟩:=Qe (w.alloc (.cells #[Qi 0,.slice none 0 0,Qi 0,Qi 0,Qi 0,Qi 0,Qi 0] 40));have u0:Upd No w wb:=by rw[<-ah];exact(Gg No w).alloc _
 have bW:Blk wb z 40 [Qi 0,.slice none 0 0,Qi 0,Qi 0,Qi 0,Qi 0,Qi 0]:=by rw[<-ah,<-hz];exact Gh w _ _
 have c0:=bW.ev 0 rfl
 have f0:∀W,Upd No wb W->W.frozen? ⟨z,0,none⟩=false:=fun W u=>(bW.upd u id).free 0
 have f1:∀W,Upd No wb W->W.frozen? ⟨z,1,none⟩=false:=fun W u=>(bW.upd u id).free 1
 have f2:∀W,Upd No wb W->W.frozen? ⟨z,2,none⟩=false:=fun W u=>(bW.upd u id).free 2
 have f3:∀W,Upd No wb W->W.frozen? ⟨z,3,none⟩=false:=fun W u=>(bW.upd u id).free 3
 have f4:∀W,Upd No wb W->W.frozen? ⟨z,4,none⟩=false:=fun W u=>(bW.upd u id).free 4
 have f5:∀W,Upd No wb W->W.frozen? ⟨z,5,none⟩=false:=fun W u=>(bW.upd u id).free 5
 have f6:∀W,Upd No wb W->W.frozen? ⟨z,6,none⟩=false:=fun W u=>(bW.upd u id).free 6
 have e0:=bW.ev 1 rfl
 have e2:=bW.ev 2 rfl
 have e3:=bW.ev 3 rfl
 have e4:=bW.ev 4 rfl
 have e5:=bW.ev 5 rfl
 have e6:=bW.ev 6 rfl
 have BW:=Qh bW;have HZ:=Qh hz;have U0:=Qh u0;have hbz:Upd No wb wb:=Gg _ _;clear bW u0
 by_cases hm:M=0
 ·subst hm;rw[if_pos rfl];go_enter Tryz.func29,Tryz.ntmps29;go_wp2_with fail;refine Ck (PM.out _) fun w1 hu1=>?_;go_wp2;obtain⟨b7,u7⟩:=Zcx (BW.out.upd hu1 id) (Qi 0) (.slice none 0 0) (Qi 0) (Qi 0) (Qi 0) (Qi 0) (Qi 0);obtain⟨r0,r1,r2,r3,r4,r5,r6⟩:=b7.c7;refine bodyPost_ret (v:= .tuple #[.agg #[Qi 0,.slice none 0 0,Qi 0,Qi 0,Qi 0,Qi 0,Qi 0],.bool false]) (by simp[results,Tryz.results29,go_sem,r0,r1,r2,r3,r4,r5,r6]) rfl ?_;have uE:=(U0.out.trans hu1).then_ u7 (fun i e=>Or.inr (by have:=HZ.out;unfold One at e;omega));exact⟨none,0,rfl,Zbj,uE⟩
 ·rw[if_neg hm];have sL:(M==0)=false:=by simpa using hm
  have CS:=Qh (fun W (u:Upd No wb W)=>Zpu F W A c l M T (Recs.upd h (U0.out.trans u) Qo) hl)
  by_cases hd:ZaL l M T=[]
  ·rw[if_pos hd];have HD:=Qh hd;clear hd hm;go_enter Tryz.func29,Tryz.ntmps29;go_wp2_with fail;refine Ck (PM.out _) fun w1 hu1=>?_;go_wp2_with fail;refine Ck (PM.out _) fun w2 hu2=>?_;go_wp2_with fail;refine Ck (PT.out _) fun w3 hu3=>?_;have hu:=(hu1.trans hu2).trans hu3;go_wp2_with fail;refine(CS.out _ hu).mono ?_;rintro e w4 h4;obtain⟨A2,c2,rfl,hu4⟩:=h4.no HD.out;have hu5:=hu.trans hu4;go_wp2;obtain⟨b7,u7⟩:=Zcx (BW.out.upd hu5 id) (Qi 0) (.slice none 0 0) (Qi 0) (Qi 0) (Qi 0) (Qi 0) (Qi 0);obtain⟨r0,r1,r2,r3,r4,r5,r6⟩:=b7.c7;refine bodyPost_ret (v:= .tuple #[.agg #[Qi 0,.slice none 0 0,Qi 0,Qi 0,Qi 0,Qi 0,Qi 0],.bool false]) (by simp[results,Tryz.results29,go_sem,r0,r1,r2,r3,r4,r5,r6]) rfl ?_;have uE:=(U0.out.trans hu5).then_ u7 (fun i e=>Or.inr (by have:=HZ.out;unfold One at e;omega));exact⟨none,0,rfl,Zbj,uE⟩
  ·rw[if_neg hd];obtain⟨d,lX⟩:=Qe (ZaL l M T);rw[lX]at hd CS ⊢;have HD:=Qh hd;clear hd hm lX;go_enter Tryz.func29,Tryz.ntmps29;go_wp2_with fail;refine Ck (PM.out _) fun w1 hu1=>?_;go_wp2_with fail;refine Ck (PM.out _) fun w2 hu2=>?_;go_wp2_with fail;refine Ck (PT.out _) fun w3 hu3=>?_;have hu:=(hu1.trans hu2).trans hu3;have ox:=Qh hu.size;go_wp2_with fail;refine(CS.out _ hu).mono ?_;rintro e w4 h4;obtain⟨A2,c2,rfl,a7,hu4⟩:=h4.yes HD.out;have hu5:=hu.trans hu4;have HX:=Qh a7;clear a7 h4;go_wp2;obtain⟨b7,u7⟩:=Zcx (BW.out.upd hu5 id) (Qi p) (.slice A2 d.length c2) (Qi 0) (Qi 0) (Qi 0) (Qi 0) (Qi 0);obtain⟨r0,r1,r2,r3,r4,r5,r6⟩:=b7.c7;refine bodyPost_ret (v:= .tuple #[.agg #[Qi p,.slice A2 d.length c2,Qi 0,Qi 0,Qi 0,Qi 0,Qi 0],.bool true]) (by simp[results,Tryz.results29,go_sem,r0,r1,r2,r3,r4,r5,r6]) rfl ?_;have uE:=(U0.out.trans hu5).then_ u7 (fun i e=>Or.inr (by have:=HZ.out;unfold One at e;omega));exact⟨A2,c2,rfl,Recs.weak (Recs.upd HX.out u7 (fun i (hi:w3.heap.size<=i) (e:i=z)=>by have:=BW.out.lt;have:=ox.out;omega)) (fun i _ (hi:w3.heap.size<=i)=>Nat.le_trans U0.out.size (Nat.le_trans ox.out hi)),uE⟩
/- Witnesses of reads and of histories;which one is ahead,and whether two are one. -/
theorem Zgi{w:Gy}{base:Nat}{A:OA}{c:Nat}{b:HBad}{l:Gp}(h:w.ownsRow base 38 5 (.slice A (b::l).length c) (b::l).length ((b::l).map HBad.cells).flatten):
  ∃g,A=some ⟨g,0,none⟩∧base<=g∧g<w.heap.size∧w.cell? ⟨g,0,none⟩=some (Qi b.tx)∧w.cell? ⟨g,1,none⟩=some (Qi b.place)∧w.cell? ⟨g,2,none⟩=some (Qi b.of.tx)∧w.cell? ⟨g,3,none⟩=some (Qi b.of.key)∧w.cell? ⟨g,4,none⟩=some (Qi b.of.nth):=by
 obtain⟨ad,e,q0,q1,q2,q3,q4⟩:=(ZmB h).at_ (k:=0) (by simp);rcases h.2 with ⟨h',hn⟩|⟨g,cap,cur,hv,hb,hg,eA,il,ct,bg⟩
 ·cases hn
 ·cases hv
  cases e
  have cJ:=h.lt g rfl;exact⟨g,rfl,cJ.1,cJ.2,q0,q1,q2,q3,q4⟩
theorem Zsg(F:Gt)(w:Gy)(txs:List HTx)(ords:Gq)(A:OA)(c:Nat)(B:OA)(d:Nat)(p:Int)(H:Hist.lies F w ⟨txs,ords,A,c,B,d⟩):
  Calls Tryz.prog 21 #[.agg #[.slice A txs.length c,.slice B ords.length d],Qi p] w (ToldW w (ZdV (Zab ⟨txs,ords,A,c,B,d⟩ p) p)):=by
 obtain⟨wh,gp⟩:=Qe (w.alloc (.cells #[.slice A txs.length c,.slice B ords.length d] 29));have uh:Upd No w wh:=by rw[<-gp];exact(Gg No w).alloc _
 have bH:Blk wh w.heap.size 29 [.slice A txs.length c,.slice B ords.length d]:=by rw[<-gp];exact Gh w _ _
 obtain⟨z,hz⟩:=Qe wh.heap.size;obtain⟨wb,ah⟩:=Qe (wh.alloc (.cells #[Qi 0,.slice none 0 0,Qi 0,Qi 0,Qi 0,Qi 0,Qi 0] 40));have u0:Upd No wh wb:=by rw[<-ah];exact(Gg No wh).alloc _
 have bW:Blk wb z 40 [Qi 0,.slice none 0 0,Qi 0,Qi 0,Qi 0,Qi 0,Qi 0]:=by rw[<-ah,<-hz];exact Gh wh _ _
 have c0:=bW.ev 0 rfl
 have f0:∀W,Upd No wb W->W.frozen? ⟨z,0,none⟩=false:=fun W u=>(bW.upd u id).free 0
 have f1:∀W,Upd No wb W->W.frozen? ⟨z,1,none⟩=false:=fun W u=>(bW.upd u id).free 1
 have f2:∀W,Upd No wb W->W.frozen? ⟨z,2,none⟩=false:=fun W u=>(bW.upd u id).free 2
 have f3:∀W,Upd No wb W->W.frozen? ⟨z,3,none⟩=false:=fun W u=>(bW.upd u id).free 3
 have f4:∀W,Upd No wb W->W.frozen? ⟨z,4,none⟩=false:=fun W u=>(bW.upd u id).free 4
 have f5:∀W,Upd No wb W->W.frozen? ⟨z,5,none⟩=false:=fun W u=>(bW.upd u id).free 5
 have f6:∀W,Upd No wb W->W.frozen? ⟨z,6,none⟩=false:=fun W u=>(bW.upd u id).free 6
 have e0:=bW.ev 1 rfl
 have e2:=bW.ev 2 rfl
 have e3:=bW.ev 3 rfl
 have e4:=bW.ev 4 rfl
 have e5:=bW.ev 5 rfl
 have e6:=bW.ev 6 rfl
 have BW:=Qh bW;have HZ:=Qh hz;have U0:=Qh u0;have hbz:Upd No wb wb:=Gg _ _;clear bW u0;have h0:=bH.ew U0.out 0 rfl
 have h1:=bH.ew U0.out 1 rfl
 have HH:=Qh (H.upd (uh.trans U0.out) Qo);have UH:=Qh uh;clear bH uh H;obtain⟨l,hl⟩:=Qe (Zab ⟨txs,ords,A,c,B,d⟩ p);have CO:=Qh (oOf F wb txs ords A c B d p HH.out);rw[hl]at CO ⊢;clear hl
 cases l with
 |nil=>
  go_enter Tryz.func21,Tryz.ntmps21;go_wp2_with fail;refine(CO.out).mono ?_;rintro e w1 ⟨A1,c1,rfl,ho,hu1⟩;go_wp2;obtain⟨b7,u7⟩:=Zcx (BW.out.upd hu1 id) (Qi 0) (.slice none 0 0) (Qi 0) (Qi 0) (Qi 0) (Qi 0) (Qi 0);obtain⟨r0,r1,r2,r3,r4,r5,r6⟩:=b7.c7;refine bodyPost_ret (v:= .tuple #[.agg #[Qi 0,.slice none 0 0,Qi 0,Qi 0,Qi 0,Qi 0,Qi 0],.bool false]) (by simp[results,Tryz.results21,go_sem,r0,r1,r2,r3,r4,r5,r6]) rfl ?_;have uE:=(U0.out.trans hu1).then_ u7 (fun i e=>Or.inr (by have:=HZ.out;unfold One at e;omega));exact⟨none,0,rfl,Zbj,UH.out.trans uE⟩
 |cons b l=>
  obtain⟨bx,bp,⟨bt,bk,bn⟩⟩:=b;have hlen:(((⟨bx,bp,⟨bt,bk,bn⟩⟩:HBad)::l).length==0)=false:=by simp
  have oX:((((⟨bx,bp,⟨bt,bk,bn⟩⟩:HBad)::l).length:Nat):Int)≠0:=by simp only[Fs];omega
  obtain⟨n,hn⟩:=Qe (((⟨bx,bp,⟨bt,bk,bn⟩⟩:HBad)::l).length);have gN:(0:Int)<(n:Int):=by rw[<-hn];simp only[Fs];omega
  have hn1:((n:Int)==0)=false:=by rw[beq_eq_false_iff_ne];omega
  have HN:=Qh hn;clear hlen oX hn;go_enter Tryz.func21,Tryz.ntmps21;go_wp2_with fail;refine(CO.out).mono ?_;rintro e w1 ⟨A1,c1,rfl,ho,hu1⟩;obtain⟨g,rfl,di,cJ,q0,q1,q2,q3,q4⟩:=Zgi ho;rw[HN.out];simp only at q0 q1 q2 q3 q4;clear ho;go_wp2;obtain⟨b7,u7⟩:=Zcx (BW.out.upd hu1 id) (Qi p) (.slice none 0 0) (Qi bx) (Qi bp) (Qi bt) (Qi bk) (Qi bn);obtain⟨r0,r1,r2,r3,r4,r5,r6⟩:=b7.c7;refine bodyPost_ret (v:= .tuple #[.agg #[Qi p,.slice none 0 0,Qi bx,Qi bp,Qi bt,Qi bk,Qi bn],.bool true]) (by simp[results,Tryz.results21,go_sem,r0,r1,r2,r3,r4,r5,r6]) rfl ?_;have uE:=(U0.out.trans hu1).then_ u7 (fun i e=>Or.inr (by have:=HZ.out;unfold One at e;omega));exact⟨none,0,rfl,Zbj,UH.out.trans uE⟩
/- Witnesses of histories;which one is ahead,and whether two are one. -/
theorem ZfW{h:Hist}{p:Int}(hp:p=2∨p=3):ofX h p=ZdV (Zab h p) p:=by unfold ofX;rw[if_pos hp]
theorem ZlO{h:Hist}{p:Int}(hp:¬(p=2∨p=3)):ofX h p=ZdT (ZR (ZB h)) p:=by unfold ofX;rw[if_neg hp]
theorem ToldW.parts{w:Gy}{x:HWit×Bool}{e:Ending}{w':Gy}(h:ToldW w x e w'){p r0 r1 r2 r3 r4:Int}{d:List Edge}{b:Bool}(hx:x=(⟨p,d,⟨r0,r1,⟨r2,r3,r4⟩⟩⟩,b)):
  ∃A c,e= .returned (.tuple #[.agg #[Qi p,.slice A d.length c,Qi r0,Qi r1,Qi r2,Qi r3,Qi r4],.bool b])∧Walk (fun i=>w.heap.size<=i) w' A d∧Upd No w w':=by
 subst hx;exact h
theorem wOf(F:Gt)(w:Gy)(txs:List HTx)(ords:Gq)(A:OA)(c:Nat)(B:OA)(d:Nat)(p:Int)(H:Hist.lies F w ⟨txs,ords,A,c,B,d⟩)(hl:ZE ⟨txs,ords,A,c,B,d⟩=true):
  Calls Tryz.prog 8 #[.agg #[.slice A txs.length c,.slice B ords.length d],Qi p] w (ToldW w (ofX ⟨txs,ords,A,c,B,d⟩ p)):=by
 have bu:=Ze7 hl;obtain⟨n1,n2⟩:=Zdl hl;obtain⟨wh,gp⟩:=Qe (w.alloc (.cells #[.slice A txs.length c,.slice B ords.length d] 29));have uh:Upd No w wh:=by rw[<-gp];exact(Gg No w).alloc _
 have bH:Blk wh w.heap.size 29 [.slice A txs.length c,.slice B ords.length d]:=by rw[<-gp];exact Gh w _ _
 obtain⟨z,hz⟩:=Qe wh.heap.size;obtain⟨wb,ah⟩:=Qe (wh.alloc (.cells #[Qi 0,.slice none 0 0,Qi 0,Qi 0,Qi 0,Qi 0,Qi 0] 40));have u0:Upd No wh wb:=by rw[<-ah];exact(Gg No wh).alloc _
 have bW:Blk wb z 40 [Qi 0,.slice none 0 0,Qi 0,Qi 0,Qi 0,Qi 0,Qi 0]:=by rw[<-ah,<-hz];exact Gh wh _ _
 have c0:=bW.ev 0 rfl
 have f0:∀W,Upd No wb W->W.frozen? ⟨z,0,none⟩=false:=fun W u=>(bW.upd u id).free 0
 have f1:∀W,Upd No wb W->W.frozen? ⟨z,1,none⟩=false:=fun W u=>(bW.upd u id).free 1
 have f2:∀W,Upd No wb W->W.frozen? ⟨z,2,none⟩=false:=fun W u=>(bW.upd u id).free 2
 have f3:∀W,Upd No wb W->W.frozen? ⟨z,3,none⟩=false:=fun W u=>(bW.upd u id).free 3
 have f4:∀W,Upd No wb W->W.frozen? ⟨z,4,none⟩=false:=fun W u=>(bW.upd u id).free 4
 have f5:∀W,Upd No wb W->W.frozen? ⟨z,5,none⟩=false:=fun W u=>(bW.upd u id).free 5
 have f6:∀W,Upd No wb W->W.frozen? ⟨z,6,none⟩=false:=fun W u=>(bW.upd u id).free 6
 have e0:=bW.ev 1 rfl
 have e2:=bW.ev 2 rfl
 have e3:=bW.ev 3 rfl
 have e4:=bW.ev 4 rfl
 have e5:=bW.ev 5 rfl
 have e6:=bW.ev 6 rfl
 have BW:=Qh bW;have HZ:=Qh hz;have U0:=Qh u0;have hbz:Upd No wb wb:=Gg _ _;clear bW u0;have h0:=bH.ew U0.out 0 rfl
 have h1:=bH.ew U0.out 1 rfl
 have HH:=Qh (H.upd (uh.trans U0.out) Qo);have UH:=Qh uh;clear bH uh H
 by_cases p2:p=2
 ·subst p2;have CR:=Qh (Zsg F wb txs ords A c B d 2 HH.out);obtain⟨⟨⟨xp,xw,⟨y0,y1,⟨y2,y3,y4⟩⟩⟩,xb⟩,hx⟩:∃x,ZdV (Zab ⟨txs,ords,A,c,B,d⟩ 2) 2=x:=⟨_,rfl⟩
  have me:xw=[]:=by
   cases hl:Zab ⟨txs,ords,A,c,B,d⟩ 2 with
   |nil=>rw[hl]at hx;unfold ZdV ZfC at hx;simp only[Ga,HWit.mk.injEq]at hx;exact hx.1.2.1.symm
   |cons b l=>rw[hl]at hx;unfold ZdV at hx;simp only[Ga,HWit.mk.injEq]at hx;exact hx.1.2.1.symm
  subst me;rw[ZfW (by decide),hx];rw[hx]at CR;clear hx;go_enter Tryz.func8,Tryz.ntmps8;go_wp2_with fail;refine CR.out.mono ?_;rintro e w1 hh;obtain⟨A1,c1,rfl,_,hu1⟩:=hh.parts rfl;go_wp2;obtain⟨b7,u7⟩:=Zcx (BW.out.upd hu1 id) (Qi xp) (.slice A1 0 c1) (Qi y0) (Qi y1) (Qi y2) (Qi y3) (Qi y4);obtain⟨r0,r1,r2,r3,r4,r5,r6⟩:=b7.c7;refine bodyPost_ret (v:= .tuple #[.agg #[Qi xp,.slice A1 0 c1,Qi y0,Qi y1,Qi y2,Qi y3,Qi y4],.bool xb]) (by simp[results,Tryz.results8,go_sem,r0,r1,r2,r3,r4,r5,r6]) rfl ?_;have uE:=(U0.out.trans hu1).then_ u7 (fun i e=>Or.inr (by have:=HZ.out;unfold One at e;omega));exact⟨A1,c1,rfl,Zbj,UH.out.trans uE⟩
 by_cases p3:p=3
 ·subst p3;have CR:=Qh (Zsg F wb txs ords A c B d 3 HH.out);obtain⟨⟨⟨xp,xw,⟨y0,y1,⟨y2,y3,y4⟩⟩⟩,xb⟩,hx⟩:∃x,ZdV (Zab ⟨txs,ords,A,c,B,d⟩ 3) 3=x:=⟨_,rfl⟩
  have me:xw=[]:=by
   cases hl:Zab ⟨txs,ords,A,c,B,d⟩ 3 with
   |nil=>rw[hl]at hx;unfold ZdV ZfC at hx;simp only[Ga,HWit.mk.injEq]at hx;exact hx.1.2.1.symm
   |cons b l=>rw[hl]at hx;unfold ZdV at hx;simp only[Ga,HWit.mk.injEq]at hx;exact hx.1.2.1.symm
  subst me;rw[ZfW (by decide),hx];rw[hx]at CR;clear hx;go_enter Tryz.func8,Tryz.ntmps8;go_wp2_with fail;refine CR.out.mono ?_;rintro e w1 hh;obtain⟨A1,c1,rfl,_,hu1⟩:=hh.parts rfl;go_wp2;obtain⟨b7,u7⟩:=Zcx (BW.out.upd hu1 id) (Qi xp) (.slice A1 0 c1) (Qi y0) (Qi y1) (Qi y2) (Qi y3) (Qi y4);obtain⟨r0,r1,r2,r3,r4,r5,r6⟩:=b7.c7;refine bodyPost_ret (v:= .tuple #[.agg #[Qi xp,.slice A1 0 c1,Qi y0,Qi y1,Qi y2,Qi y3,Qi y4],.bool xb]) (by simp[results,Tryz.results8,go_sem,r0,r1,r2,r3,r4,r5,r6]) rfl ?_;have uE:=(U0.out.trans hu1).then_ u7 (fun i e=>Or.inr (by have:=HZ.out;unfold One at e;omega));exact⟨A1,c1,rfl,Zbj,UH.out.trans uE⟩
 have q2:(p==2)=false:=by simpa using p2
 have q3:(p==3)=false:=by simpa using p3
 rw[ZlO (by omega)];obtain⟨l,dF⟩:=Qe (ZB ⟨txs,ords,A,c,B,d⟩);have C1:=Qh (ZtO HH.out n1 n2 rfl rfl dF rfl);rw[dF]at bu ⊢;obtain⟨pl,eU⟩:=Qe (ZR l);have hpn:pl.length=l.length:=by rw[<-eU];unfold ZR;rw[F6]
 have kv:=Qh eU;rw[eU];have j5:=Qh hpn;have HF:=Qh bu;obtain⟨⟨⟨xp,xw,⟨y0,y1,⟨y2,y3,y4⟩⟩⟩,xb⟩,hx⟩:∃x,ZdT pl p=x:=⟨_,rfl⟩;rw[hx];have vc:=Qh hx;clear hx dF eU hpn p2 p3 n1 n2 bu;go_enter Tryz.func8,Tryz.ntmps8;go_wp2_with fail;refine(C1.out).mono ?_;rintro e w1 ⟨A1,c1,rfl,cD,hu1⟩;have C2:=Qh (ZtN (c:=c1) cD (by have:=HF.out;omega) rfl kv.out rfl);go_wp2_with fail;refine(C2.out).mono ?_;rintro e w2 ⟨A2,c2,rfl,⟨G,a7⟩,hu2⟩;have ed:=hu1.trans hu2;have jg:=Qh ed.size;have C3:=Qh (ZuY G w2 A2 c2 pl p a7 (by have:=HF.out;have:=j5.out;omega));clear cD a7 hu1 hu2;rw[vc.out]at C3;go_wp2_with fail;refine C3.out.mono ?_;rintro e w3 hh;obtain⟨A3,c3,rfl,pD,hu3⟩:=hh.parts rfl;have jM:=ed.trans hu3;have HX:=Qh pD;clear pD hh ed hu3;go_wp2;obtain⟨b7,u7⟩:=Zcx (BW.out.upd jM id) (Qi xp) (.slice A3 xw.length c3) (Qi y0) (Qi y1) (Qi y2) (Qi y3) (Qi y4);obtain⟨r0,r1,r2,r3,r4,r5,r6⟩:=b7.c7;refine bodyPost_ret (v:= .tuple #[.agg #[Qi xp,.slice A3 xw.length c3,Qi y0,Qi y1,Qi y2,Qi y3,Qi y4],.bool xb]) (by simp[results,Tryz.results8,go_sem,r0,r1,r2,r3,r4,r5,r6]) rfl ?_;have uE:=(U0.out.trans jM).then_ u7 (fun i e=>Or.inr (by have:=HZ.out;unfold One at e;omega));exact⟨A3,c3,rfl,Recs.weak (Recs.upd HX.out u7 (fun i (hi:w2.heap.size<=i) (e:i=z)=>by have:=BW.out.lt;have:=jg.out;omega)) (fun i _ (hi:w2.heap.size<=i)=>Nat.le_trans (UH.out.trans U0.out).size (Nat.le_trans jg.out hi)),UH.out.trans uE⟩
theorem Zvf(F:Gt)(w:Gy)(txs:List HTx)(ords:Gq)(A:OA)(c:Nat)(B:OA)(d:Nat)(p:Int)(H:Hist.lies F w ⟨txs,ords,A,c,B,d⟩)(hl:ZE ⟨txs,ords,A,c,B,d⟩=true):
  Calls Tryz.prog 12 #[.agg #[.slice A txs.length c,.slice B ords.length d],Qi p] w (ToldW w (ofX ⟨txs,ords,A,c,B,d⟩ p)):=by
 have bu:=Ze7 hl;obtain⟨n1,n2⟩:=Zdl hl;obtain⟨wh,gp⟩:=Qe (w.alloc (.cells #[.slice A txs.length c,.slice B ords.length d] 29));have uh:Upd No w wh:=by rw[<-gp];exact(Gg No w).alloc _
 have bH:Blk wh w.heap.size 29 [.slice A txs.length c,.slice B ords.length d]:=by rw[<-gp];exact Gh w _ _
 obtain⟨z,hz⟩:=Qe wh.heap.size;obtain⟨wb,ah⟩:=Qe (wh.alloc (.cells #[Qi 0,.slice none 0 0,Qi 0,Qi 0,Qi 0,Qi 0,Qi 0] 40));have u0:Upd No wh wb:=by rw[<-ah];exact(Gg No wh).alloc _
 have bW:Blk wb z 40 [Qi 0,.slice none 0 0,Qi 0,Qi 0,Qi 0,Qi 0,Qi 0]:=by rw[<-ah,<-hz];exact Gh wh _ _
 have c0:=bW.ev 0 rfl
 have f0:∀W,Upd No wb W->W.frozen? ⟨z,0,none⟩=false:=fun W u=>(bW.upd u id).free 0
 have f1:∀W,Upd No wb W->W.frozen? ⟨z,1,none⟩=false:=fun W u=>(bW.upd u id).free 1
 have f2:∀W,Upd No wb W->W.frozen? ⟨z,2,none⟩=false:=fun W u=>(bW.upd u id).free 2
 have f3:∀W,Upd No wb W->W.frozen? ⟨z,3,none⟩=false:=fun W u=>(bW.upd u id).free 3
 have f4:∀W,Upd No wb W->W.frozen? ⟨z,4,none⟩=false:=fun W u=>(bW.upd u id).free 4
 have f5:∀W,Upd No wb W->W.frozen? ⟨z,5,none⟩=false:=fun W u=>(bW.upd u id).free 5
 have f6:∀W,Upd No wb W->W.frozen? ⟨z,6,none⟩=false:=fun W u=>(bW.upd u id).free 6
 have e0:=bW.ev 1 rfl
 have e2:=bW.ev 2 rfl
 have e3:=bW.ev 3 rfl
 have e4:=bW.ev 4 rfl
 have e5:=bW.ev 5 rfl
 have e6:=bW.ev 6 rfl
 have BW:=Qh bW;have HZ:=Qh hz;have U0:=Qh u0;have hbz:Upd No wb wb:=Gg _ _;clear bW u0;have h0:=bH.ew U0.out 0 rfl
 have h1:=bH.ew U0.out 1 rfl
 have HH:=Qh (H.upd (uh.trans U0.out) Qo);have UH:=Qh uh;clear bH uh H
 by_cases p2:p=2
 ·subst p2;have CR:=Qh (Zk6 F wb txs ords A c B d 2 HH.out);obtain⟨l,dF⟩:=Qe (Zab ⟨txs,ords,A,c,B,d⟩ 2);rw[ZfW (by decide)];rw[dF]at CR ⊢;clear dF
  cases l with
  |nil=>
   go_enter Tryz.func12,Tryz.ntmps12;go_wp2_with fail;refine(CR.out).mono ?_;rintro e w1 ⟨A1,c1,rfl,ho,hu1⟩;go_wp2;obtain⟨b7,u7⟩:=Zcx (BW.out.upd hu1 id) (Qi 0) (.slice none 0 0) (Qi 0) (Qi 0) (Qi 0) (Qi 0) (Qi 0);obtain⟨r0,r1,r2,r3,r4,r5,r6⟩:=b7.c7;refine bodyPost_ret (v:= .tuple #[.agg #[Qi 0,.slice none 0 0,Qi 0,Qi 0,Qi 0,Qi 0,Qi 0],.bool false]) (by simp[results,Tryz.results12,go_sem,r0,r1,r2,r3,r4,r5,r6]) rfl ?_;have uE:=(U0.out.trans hu1).then_ u7 (fun i e=>Or.inr (by have:=HZ.out;unfold One at e;omega));exact⟨none,0,rfl,Zbj,UH.out.trans uE⟩
  |cons b l=>
   obtain⟨bx,bp,⟨bt,bk,bn⟩⟩:=b;obtain⟨n,hn⟩:=Qe (((⟨bx,bp,⟨bt,bk,bn⟩⟩:HBad)::l).length);have gN:(0:Int)<(n:Int):=by rw[<-hn];simp only[Fs];omega
   have hn1:((n:Int)==0)=false:=by rw[beq_eq_false_iff_ne];omega
   have HN:=Qh hn;clear hn;go_enter Tryz.func12,Tryz.ntmps12;go_wp2_with fail;refine(CR.out).mono ?_;rintro e w1 ⟨A1,c1,rfl,ho,hu1⟩;obtain⟨g,rfl,di,cJ,q0,q1,q2,q3,q4⟩:=Zgi ho;rw[HN.out];simp only at q0 q1 q2 q3 q4;clear ho;go_wp2;obtain⟨b7,u7⟩:=Zcx (BW.out.upd hu1 id) (Qi 2) (.slice none 0 0) (Qi bx) (Qi bp) (Qi bt) (Qi bk) (Qi bn);obtain⟨r0,r1,r2,r3,r4,r5,r6⟩:=b7.c7;refine bodyPost_ret (v:= .tuple #[.agg #[Qi 2,.slice none 0 0,Qi bx,Qi bp,Qi bt,Qi bk,Qi bn],.bool true]) (by simp[results,Tryz.results12,go_sem,r0,r1,r2,r3,r4,r5,r6]) rfl ?_;have uE:=(U0.out.trans hu1).then_ u7 (fun i e=>Or.inr (by have:=HZ.out;unfold One at e;omega));exact⟨none,0,rfl,Zbj,UH.out.trans uE⟩
 by_cases p3:p=3
 ·subst p3;have CR:=Qh (Zk6 F wb txs ords A c B d 3 HH.out);obtain⟨l,dF⟩:=Qe (Zab ⟨txs,ords,A,c,B,d⟩ 3);rw[ZfW (by decide)];rw[dF]at CR ⊢;clear dF
  cases l with
  |nil=>
   go_enter Tryz.func12,Tryz.ntmps12;go_wp2_with fail;refine(CR.out).mono ?_;rintro e w1 ⟨A1,c1,rfl,ho,hu1⟩;go_wp2;obtain⟨b7,u7⟩:=Zcx (BW.out.upd hu1 id) (Qi 0) (.slice none 0 0) (Qi 0) (Qi 0) (Qi 0) (Qi 0) (Qi 0);obtain⟨r0,r1,r2,r3,r4,r5,r6⟩:=b7.c7;refine bodyPost_ret (v:= .tuple #[.agg #[Qi 0,.slice none 0 0,Qi 0,Qi 0,Qi 0,Qi 0,Qi 0],.bool false]) (by simp[results,Tryz.results12,go_sem,r0,r1,r2,r3,r4,r5,r6]) rfl ?_;have uE:=(U0.out.trans hu1).then_ u7 (fun i e=>Or.inr (by have:=HZ.out;unfold One at e;omega));exact⟨none,0,rfl,Zbj,UH.out.trans uE⟩
  |cons b l=>
   obtain⟨bx,bp,⟨bt,bk,bn⟩⟩:=b;obtain⟨n,hn⟩:=Qe (((⟨bx,bp,⟨bt,bk,bn⟩⟩:HBad)::l).length);have gN:(0:Int)<(n:Int):=by rw[<-hn];simp only[Fs];omega
   have hn1:((n:Int)==0)=false:=by rw[beq_eq_false_iff_ne];omega
   have HN:=Qh hn;clear hn;go_enter Tryz.func12,Tryz.ntmps12;go_wp2_with fail;refine(CR.out).mono ?_;rintro e w1 ⟨A1,c1,rfl,ho,hu1⟩;obtain⟨g,rfl,di,cJ,q0,q1,q2,q3,q4⟩:=Zgi ho;rw[HN.out];simp only at q0 q1 q2 q3 q4;clear ho;go_wp2;obtain⟨b7,u7⟩:=Zcx (BW.out.upd hu1 id) (Qi 3) (.slice none 0 0) (Qi bx) (Qi bp) (Qi bt) (Qi bk) (Qi bn);obtain⟨r0,r1,r2,r3,r4,r5,r6⟩:=b7.c7;refine bodyPost_ret (v:= .tuple #[.agg #[Qi 3,.slice none 0 0,Qi bx,Qi bp,Qi bt,Qi bk,Qi bn],.bool true]) (by simp[results,Tryz.results12,go_sem,r0,r1,r2,r3,r4,r5,r6]) rfl ?_;have uE:=(U0.out.trans hu1).then_ u7 (fun i e=>Or.inr (by have:=HZ.out;unfold One at e;omega));exact⟨none,0,rfl,Zbj,UH.out.trans uE⟩
 have q2:(p==2)=false:=by simpa using p2
 have q3:(p==3)=false:=by simpa using p3
 rw[ZlO (by omega)];obtain⟨l,dF⟩:=Qe (ZB ⟨txs,ords,A,c,B,d⟩);have C1:=Qh (Zm7 HH.out n1 n2 dF);rw[dF]at bu ⊢;obtain⟨pl,eU⟩:=Qe (ZR l);have hpn:pl.length=l.length:=by rw[<-eU];unfold ZR;rw[F6]
 have kv:=Qh eU;rw[eU];have j5:=Qh hpn;have HF:=Qh bu;obtain⟨⟨⟨xp,xw,⟨y0,y1,⟨y2,y3,y4⟩⟩⟩,xb⟩,hx⟩:∃x,ZdT pl p=x:=⟨_,rfl⟩;rw[hx];have vc:=Qh hx;clear hx dF eU hpn p2 p3 n1 n2 bu;go_enter Tryz.func12,Tryz.ntmps12;go_wp2_with fail;refine(C1.out).mono ?_;rintro e w1 ⟨A1,c1,rfl,cD,hu1⟩;have C2:=Qh (Zm6 (c:=c1) cD (by have:=HF.out;omega));rw[kv.out]at C2;go_wp2_with fail;refine(C2.out).mono ?_;rintro e w2 ⟨A2,c2,rfl,⟨G,a7⟩,hu2⟩;have ed:=hu1.trans hu2;have jg:=Qh ed.size;have C3:=Qh (ZsX G w2 A2 c2 pl p a7 (by have:=HF.out;have:=j5.out;omega));clear cD a7 hu1 hu2;rw[vc.out]at C3;go_wp2_with fail;refine C3.out.mono ?_;rintro e w3 hh;obtain⟨A3,c3,rfl,pD,hu3⟩:=hh.parts rfl;have jM:=ed.trans hu3;have HX:=Qh pD;clear pD hh ed hu3;go_wp2;obtain⟨b7,u7⟩:=Zcx (BW.out.upd jM id) (Qi xp) (.slice A3 xw.length c3) (Qi y0) (Qi y1) (Qi y2) (Qi y3) (Qi y4);obtain⟨r0,r1,r2,r3,r4,r5,r6⟩:=b7.c7;refine bodyPost_ret (v:= .tuple #[.agg #[Qi xp,.slice A3 xw.length c3,Qi y0,Qi y1,Qi y2,Qi y3,Qi y4],.bool xb]) (by simp[results,Tryz.results12,go_sem,r0,r1,r2,r3,r4,r5,r6]) rfl ?_;have uE:=(U0.out.trans jM).then_ u7 (fun i e=>Or.inr (by have:=HZ.out;unfold One at e;omega));exact⟨A3,c3,rfl,Recs.weak (Recs.upd HX.out u7 (fun i (hi:w2.heap.size<=i) (e:i=z)=>by have:=BW.out.lt;have:=jg.out;omega)) (fun i _ (hi:w2.heap.size<=i)=>Nat.le_trans (UH.out.trans U0.out).size (Nat.le_trans jg.out hi)),UH.out.trans uE⟩
/- Witnesses:which one is ahead,and whether two are one. -/
section
variable (w:Gy) (A B:OA) (c d:Nat) (a b:HWit)
theorem ZuZ(ha:EdX w A a.walk)(hb:EdX w B b.walk)(la:a.walk.length<=100000)(lb:b.walk.length<=100000):
  CN 10 #[.agg (a.at_ A c).toArray,.agg (b.at_ B d).toArray] w (.bool (decide (a=b))):=by
 obtain⟨v,hv⟩:=Qe (decide (a=b));rw[hv];obtain⟨ap,aw,⟨a0,a1,⟨a2,a3,a4⟩⟩⟩:=a;obtain⟨bp,bw,⟨b0,b1,⟨b2,b3,b4⟩⟩⟩:=b;unfold HWit.at_;simp only at ha hb la lb ⊢;obtain⟨z,hz⟩:=Qe w.heap.size;obtain⟨w1,au⟩:=Qe (w.alloc (.cells #[Qi ap,.slice A aw.length c,Qi a0,Qi a1,Qi a2,Qi a3,Qi a4] 40));have s1:w1.heap.size=z+1:=by rw[<-au,<-hz];simp
 obtain⟨wb,ah⟩:=Qe (w1.alloc (.cells #[Qi bp,.slice B bw.length d,Qi b0,Qi b1,Qi b2,Qi b3,Qi b4] 40));have u1:Upd No w w1:=by rw[<-au];exact(Gg No w).alloc _
 have u2:Upd No w1 wb:=by rw[<-ah];exact(Gg No w1).alloc _
 have k1:Blk w1 z 40 [Qi ap,.slice A aw.length c,Qi a0,Qi a1,Qi a2,Qi a3,Qi a4]:=by rw[<-au,<-hz];exact Gh w _ _
 have k2:Blk wb (z+1) 40 [Qi bp,.slice B bw.length d,Qi b0,Qi b1,Qi b2,Qi b3,Qi b4]:=by rw[<-ah,<-s1];exact Gh w1 _ _
 have x0:=k1.ew u2 0 rfl
 have x1:=k1.ew u2 1 rfl
 have x2:=k1.ew u2 2 rfl
 have x3:=k1.ew u2 3 rfl
 have x4:=k1.ew u2 4 rfl
 have x5:=k1.ew u2 5 rfl
 have x6:=k1.ew u2 6 rfl
 have y0:=k2.ev 0 rfl
 have y1:=k2.ev 1 rfl
 have y2:=k2.ev 2 rfl
 have y3:=k2.ev 3 rfl
 have y4:=k2.ev 4 rfl
 have y5:=k2.ev 5 rfl
 have y6:=k2.ev 6 rfl
 have hr:Upd No wb wb:=Gg _ _;have U0:=Qh (u1.trans u2);have HA:=Qh (fun W (u:Upd No wb W)=>EdX.upd ha (U0.out.trans u));have HB:=Qh (fun W (u:Upd No wb W)=>EdX.upd hb (U0.out.trans u));clear u1 u2 k1 k2 ha hb;simp only[HWit.mk.injEq]at hv;have HE:=fun W=>ZtA W ⟨a0,a1,⟨a2,a3,a4⟩⟩ ⟨b0,b1,⟨b2,b3,b4⟩⟩
 simp only at HE
 by_cases hp:ap=bp
 ·have e1:(ap==bp)=true:=by simpa using hp
  by_cases hq:(⟨a0,a1,⟨a2,a3,a4⟩⟩:HBad)=⟨b0,b1,⟨b2,b3,b4⟩⟩
  ·have he:((⟨a0,a1,⟨a2,a3,a4⟩⟩:HBad)==⟨b0,b1,⟨b2,b3,b4⟩⟩)=true:=by rw[beq_iff_eq];exact hq
   rw[he]at HE
   have hv2:(aw==bw)=v:=by
    rw[<-hv]
    by_cases hw:aw=bw
    ·simp[hw,hp,hq]
    ·simp[hw]
   have CS:=Qh (fun W (u:Upd No wb W)=>Zu6 (c:=c) (d:=d) (HA.out W u) (HB.out W u) (by omega) (by omega) rfl rfl hv2);clear hv hv2 hp hq he;go_enter Tryz.func10,Tryz.ntmps10;go_wp2_with fail;refine Ck (CS.out _ hr) fun w3 hu3=>?_;go_wp2;go_ret;exact⟨rfl,U0.out.trans hu3⟩
  ·have he:((⟨a0,a1,⟨a2,a3,a4⟩⟩:HBad)==⟨b0,b1,⟨b2,b3,b4⟩⟩)=false:=by rw[beq_eq_false_iff_ne];exact hq
   rw[he]at HE;have HV:=Qh (show v=false by rw[<-hv];exact Qf fun h=>hq h.2.2);clear hv hp hq he;go_enter Tryz.func10,Tryz.ntmps10;go_wp2;go_ret;exact⟨by have:=HV.out;subst this;rfl,U0.out⟩
 ·have e1:(ap==bp)=false:=by simpa using hp
  have HV:=Qh (show v=false by rw[<-hv];exact Qf fun h=>hp h.1);clear hv hp;go_enter Tryz.func10,Tryz.ntmps10;go_wp2;go_ret;exact⟨by have:=HV.out;subst this;rfl,U0.out⟩
end
/- Witnesses:the answers that the document gives. -/
theorem ToldW.part{w:Gy}{x:HWit×Bool}{e:Ending}{w':Gy}(h:ToldW w x e w'){p r0 r1 r2 r3 r4:Int}{d:List Edge}{b:Bool}{n:Nat}(hx:x=(⟨p,d,⟨r0,r1,⟨r2,r3,r4⟩⟩⟩,b))(hn:d.length=n):
  ∃A c,e= .returned (.tuple #[.agg #[Qi p,.slice A n c,Qi r0,Qi r1,Qi r2,Qi r3,Qi r4],.bool b])∧EdX w' A d∧Upd No w w':=by
 subst hx hn;obtain⟨A,c,h1,h2,h3⟩:=h;exact⟨A,c,h1,⟨_,h2⟩,h3⟩
section
variable {F:Gt} {w:Gy} {n:Nat} {p:Int} {x:HWit×Bool}
end
theorem okE:∀e∈[e1,e2],e.ok:=fun e he=>by
 simp only[F9,Ft,or_false]at he;rcases he with rfl|rfl
 ·exact⟨⟨by decide,by decide⟩,⟨by decide,by decide⟩,by decide,by decide⟩
 ·exact⟨⟨by decide,by decide⟩,⟨by decide,by decide⟩,by decide,by decide⟩
theorem Zt1{w:Gy}{A B:OA}{c d n m:Nat}{ap a0 a1 a2 a3 a4 bp b0 b1 b2 b3 b4:Int}{aw bw:List Edge}{v:Bool}(ha:EdX w A aw)(hb:EdX w B bw)(la:aw.length<=100000)(lb:bw.length<=100000)(hn:aw.length=n)(hm:bw.length=m)
  (hv:decide ((⟨ap,aw,⟨a0,a1,⟨a2,a3,a4⟩⟩⟩:HWit)=⟨bp,bw,⟨b0,b1,⟨b2,b3,b4⟩⟩⟩)=v):
  CN 10 #[.agg #[Qi ap,.slice A n c,Qi a0,Qi a1,Qi a2,Qi a3,Qi a4],.agg #[Qi bp,.slice B m d,Qi b0,Qi b1,Qi b2,Qi b3,Qi b4]] w (.bool v):=by
 subst hn hm hv;exact ZuZ w A B c d ⟨ap,aw,⟨a0,a1,⟨a2,a3,a4⟩⟩⟩ ⟨bp,bw,⟨b0,b1,⟨b2,b3,b4⟩⟩⟩ ha hb la lb
section
variable {w:Gy} {A B:OA} {c d:Nat}
end
section
variable (n:Nat)
theorem o0:ZE (ZY n)=true:=by kernel_rfl
theorem o1:ofX (ZY n) 5=(⟨5,[e1,e2],⟨0,0,⟨0,0,0⟩⟩⟩,true):=by kernel_rfl
theorem o2:ofX (ZY n) 4=(⟨0,[],⟨0,0,⟨0,0,0⟩⟩⟩,false):=by kernel_rfl
theorem o3:ofX (ZY n) 0=(⟨0,[],⟨0,0,⟨0,0,0⟩⟩⟩,false):=by kernel_rfl
end
