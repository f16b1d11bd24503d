/- Phenomena: which a history has (phen.Has, phen.All, tenterref30.Has). -/
import Derived.Test.YtbefgiboikfojaaGreatRcbl
import Derived.Test.YtbefgiboikfojaaGreatRcbp
namespace Go.Proofs.YtbefgiboikfojaaGreat
open Go.RowKit
set_option linter.unusedVariables false
set_option linter.unusedSimpArgs false
set_option maxRecDepth 100000
set_option maxHeartbeats 8000000
def Zeg(h:Hist)(p:Int):Bool:=if p=2∨p=3 then decide (0<(Zab h p).length) else ZgC (ZR (ZB h)) (Zba p) (ZbQ p)
theorem Zue(F:Gt)(w:Gy)(txs:List HTx)(ords:Gq)(A:OA)(c:Nat)(B:OA)(d:Nat)(p:Int)(H:Hist.lies F w ⟨txs,ords,A,c,B,d⟩)(hl:ZE ⟨txs,ords,A,c,B,d⟩=true):
  CN 32 #[.agg #[.slice A txs.length c,.slice B ords.length d],Qi p] w (.bool (Zeg ⟨txs,ords,A,c,B,d⟩ p)):=by
 obtain⟨wb,ah⟩:=Qe (w.alloc (.cells #[.slice A txs.length c,.slice B ords.length d] 29));have u0:Upd No w wb:=by rw[<-ah];exact(Gg No w).alloc _
 have bH:Blk wb w.heap.size 29 [.slice A txs.length c,.slice B ords.length d]:=by rw[<-ah];exact Gh w _ _
 have h0:=bH.ev 0 rfl
 have h1:=bH.ev 1 rfl
 have HH:=Qh (H.upd u0 Qo);have U0:=Qh u0;have hr:Upd No wb wb:=Gg _ _;clear bH u0 H
 by_cases p2:p=2
 ·subst p2;have CB:=Qh (Zk6 F wb txs ords A c B d 2 HH.out);obtain⟨bl,cf⟩:=Qe (Zab ⟨txs,ords,A,c,B,d⟩ 2);have HV:=Qh (show Zeg ⟨txs,ords,A,c,B,d⟩ 2=decide (0<bl.length) by unfold Zeg;rw[if_pos (by decide),cf]);rw[cf]at CB;rw[HV.out];clear cf;go_enter Tryz.func32,Tryz.ntmps32;go_wp2_with fail;refine(CB.out).mono ?_;rintro e w1 ⟨A1,c1,rfl,_,hu1⟩;go_wp2;go_ret;exact⟨rfl,U0.out.trans hu1⟩
 by_cases p3:p=3
 ·subst p3;have CB:=Qh (Zk6 F wb txs ords A c B d 3 HH.out);obtain⟨bl,cf⟩:=Qe (Zab ⟨txs,ords,A,c,B,d⟩ 3);have HV:=Qh (show Zeg ⟨txs,ords,A,c,B,d⟩ 3=decide (0<bl.length) by unfold Zeg;rw[if_pos (by decide),cf]);rw[cf]at CB;rw[HV.out];clear cf;go_enter Tryz.func32,Tryz.ntmps32;go_wp2_with fail;refine(CB.out).mono ?_;rintro e w1 ⟨A1,c1,rfl,_,hu1⟩;go_wp2;go_ret;exact⟨rfl,U0.out.trans hu1⟩
 have q2:(p==2)=false:=by simpa using p2
 have q3:(p==3)=false:=by simpa using p3
 have hv:Zeg ⟨txs,ords,A,c,B,d⟩ p=ZgC (ZR (ZB ⟨txs,ords,A,c,B,d⟩)) (Zba p) (ZbQ p):=by unfold Zeg;rw[if_neg (by omega)]
 rw[hv];clear hv;obtain⟨l,dF⟩:=Qe (ZB ⟨txs,ords,A,c,B,d⟩);have bu:=Ze7 hl;obtain⟨n1,n2⟩:=Zdl hl;have CE:=Qh (Zm7 HH.out n1 n2 dF);rw[dF]at bu ⊢;obtain⟨pl,eU⟩:=Qe (ZR l);have hpn:pl.length=l.length:=by rw[<-eU];unfold ZR;rw[F6]
 have kv:=Qh eU;rw[eU];have j5:=Qh hpn;have HF:=Qh bu;obtain⟨M,hM⟩:=Qe (Zba p);obtain⟨T,hT⟩:=Qe (ZbQ p);have PM:=Qh (fun W=>Zso W p);have PT:=Qh (fun W=>Zsn W p);rw[hM]at PM;rw[hT]at PT;rw[hM,hT];clear hM hT dF eU hpn p2 p3 n1 n2 bu;go_enter Tryz.func32,Tryz.ntmps32;go_wp2_with fail;refine(CE.out).mono ?_;rintro e w1 ⟨A1,c1,rfl,cD,hu1⟩;have C2:=Qh (Zm6 (c:=c1) cD (by have:=HF.out;omega));rw[kv.out]at C2;go_wp2_with fail;refine(C2.out).mono ?_;rintro e w2 ⟨A2,c2,rfl,⟨G,a7⟩,hu2⟩;go_wp2_with fail;refine Ck (PM.out _) fun w3 hu3=>?_;go_wp2_with fail;refine Ck (PT.out _) fun w4 hu4=>?_;have nU:=hu3.trans hu4;have uC:=(hu1.trans hu2).trans nU;have C3:=Qh (ZqW G w4 A2 c2 pl M T (Recs.upd a7 nU Qo) (by have:=HF.out;have:=j5.out;omega));clear cD a7 hu1 hu2 hu3 hu4 nU;go_wp2_with fail;refine Ck C3.out fun w5 hu5=>?_;go_wp2;go_ret;exact⟨rfl,U0.out.trans (uC.trans hu5)⟩
/- Levels:the verdict of a history. -/
theorem Ziq(w:Gy)(a0 a1 a2 a3 a4 a5 b0 b1 b2 b3 b4 b5:Bool)(x y:Int):
  (Op.equalIn 10000 24 (.agg #[.bool a0,.bool a1,.bool a2,.bool a3,.bool a4,.bool a5,Qi x]) (.agg #[.bool b0,.bool b1,.bool b2,.bool b3,.bool b4,.bool b5,Qi y])).run Tryz.prog w=
   .ok ((a0==b0&&(a1==b1&&(a2==b2&&(a3==b3&&(a4==b4&&a5==b5)))))&&x==y) w:=by
 rw[run_equalIn_struct w _ _ _ _ (by kernel_rfl) (by kernel_rfl)];have hI:∀(w:Gy) (d:Nat) (x y:Int),(Op.equalIn (d+1) 3 (Qi x) (Qi y)).run Tryz.prog w= .ok (x==y) w:=fun w d x y=>run_equalIn_int w d _ _ _ x y Tryz.underlying3
 have hA:=fun w=>Zm2 9997 w a0 a1 a2 a3 a4 a5 b0 b1 b2 b3 b4 b5
 have p1:∀(w:Gy) (c0 c1 c2 c3 c4 c5:Bool) (z:Int),(part 22 #[.bool c0,.bool c1,.bool c2,.bool c3,.bool c4,.bool c5,Qi z] 0).run Tryz.prog w= .ok (.agg #[.bool c0,.bool c1,.bool c2,.bool c3,.bool c4,.bool c5]) w:=fun w c0 c1 c2 c3 c4 c5 z=>by kernel_rfl
 have p2:∀(w:Gy) (c0 c1 c2 c3 c4 c5:Bool) (z:Int),(part 3 #[.bool c0,.bool c1,.bool c2,.bool c3,.bool c4,.bool c5,Qi z] 6).run Tryz.prog w= .ok (Qi z) w:=fun w c0 c1 c2 c3 c4 c5 z=>by kernel_rfl
 generalize (a0==b0&&(a1==b1&&(a2==b2&&(a3==b3&&(a4==b4&&a5==b5)))))=v at hA ⊢
 cases v<;>simp[Program.fieldsOf,Tryz.underlying24,Op.eqFields,p1,p2,hA,hI,Result.andThen]
 by_cases h:x=y<;>simp[h]
def Zk5(f:Int->Bool):Gz:= .agg #[.bool (f 0),.bool (f 1),.bool (f 2),.bool (f 3),.bool (f 4),.bool (f 5),Qi (ZlZ (f 1) (f 2) (f 3) (f 4) (f 5))]
def ZfM(f:Int->Bool)(k:Nat):Gl:=((List.range 6).map fun i=> .bool (decide (1<=i)&&decide (i<=k)&&f (i:Int)))++[Qi 0]
theorem Zpe(f:Int->Bool):ZfM f 0=[.bool false,.bool false,.bool false,.bool false,.bool false,.bool false,Qi 0]:=by unfold ZfM;rfl
theorem Zpf(f:Int->Bool):ZfM f 5=[.bool false,.bool (f 1),.bool (f 2),.bool (f 3),.bool (f 4),.bool (f 5),Qi 0]:=by unfold ZfM;rfl
theorem ZqX(f:Int->Bool)(k:Nat)(hk:k<5):(ZfM f k).set (k+1) (.bool (f ((k+1:Nat):Int)))=ZfM f (k+1):=by
 rcases(show k=0∨k=1∨k=2∨k=3∨k=4 by omega)with rfl|rfl|rfl|rfl|rfl<;>rfl
theorem ZqY(f:Int->Bool)(k:Nat)(hk:k<5):∃v,(ZfM f k)[k+1]? =some v:=by
 rcases(show k=0∨k=1∨k=2∨k=3∨k=4 by omega)with rfl|rfl|rfl|rfl|rfl<;>exact⟨_,rfl⟩
theorem Zq5(F:Gt)(w:Gy)(txs:List HTx)(ords:Gq)(A:OA)(c:Nat)(B:OA)(d:Nat)(H:Hist.lies F w ⟨txs,ords,A,c,B,d⟩)(hl:ZE ⟨txs,ords,A,c,B,d⟩=true)(gw:Zeg ⟨txs,ords,A,c,B,d⟩ 0=false):
  CN 13 #[.agg #[.slice A txs.length c,.slice B ords.length d]] w (Zk5 (Zeg ⟨txs,ords,A,c,B,d⟩)):=by
 obtain⟨z,hz⟩:=Qe w.heap.size;obtain⟨wh,gp⟩:=Qe (w.alloc (.cells #[.slice A txs.length c,.slice B ords.length d] 29));have sh:wh.heap.size=z+1:=by rw[<-gp,<-hz];simp
 obtain⟨wb,ah⟩:=Qe (wh.alloc (.cells #[.bool false,.bool false,.bool false,.bool false,.bool false,.bool false,Qi 0] 24));have u1:Upd No w wh:=by rw[<-gp];exact(Gg No w).alloc _
 have u2:Upd No wh wb:=by rw[<-ah];exact(Gg No wh).alloc _
 have bH:Blk wb z 29 [.slice A txs.length c,.slice B ords.length d]:=by
  have:Blk wh z 29 [.slice A txs.length c,.slice B ords.length d]:=by rw[<-gp,<-hz];exact Gh w _ _
  exact this.upd u2 id
 have bR:Blk wb (z+1) 24 [.bool false,.bool false,.bool false,.bool false,.bool false,.bool false,Qi 0]:=by rw[<-ah,<-sh];exact Gh wh _ _
 have h0:=bH.ev 0 rfl
 have h1:=bH.ev 1 rfl
 have BR:=Qh bR;have U0:=Qh (u1.trans u2);have HZ:=Qh hz;have GH:=Qh (fun W (u:Upd No w W)=>H.upd u Qo);obtain⟨f,hf⟩:=Qe (Zeg ⟨txs,ords,A,c,B,d⟩);have CH:=Qh (fun W (u:Upd No w W) p=>Zue F W txs ords A c B d p (GH.out W u) hl);rw[hf]at CH gw ⊢;obtain⟨wc,eR⟩:=Qe (wb.alloc (.cells #[.bool false,.bool false,.bool false,.bool false,.bool false,.bool false,Qi 0] 24));have sb:wb.heap.size=z+2:=by rw[<-ah];simp[sh]
 have u3:Upd No wb wc:=by rw[<-eR];exact(Gg No wb).alloc _
 have bV:Blk wc (z+2) 24 (ZfM f 0):=by rw[Zpe,<-eR,<-sb];exact Gh wb _ _
 have k0:∀W,Upd (One (z+2)) wc W->W.cell? ⟨z,0,none⟩=some (.slice A txs.length c):=fun W u=>((bH.upd u3 id).upd u (by unfold One;omega)).cell 0
 have k1:∀W,Upd (One (z+2)) wc W->W.cell? ⟨z,1,none⟩=some (.slice B ords.length d):=fun W u=>((bH.upd u3 id).upd u (by unfold One;omega)).cell 1
 have BV:=Qh bV;have BRC:=Qh (bR.upd u3 id);have UC:=Qh (U0.out.trans u3);have zo:=Qh gw;clear bH bR u1 u2 u3 bV H hl hf h0 h1 gw;go_enter Tryz.func13,Tryz.ntmps13;go_wp2;clear gp ah eR sh sb hz
 go_loopg [4] 5 (fun gk i wr=>∃k:Nat,k+gk=5∧i= Qi (((k+1:Nat):Int))∧Hid (Blk wr (z+2) 24 (ZfM f k))∧Hid (Upd (One (z+2)) wc wr))
 case atStart=>exact⟨0,by omega,rfl,BV,Qh (Gg _ _)⟩
 case round=>
  clear BV;obtain⟨k,aK,rfl,hb,hu⟩:=hrel
  by_cases hk:k<5
  ·have CP:=CH.out wr (UC.out.then_ hu.out (fun i e=>Or.inr (by unfold One at e;have:=HZ.out;omega))) ((k+1:Nat):Int);have aD:=Qh (ZqX f k hk);obtain⟨v0,hv0⟩:=ZqY f k hk;obtain⟨PK,iU⟩:=Qe (((k+1:Nat):Int):Int);have HP:=Qh iU;have hpn:PK.toNat=k+1:=by omega
   rw[iU]at CP aD ⊢;have l1:PK<=5:=by omega
   have l2:(0:Int)<=PK:=by omega
   have l3:PK<6:=by omega
   have pw:IntKind.i64.wrap (PK+1)=PK+1:=IntWalk.i64_in _ (by omega);have j9:=hu.out;have yL:=Qh CP;clear iU CP;go_wp2_with fail;refine Ck yL.out fun w3 hu3=>?_;have b3:=hb.out.upd hu3 id;have f3:∀i,w3.frozen? ⟨z+2,i,none⟩=false:=fun i=>b3.free i
   have c3:w3.cell? ⟨z+2,k+1,none⟩=some v0:=by rw[b3.cell];exact hv0
   have iV:=Qh (aD.out▸b3.set_ (k+1) (.bool (f PK)));have bJ:=Qh ((hu.out.trans (hu3.mono (fun _ _ e=>e.elim))).setOne (k+1) (.bool (f PK)));clear b3 hu3 hb hu yL hv0;go_wp2;go_roundg (gk-1);exact⟨k+1,by omega,by have:=HP.out;simp;omega,iV,bJ⟩;omega
  ·obtain rfl:k=5:=by omega
   have b5:=hb.out;rw[Zpf]at b5;have CO:=fun W=>Zve W f
   rw[zo.out]at CO;obtain⟨v1,hv1⟩:∃v,f 1=v:=⟨_,rfl⟩;obtain⟨v2,hv2⟩:∃v,f 2=v:=⟨_,rfl⟩;obtain⟨v3,eZ⟩:∃v,f 3=v:=⟨_,rfl⟩;obtain⟨v4,ln⟩:∃v,f 4=v:=⟨_,rfl⟩;obtain⟨v5,oJ⟩:∃v,f 5=v:=⟨_,rfl⟩;rw[hv1,hv2,eZ,ln,oJ]at CO b5;obtain⟨LV,lQ⟩:=Qe (ZlZ v1 v2 v3 v4 v5);rw[lQ]at CO;have Dv:=Qh CO;have DD:=Qh (show Zk5 f= .agg #[.bool false,.bool v1,.bool v2,.bool v3,.bool v4,.bool v5,Qi LV] by unfold Zk5;rw[zo.out,hv1,hv2,eZ,ln,oJ,lQ]);obtain⟨a0,a1,a2,a3,a4,a5⟩:=b5.c6;have HU:=Qh hu.out;have gJ:=Qh b5;clear hb hu b5 hv1 hv2 eZ ln oJ lQ CO;go_wp2_with fail;refine Ck (Dv.out _) fun w5 hu5=>?_;have b6:=gJ.out.upd hu5 id;have f6:=b6.free 6;have e6:=b6.cell 6;simp only[Qz,Qs]at e6;obtain⟨w6,j7⟩:=Qe (w5.setCell ⟨z+2,6,none⟩ (Qi LV));have b7:Blk w6 (z+2) 24 [.bool false,.bool v1,.bool v2,.bool v3,.bool v4,.bool v5,Qi LV]:=by rw[<-j7];exact b6.set_ 6 (Qi LV)
   have u7:Upd (One (z+2)) wr w6:=by rw[<-j7];exact(hu5.mono (fun _ _ e=>e.elim)).setOne 6 _
   obtain⟨c0,c1,c2,c3,c4,c5,c6⟩:=b7.c7;have bR:=(BRC.out.upd HU.out (by unfold One;omega)).upd u7 (by unfold One;omega);obtain⟨d0,d1,d2,d3,d4,d5,d6⟩:=bR.c7;obtain⟨k0,k1,k2,k3,k4,k5,k6⟩:=bR.f7;have uI:=Qh bR;have mI:=Qh u7;clear b6 b7 u7 bR hu5;go_wp2;obtain⟨b9,u9⟩:=Zcx uI.out (.bool false) (.bool v1) (.bool v2) (.bool v3) (.bool v4) (.bool v5) (Qi LV);obtain⟨r0,r1,r2,r3,r4,r5,r6⟩:=b9.c7;refine bodyPost_ret (v:= .agg #[.bool false,.bool v1,.bool v2,.bool v3,.bool v4,.bool v5,Qi LV]) (by simp[results,Tryz.results13,go_sem,r0,r1,r2,r3,r4,r5,r6]) rfl ⟨by rw[DD.out],?_⟩;exact(UC.out.then_ (HU.out.trans mI.out) (fun i e=>Or.inr (by unfold One at e;have:=HZ.out;omega))).then_ u9 (fun i e=>Or.inr (by unfold One at e;have:=HZ.out;omega))
/- Phenomena:the answers that the document gives. -/
theorem Zu2(w:Gy):Calls Tryz.prog 11 #[] w fun e w'=>∃N,e= .returned (.agg #[.slice (some ⟨N+1+1+1,0,none⟩) 2 2,.slice (some ⟨N+1+1+1+1+1+1,0,none⟩) 2 2])∧(ZY N).lies (fun _=>True) w'∧Upd No w w':=
 (Zu1 w).mono fun e w' h=>⟨_,h⟩
def f1:Edge:=⟨1,2,1,0⟩
def f2:Edge:=⟨2,1,3,-1⟩
section
variable {F:Gt} {w:Gy} {N:Nat} {p:Int} {b:Bool}
end
/- What is said:the answers that the document gives. -/
theorem Zu0(n:Nat):Zk5 (Zeg (ZY n))= .agg #[.bool false,.bool false,.bool false,.bool false,.bool false,.bool true,Qi 2]:=by kernel_rfl
theorem Zwp(n:Nat):Zeg (ZY n) 0=false:=by kernel_rfl
theorem Zhn(n:Nat):ZE (ZY n)=true:=by kernel_rfl
section
variable {F:Gt} {w:Gy}
theorem Zu4{N:Nat}(H:(ZY N).lies F w):CN 13 #[.agg #[.slice (some ⟨N+1+1+1,0,none⟩) 2 2,.slice (some ⟨N+1+1+1+1+1+1,0,none⟩) 2 2]] w (.agg #[.bool false,.bool false,.bool false,.bool false,.bool false,.bool true,Qi 2]):=by
 rw[<-Zu0 N];exact Zq5 F w (ZY N).txs (ZY N).ords _ 2 _ 2 H (Zhn N) (Zwp N)
theorem Zv4{N:Nat}(H:(ZY N).lies F w):Calls Tryz.prog 12 #[.agg #[.slice (some ⟨N+1+1+1,0,none⟩) 2 2,.slice (some ⟨N+1+1+1+1+1+1,0,none⟩) 2 2],Qi 5] w (ToldW w (⟨5,[e1,e2],⟨0,0,⟨0,0,0⟩⟩⟩,true)):=by
 rw[<-o1 N];exact Zvf F w (ZY N).txs (ZY N).ords _ 2 _ 2 5 H (Zhn N)
theorem ZtY{N:Nat}(H:(ZY N).lies F w):CN 16 #[.agg #[.slice (some ⟨N+1+1+1,0,none⟩) 2 2,.slice (some ⟨N+1+1+1+1+1+1,0,none⟩) 2 2],Qi 2,Qi 1] w (.string (⟨#[116,120,115,32,50,32,111,114,100,101,114,115,32,50,32,119,101,105,103,104,116,32,54,32,117,110,100,111,32,50,32,114,101,100,111,32,49,10]⟩:Gm)):=by
 have h:=Zvq w (ZY N).txs (some ⟨N+1+1+1,0,none⟩) 2 (some ⟨N+1+1+1+1+1+1,0,none⟩) 2 2 2 1 H.txs (by have:=(Zdl (Zhn N)).1;omega) (by decide) (fun t ht=>by have:=(Zdl (Zhn N)).2 t ht;omega) ⟨by decide,by decide⟩ ⟨by decide,by decide⟩;rw[show Ziu ((ZY N).txs.length:Int) (2:Nat) (Zed (ZY N).txs) 2 1=(⟨#[116,120,115,32,50,32,111,114,100,101,114,115,32,50,32,119,101,105,103,104,116,32,54,32,117,110,100,111,32,50,32,114,101,100,111,32,49,10]⟩:Gm) by kernel_rfl]at h;exact h
theorem ZtX:CN 6 #[.agg #[.bool false,.bool false,.bool false,.bool false,.bool false,.bool true,Qi 2]] w (.string (⟨#[80,76,45,50,32,71,48,45,32,71,49,97,45,32,71,49,98,45,32,71,49,99,45,32,71,50,45,105,116,101,109,43,10]⟩:Gm)):=by
 have h:=Zrk w (fun i=>i==5) 2;rw[show Zdr 2 (fun i=>i==5)=(⟨#[80,76,45,50,32,71,48,45,32,71,49,97,45,32,71,49,98,45,32,71,49,99,45,32,71,50,45,105,116,101,109,43,10]⟩:Gm) by kernel_rfl]at h;exact h
theorem i0_:i64 0:=⟨by decide,by decide⟩
theorem Zu3{A:OA}{c:Nat}(H:EdX w A [e1,e2]):CN 9 #[Qi 5,.agg #[Qi 5,.slice A 2 c,Qi 0,Qi 0,Qi 0,Qi 0,Qi 0],.bool true] w (.string (⟨#[71,50,45,105,116,101,109,32,49,32,114,119,49,32,50,32,114,119,50,32,49,10]⟩:Gm)):=by
 obtain⟨G,H⟩:=H;have h:=ZnX w 5 true 5 A c [e1,e2] 0 0 0 0 0 H (by decide) okE i0_ i0_ ⟨i0_,i0_,i0_⟩;rw[show Zau 5 true [e1,e2] 0 0 0 0 0=(⟨#[71,50,45,105,116,101,109,32,49,32,114,119,49,32,50,32,114,119,50,32,49,10]⟩:Gm) by kernel_rfl]at h;exact h
theorem ZtV{A:OA}{c:Nat}(H:EdX w A [e1,e2]):CN 9 #[Qi 1,.agg #[Qi 5,.slice A 2 c,Qi 0,Qi 0,Qi 0,Qi 0,Qi 0],.bool false] w (.string (⟨#[71,48,32,110,111,10]⟩:Gm)):=by
 obtain⟨G,H⟩:=H;have h:=ZnX w 1 false 5 A c [e1,e2] 0 0 0 0 0 H (by decide) okE i0_ i0_ ⟨i0_,i0_,i0_⟩;rw[show Zau 1 false [e1,e2] 0 0 0 0 0=(⟨#[71,48,32,110,111,10]⟩:Gm) by kernel_rfl]at h;exact h
theorem ZtW:CN 9 #[Qi 2,.agg #[Qi 2,.slice none 0 0,Qi 2,Qi 0,Qi 1,Qi 5,Qi 1],.bool true] w (.string (⟨#[71,49,97,32,50,32,48,32,114,53,64,49,46,49,10]⟩:Gm)):=by
 have h:=ZnX (F:=fun _=>True) w 2 true 2 none 0 [] 2 0 1 5 1 Zbj (by decide) (fun e he=>by cases he) ⟨by decide,by decide⟩ i0_ ⟨⟨by decide,by decide⟩,⟨by decide,by decide⟩,by decide,by decide⟩;rw[show Zau 2 true [] 2 0 1 5 1=(⟨#[71,49,97,32,50,32,48,32,114,53,64,49,46,49,10]⟩:Gm) by kernel_rfl]at h;exact h
theorem ZpE{e:Int}{v:Gm}(hv:Zbc e=v):Calls Tryz.prog 7 #[Qi e] w fun x w'=>x= .returned (.string v)∧Upd No w w':=by subst hv;exact Zk7 w e
theorem ZlK{e:Int}{v:Gm}(hv:Zbq e=v):Calls Tryz.prog 14 #[Qi e] w fun x w'=>x= .returned (.string v)∧Upd No w w':=by subst hv;exact ZlG w e
theorem Zv3{b:Nat}(h:Blk w b 50 [.bool false,Qi 5,Qi 0,Qi 0]):CN 15 #[.agg #[Qi 7,.bool false,.slice (some ⟨b,0,none⟩) 1 1]] w (.string (⟨#[55,32,97,32,119,53,10]⟩:Gm)):=by
 have hh:HOps (fun _=>True) w (some ⟨b,0,none⟩) [⟨false,5,0,0⟩]:=by
  refine fun _=>⟨_,rfl,trivial,h.lt,fun k row hk j v hj=>?_⟩
  cases k with
  |zero=>
   simp only[Gb,List.map_nil,Qz,Fh]at hk;subst hk;have e1:(⟨b,0,none⟩:Addr).add (0*4+j)=⟨b,j,none⟩:=by unfold Addr.add;split<;>simp_all
   rw[e1,h.cell];exact hj
  |succ k=>simp at hk
 have h:=pTx _ w 7 false (some ⟨b,0,none⟩) 1 [⟨false,5,0,0⟩] ⟨by decide,by decide⟩ hh (by decide) (fun o ho=>by simp only[Fa]at ho;subst ho;exact⟨⟨by decide,by decide⟩,⟨by decide,by decide⟩,by decide,by decide⟩);rw[show txS 7 false [⟨false,5,0,0⟩]=(⟨#[55,32,97,32,119,53,10]⟩:Gm) by kernel_rfl]at h;exact h
theorem ZsR{b:Nat}(h:Blk w b 9 [.string ⟨#[97]⟩,.string ⟨#[]⟩]):CN 17 #[.slice (some ⟨b,0,none⟩) 2 2] w (.string (⟨#[97,10,10,111,107,10]⟩:Gm)):=by
 have hh:Zim (fun _=>True) w (some ⟨b,0,none⟩) [⟨#[97]⟩,⟨#[]⟩]:=by
  refine fun _=>⟨_,rfl,trivial,h.lt,fun j v hj=>?_⟩
  have e1:(⟨b,0,none⟩:Addr).add j=⟨b,j,none⟩:=by unfold Addr.add;split<;>simp_all
  rw[e1,h.cell]
  match j,hj with
  |0,hj=>cases hj;rfl
  |1,hj=>cases hj;rfl
  |n+2,hj=>simp at hj
 have h:=ZpD _ w (some ⟨b,0,none⟩) 2 [⟨#[97]⟩,⟨#[]⟩] hh (by decide) (fun s hs=>by simp only[F9,Ft,or_false]at hs;rcases hs with rfl|rfl<;>decide);rw[show Zl5 [⟨#[97]⟩,⟨#[]⟩]=(⟨#[97,10,10,111,107,10]⟩:Gm) by kernel_rfl]at h;exact h
theorem ZqP:CN 17 #[.slice none 0 0] w (.string (⟨#[111,107,10]⟩:Gm)):=by
 have h:=ZpD (fun _=>True) w none 0 [] (fun h=>absurd rfl h) (by decide) (fun s hs=>by cases hs);rw[show Zl5 []=(⟨#[111,107,10]⟩:Gm) by kernel_rfl]at h;exact h
end
theorem Zs9(w:Gy):CN 4 #[] w (.bool true):=by
 go_enter Tryz.func4,Tryz.ntmps4;go_wp2_with fail;refine(Zu2 _).mono ?_;rintro e w1 ⟨N,rfl,mW,hu1⟩;obtain⟨y1,Ce⟩:∃y,w1.heap.size=y:=⟨_,rfl⟩;obtain⟨wh,gp⟩:=Qe (w1.alloc (.cells #[.slice (some ⟨N+1+1+1,0,none⟩) 2 2,.slice (some ⟨N+1+1+1+1+1+1,0,none⟩) 2 2] 29));have uh:Upd No w1 wh:=by rw[<-gp];exact(Gg No w1).alloc _
 have bH:Blk wh y1 29 [.slice (some ⟨N+1+1+1,0,none⟩) 2 2,.slice (some ⟨N+1+1+1+1+1+1,0,none⟩) 2 2]:=by rw[<-gp,<-Ce];exact Gh w1 _ _
 have AZ:Upd No wh wh:=Gg _ _;have h0:=bH.ev 0 rfl
 have h1:=bH.ev 1 rfl
 have HS:=Qh (mW.upd uh Qo);have K0:=Qh h0;have K1:=Qh h1;have UH:=Qh (hu1.trans uh);clear mW hu1 uh bH;go_wp2_with fail;refine(Zv4 HS.out).mono ?_;rintro e w2 hh;obtain⟨A2,c2,rfl,a7,hu2⟩:=hh.part (n:=2) rfl rfl;have ua:Upd No wh ((w2.alloc (.cells #[Qi 5,.slice A2 2 c2,Qi 0,Qi 0,Qi 0,Qi 0,Qi 0] 40)).alloc (.cells #[Qi 2,.slice none 0 0,Qi 2,Qi 0,Qi 1,Qi 5,Qi 1] 40)):=(hu2.alloc _).alloc _;clear hh AZ;go_wp2_with fail;clear ua h0 h1;obtain⟨y2,fW⟩:∃y,w2.heap.size=y:=⟨_,rfl⟩;obtain⟨wv,jY⟩:=Qe (w2.alloc (.cells #[Qi 5,.slice A2 2 c2,Qi 0,Qi 0,Qi 0,Qi 0,Qi 0] 40));have sv:wv.heap.size=y2+1:=by rw[<-jY,<-fW];simp
 have uv:Upd No w2 wv:=by rw[<-jY];exact(Gg No w2).alloc _
 have bV:Blk wv y2 40 [Qi 5,.slice A2 2 c2,Qi 0,Qi 0,Qi 0,Qi 0,Qi 0]:=by rw[<-jY,<-fW];exact Gh w2 _ _
 obtain⟨wb,ah⟩:=Qe (wv.alloc (.cells #[Qi 2,.slice none 0 0,Qi 2,Qi 0,Qi 1,Qi 5,Qi 1] 40));have ub:Upd No wv wb:=by rw[<-ah];exact(Gg No wv).alloc _
 have bB:Blk wb (y2+1) 40 [Qi 2,.slice none 0 0,Qi 2,Qi 0,Qi 1,Qi 5,Qi 1]:=by rw[<-ah,<-sv];exact Gh wv _ _
 have UHB:=Qh ((hu2.trans uv).trans ub);have g0:∀W,Upd No wb W->W.cell? ⟨y1,0,none⟩=some (.slice (some ⟨N+1+1+1,0,none⟩) 2 2):=fun W u=>K0.out W (UHB.out.trans u)
 have g1:∀W,Upd No wb W->W.cell? ⟨y1,1,none⟩=some (.slice (some ⟨N+1+1+1+1+1+1,0,none⟩) 2 2):=fun W u=>K1.out W (UHB.out.trans u)
 have v0:∀W,Upd No wb W->W.cell? ⟨y2,0,none⟩=some (Qi 5):=fun W u=>((bV.upd ub id).upd u id).cell 0
 have v1:∀W,Upd No wb W->W.cell? ⟨y2,1,none⟩=some (.slice A2 2 c2):=fun W u=>((bV.upd ub id).upd u id).cell 1
 have v2:∀W,Upd No wb W->W.cell? ⟨y2,2,none⟩=some (Qi 0):=fun W u=>((bV.upd ub id).upd u id).cell 2
 have v3:∀W,Upd No wb W->W.cell? ⟨y2,3,none⟩=some (Qi 0):=fun W u=>((bV.upd ub id).upd u id).cell 3
 have v4:∀W,Upd No wb W->W.cell? ⟨y2,4,none⟩=some (Qi 0):=fun W u=>((bV.upd ub id).upd u id).cell 4
 have v5:∀W,Upd No wb W->W.cell? ⟨y2,5,none⟩=some (Qi 0):=fun W u=>((bV.upd ub id).upd u id).cell 5
 have v6:∀W,Upd No wb W->W.cell? ⟨y2,6,none⟩=some (Qi 0):=fun W u=>((bV.upd ub id).upd u id).cell 6
 have b0:=bB.ev 0 rfl
 have b1:=bB.ev 1 rfl
 have b2:=bB.ev 2 rfl
 have b3:=bB.ev 3 rfl
 have b4:=bB.ev 4 rfl
 have b5:=bB.ev 5 rfl
 have b6:=bB.ev 6 rfl
 have HX:=Qh (fun W (u:Upd No wb W)=>(a7.upd (uv.trans ub)).upd u);have HH:=Qh (fun W (u:Upd No wb W)=>HS.out.upd (UHB.out.trans u) Qo);have HU:=Qh (UH.out.trans UHB.out);have hx:Upd No wb wb:=Gg _ _;rw[jY,ah];simp only[fW];clear a7 hu2 uv ub bV bB UH UHB HS K0 K1 jY ah fW sv;refine Ck (Zu4 (HH.out _ hx)) fun q1 hv1=>?_;have uu1:=hx.trans hv1;clear hv1;go_wp2_with fail;refine Ck ZtX fun q2 hv2=>?_;have uu2:=uu1.trans hv2;clear hv2;go_wp2_with fail;refine Ck (Zu3 (HX.out _ uu2)) fun q3 eZ=>?_;have uu3:=uu2.trans eZ;clear eZ;go_wp2_with fail;refine Ck ZtW fun q4 ln=>?_;have uu4:=uu3.trans ln;clear ln;go_wp2_with fail;refine Ck (ZtV (HX.out _ uu4)) fun q5 oJ=>?_;have uu5:=uu4.trans oJ;clear oJ;go_wp2_with fail;refine Ck (ZpE (show Zbc 0=(⟨#[111,107,10]⟩:Gm) from rfl)) fun q6 hv6=>?_;have uu6:=uu5.trans hv6;clear hv6;go_wp2_with fail;refine Ck (ZpE (show Zbc 6=(⟨#[110,111,32,114,101,97,100,10]⟩:Gm) by kernel_rfl)) fun q7 hv7=>?_;have uu7:=uu6.trans hv7;clear hv7;go_wp2_with fail;refine Ck (ZlK (show Zbq 17=(⟨#[115,116,97,116,101]⟩:Gm) from rfl)) fun q8 hv8=>?_;have uu8:=uu7.trans hv8;clear hv8;go_wp2_with fail;refine Ck (ZlK (show Zbq 18=(⟨#[120]⟩:Gm) from rfl)) fun q9 hv9=>?_;have uu9:=uu8.trans hv9;clear hv9;go_wp2_with fail;refine Ck (ZlK (show Zbq (-1)=(⟨#[120]⟩:Gm) from rfl)) fun q10 hv10=>?_
 have uu10:=uu9.trans hv10;clear hv10;go_wp2_with fail;have bT:=Gh q10 50 [.bool false,Qi 5,Qi 0,Qi 0];refine Ck (Zv3 bT) fun q11 hv11=>?_;have uu11:=(uu10.alloc (.cells #[.bool false,Qi 5,Qi 0,Qi 0] 50)).trans hv11;clear bT hv11;go_wp2_with fail;refine Ck (ZtY (HH.out _ uu11)) fun q12 hv12=>?_;have uu12:=uu11.trans hv12;clear hv12;go_wp2_with fail;have bL:=Gh q12 9 [.string ⟨#[97]⟩,.string ⟨#[]⟩];refine Ck (ZsR bL) fun q13 hv13=>?_;have uu13:=(uu12.alloc (.cells #[.string ⟨#[97]⟩,.string ⟨#[]⟩] 9)).trans hv13;clear bL hv13;go_wp2_with fail;refine Ck ZqP fun q14 hv14=>?_;have uu14:=uu13.trans hv14;clear hv14;go_wp2;go_ret;exact⟨rfl,HU.out.trans uu14⟩
