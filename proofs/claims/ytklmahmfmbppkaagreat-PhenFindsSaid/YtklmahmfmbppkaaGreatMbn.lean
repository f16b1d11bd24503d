/- Closed walks: what is left Zav an arc. -/
import Derived.Test.YtklmahmfmbppkaaGreatMbe
import Derived.Test.YtklmahmfmbppkaaGreatMbl
import Derived.Test.YtklmahmfmbppkaaGreatMbm
namespace Go.Proofs.YtklmahmfmbppkaaGreat
set_option linter.unusedSimpArgs false
set_option linter.unusedVariables false
open Go.RowKit
structure LoopI (w:World) (A B:Option Addr) (N:Nat) (da dw:Int→Int):Prop where
 a:Ints (fun _=>True) w A (Zap N da)
 b:Ints (fun _=>True) w B (Zap N dw)
theorem LoopI.upd {w w':World} {A B:Option Addr} {N:Nat} {da dw:Int→Int} (h:LoopI w A B N da dw) (hu:Upd No w w'):LoopI w' A B N da dw:=⟨h.a.upd hu (fun _ _=>id),h.b.upd hu (fun _ _=>id)⟩
theorem Zci (x:Int):(bits .and .i64 x 1==0)= !decide (x%2=1):=by
 have h:=Zii x 1 (by omega)
 rw[Nat.and_one_is_mod]at h
 have h':bits .and .i64 x 1=(((x%18446744073709551616).toNat%2:Nat):Int):=h
 rw[h',Bool.eq_iff_iff,beq_iff_eq,Bool.not_eq_true',decide_eq_false_iff_not]
 omega
set_option maxRecDepth 100000 in
set_option maxHeartbeats 4000000 in
theorem ZpJ (w:World) (p0 A B:Option Addr) (N:Nat) (mask must:Int) (da dw:Int→Int) (h:LoopI w A B N da dw) (a:HArc) (hk1:1≤a.kind) (hk2:a.kind≤3) (ht0:0≤a.t) (ht1:a.t<(N:Int)) (need:Bool):
  Calls Tryz.prog 103 #[.agg #[.pointer p0,.int .i64 mask,.int .i64 must,.slice A N N,.slice B N N],.agg a.cells.toArray,.bool need] w fun e w'=>e= .returned (.int .i64 (ZG must da dw need a))∧Upd No w w':=by
 obtain⟨af,at',ak,al⟩:=a
 simp only at hk1 hk2 ht0 ht1
 obtain⟨t,rfl⟩:∃t:Nat,at'=(t:Int):=⟨at'.toNat,by omega⟩
 have ht:t<N:=by omega
 have hk:ak=1∨ak=2∨ak=3:=by omega
 obtain⟨wb,hwb⟩:∃wb,(w.alloc (.cells #[.pointer p0,.int .i64 mask,.int .i64 must,.slice A N N,.slice B N N] 103)).alloc (.cells #[.int .i64 af,.int .i64 (t:Int),.int .i64 ak,.int .i64 al] 70)=wb:=⟨_,rfl⟩
 have u0:Upd No w wb:=by rw[←hwb];exact((Upd.refl No w).alloc _).alloc _
 obtain⟨aa,rfl,_,_,ca⟩:=(h.upd u0).a.at_ (k:=t) (by rw[ZbL];exact ht)
 obtain⟨ab,rfl,_,_,cb⟩:=(h.upd u0).b.at_ (k:=t) (by rw[ZbL];exact ht)
 have ea:(Zap N da)[t]'(by rw[ZbL];exact ht)=da t:=by have:=Zej da ht;rw[List.getElem?_eq_some_iff]at this;exact this.2
 have eb:(Zap N dw)[t]'(by rw[ZbL];exact ht)=dw t:=by have:=Zej dw ht;rw[List.getElem?_eq_some_iff]at this;exact this.2
 rw[ea]at ca
 rw[eb]at cb
 have i1:(0:Int)≤(t:Int):=Int.natCast_nonneg _
 rw[←hwb]at ca cb
 have U0:=Lib.hid u0
 subst hwb
 unfold HArc.cells
 clear h u0 ea eb hk1 hk2 ht0
 rcases hk with rfl|rfl|rfl
 ·have hb:=Zci (must/2)
  rw[show decide ((must/2)%2=1)=Zm must 1 from rfl]at hb
  have hv:=Lib.hid (show ZG must da dw need ⟨af,t,1,al⟩=if (need&& !Zm must 1)=true then dw t else da t from rfl)
  cases hbm:Zm must 1
  all_goals
   rw[hbm]at hb hv
   have hv':=hv.out
   first|rw[Bool.not_false]at hb|rw[Bool.not_true]at hb
   cases need
   all_goals
    have HV:=Lib.hid hv'
    clear hv hv' hbm
    go_enter Tryz.func103,Tryz.ntmps103
    go_wp2
    go_ret
    exact⟨by rw[HV.out];rfl,U0.out⟩
 ·have hb:=Zci (must/4)
  rw[show decide ((must/4)%2=1)=Zm must 2 from rfl]at hb
  have hv:=Lib.hid (show ZG must da dw need ⟨af,t,2,al⟩=if (need&& !Zm must 2)=true then dw t else da t from rfl)
  cases hbm:Zm must 2
  all_goals
   rw[hbm]at hb hv
   have hv':=hv.out
   first|rw[Bool.not_false]at hb|rw[Bool.not_true]at hb
   cases need
   all_goals
    have HV:=Lib.hid hv'
    clear hv hv' hbm
    go_enter Tryz.func103,Tryz.ntmps103
    go_wp2
    go_ret
    exact⟨by rw[HV.out];rfl,U0.out⟩
 ·have hb:=Zci (must/8)
  rw[show decide ((must/8)%2=1)=Zm must 3 from rfl]at hb
  have hv:=Lib.hid (show ZG must da dw need ⟨af,t,3,al⟩=if (need&& !Zm must 3)=true then dw t else da t from rfl)
  cases hbm:Zm must 3
  all_goals
   rw[hbm]at hb hv
   have hv':=hv.out
   first|rw[Bool.not_false]at hb|rw[Bool.not_true]at hb
   cases need
   all_goals
    have HV:=Lib.hid hv'
    clear hv hv' hbm
    go_enter Tryz.func103,Tryz.ntmps103
    go_wp2
    go_ret
    exact⟨by rw[HV.out];rfl,U0.out⟩
end Go.Proofs.YtklmahmfmbppkaaGreat
/- Closed walks:the rows at a node. -/
namespace Go.Proofs.YtklmahmfmbppkaaGreat
set_option linter.unusedSimpArgs false
set_option linter.unusedVariables false
open Go.RowKit
def ZU (N:Nat) (q:List HArc) (mask i:Int):Int→Int:=Zbu N (ofA mask q) i i
theorem ZmM (N:Nat) (q:List HArc) (mask must i:Int):Zbd N (ZcS N (ofA (bits .andNot .i64 mask must) q) (ofA (bits .and .i64 mask must) q) (bits .andNot .i64 mask must) (bits .and .i64 mask must) i i) 1=Zap N (Zp N q mask must i):=rfl
theorem Zi5 {w:World} {g:Nat} {xs:List Int} (h:Blk w g 3 (xs.map (Value.int .i64))):Ints (fun i=>i=g) w (some ⟨g,0,none⟩) xs:=
 Ints.of_row h rfl fun j v hj=>by rw[List.getElem?_toArray,List.getElem?_map,hj];rfl
set_option maxRecDepth 100000 in
set_option maxHeartbeats 4000000 in
theorem ZsN (w:World) (G:Nat→Prop) (p0:Option Addr) (N K:Nat) (q:List HArc) (h:DG w G p0 N K q) (hK:K≤100000) (mask must i:Int):
  Calls Tryz.prog 64 #[.pointer p0,.int .i64 mask,.int .i64 must,.int .i64 i] w fun e w'=>∃A B,e= .returned (.agg #[.pointer p0,.int .i64 mask,.int .i64 must,.slice A N N,.slice B N N])∧LoopI w' A B N (ZU N q mask i) (Zp N q mask must i)∧Upd No w w':=by
 obtain⟨wb,hwb⟩:∃wb,w.alloc (.cells #[.pointer none,.int .i64 0,.int .i64 0,.slice none 0 0,.slice none 0 0] 103)=wb:=⟨_,rfl⟩
 have u0:Upd No w wb:=by rw[←hwb];exact(Upd.refl No w).alloc _
 have HT:=Lib.hid (fun(W:World) (u:Upd No wb W)=>dto W G p0 N K q (h.no (u0.trans u)) hK mask i i)
 have HM:=Lib.hid (fun(W:World) (u:Upd No wb W)=>ZmM N q mask must i▸Zr8 W G p0 N K q (h.no (u0.trans u)) hK mask must i i)
 have bL:Blk wb w.heap.size 103 [.pointer none,.int .i64 0,.int .i64 0,.slice none 0 0,.slice none 0 0]:=by rw[←hwb];exact Blk.new w _ _
 have U0:=Lib.hid u0
 clear h u0
 go_enter Tryz.func64,Tryz.ntmps64
 go_wp2_with fail
 refine(HT.out wb (Upd.refl _ _)).mono ?_
 rintro e w1 ⟨ga,rfl,hb1,hg1,hu1⟩
 go_wp2_with fail
 refine(HM.out w1 hu1).mono ?_
 rintro e w2 ⟨gb,rfl,hb2,hg2,hu2⟩
 have hb:=(bL.upd hu1 id).upd hu2 id
 have c0:=hb.cell 0
 have c1:=hb.cell 1
 have c2:=hb.cell 2
 have c3:=hb.cell 3
 have c4:=hb.cell 4
 have f0:=hb.free 0
 have f1:=hb.free 1
 have f2:=hb.free 2
 have f3:=hb.free 3
 have f4:=hb.free 4
 simp only[List.getElem?_cons_zero,List.getElem?_cons_succ]at c0 c1 c2 c3 c4
 have hlt:=bL.lt
 have h1s:=hu1.size
 have U1:=Lib.hid (((U0.out.trans hu1).trans hu2))
 have HB1:=Lib.hid (hb1.upd hu2 id)
 have HB2:=Lib.hid hb2
 have n1:ga≠w.heap.size:=by omega
 have n2:gb≠w.heap.size:=by omega
 have HB:=Lib.hid hb
 clear hwb bL hb hb1 hb2 HT HM hu1 hu2
 go_wp2
 have b3:=(((((HB.out).set_ 0 (.pointer p0)).set_ 1 (.int .i64 mask)).set_ 2 (.int .i64 must)).set_ 3 (.slice (some ⟨ga,0,none⟩) (Zap N (Zbu N (ofA mask q) i i)).length (Zap N (Zbu N (ofA mask q) i i)).length)).set_ 4 (.slice (some ⟨gb,0,none⟩) (Zap N (Zp N q mask must i)).length (Zap N (Zp N q mask must i)).length)
 simp only[List.set_cons_zero,List.set_cons_succ]at b3
 have US:=(((((Upd.refl (One w.heap.size) w2).setOne 0 (.pointer p0)).setOne 1 (.int .i64 mask)).setOne 2 (.int .i64 must)).setOne 3 (.slice (some ⟨ga,0,none⟩) (Zap N (Zbu N (ofA mask q) i i)).length (Zap N (Zbu N (ofA mask q) i i)).length)).setOne 4 (.slice (some ⟨gb,0,none⟩) (Zap N (Zp N q mask must i)).length (Zap N (Zp N q mask must i)).length)
 refine bodyPost_ret (results_cell_row (p:=8) rfl _ _ _ _ _ _ _ rfl b3 Tryz.underlying103 rfl (by kernel_rfl)) rfl ⟨some ⟨ga,0,none⟩,some ⟨gb,0,none⟩,by simp only[ZbL],⟨?_,?_⟩,?_⟩
 ·exact(Zi5 (HB1.out.upd US n1)).weak (fun _ _ _=>trivial)
 ·exact(Zi5 (HB2.out.upd US n2)).weak (fun _ _ _=>trivial)
 ·exact U1.out.then_ US fun k e=> .inr (by unfold One at e;omega)
end Go.Proofs.YtklmahmfmbppkaaGreat
/- Closed walks,plain:the bounds of the rows. -/
namespace Go.Proofs.YtklmahmfmbppkaaGreat
set_option linter.unusedSimpArgs false
set_option linter.unusedVariables false
open Go.RowKit
theorem Zm5 {p:List HArc} {i:Int}:∀{l:List HArc} {u:Int},okW p i u l i→i≤u
 |[],u,h=>by have h:u=i:=h;omega
 |_::_,_,h=>h.2.2.1
theorem Zjz {N:Nat} {q:List HArc} (hN:N≤100000) (hr:∀a∈q,Zi N a=true) (mask must i:Int) (h0:0≤i) (h1:i<(N:Int)):
  ∀u,(-1≤ZU N q mask i u∧ZU N q mask i u≤900000)∧-1≤Zp N q mask must i u∧Zp N q mask must i u≤900000:=by
 intro u
 have hf:∀m,∀x∈ofA m q,0≤x.f∧x.f<(N:Int):=fun m x hx=>by
  have:=(ZF _ _).1 (hr x (mem_ofA.1 hx).1)
  exact⟨this.1,this.2.1⟩
 have hs:=ZfY h0 h1
 have hd:=Zkn (hf mask) i i
 refine⟨⟨hd.lo u,?_⟩,?_⟩
 ·have:=hd.hi u
  unfold ZU
  omega
 have hdm:i*2∈Zd (2*N):=mem_nodesZ.2 ⟨by omega,by omega⟩
 have hcl:∀v∈Zd (2*N),∀u∈Zv (ofA (bits .andNot .i64 mask must) q) (ofA (bits .and .i64 mask must) q) (bits .andNot .i64 mask must) (bits .and .i64 mask must) v,Zg i u=true→u∈Zd (2*N):=fun v _ u hu _=>Zgi (hf _) (hf _) v u hu
 have B0:=BInv.start (ok:=Zg i) (ps:=Zv (ofA (bits .andNot .i64 mask must) q) (ofA (bits .and .i64 mask must) q) (bits .andNot .i64 mask must) (bits .and .i64 mask must)) hdm (Zl (2*N))
 have B1:=ZeZ (Zl (2*N)) hcl (2*N) _ _ B0 (by have:=B0.fit;unfold Fits at this;rw[ZP]at this;exact this)
 have hw:Zp N q mask must i u=ZaV (Zg i) (Zv (ofA (bits .andNot .i64 mask must) q) (ofA (bits .and .i64 mask must) q) (bits .andNot .i64 mask must) (bits .and .i64 mask must)) (2*N) ((fun u=>if u=i*2 then 0 else -1),[i*2]) (u*2+1):=by
  unfold Zp ZcS
  rw[if_pos hs]
  rfl
 have h2:=B1.lo (u*2+1)
 have h3:=B1.cap (u*2+1)
 rw[ZP]at h3
 rw[hw]
 exact⟨h2,by omega⟩
theorem ZkZ {N:Nat} {q:List HArc} (hN:N≤100000) (hr:∀a∈q,Zi N a=true) (mask must i:Int) (h0:0≤i) (h1:i<(N:Int)):
  ∀u,(-1≤ZU N q mask i u∧ZU N q mask i u≤1000000)∧-1≤Zp N q mask must i u∧Zp N q mask must i u≤1000000:=fun u=>by
 have:=Zjz hN hr mask must i h0 h1 u
 omega
theorem ZnV {N:Nat} {q:List HArc} (hr:∀a∈q,Zi N a=true) (mask must i:Int) (h0:0≤i) (h1:i<(N:Int)) (u:Int) (hu:0≤ZU N q mask i u):i≤u:=by
 obtain⟨l,h,_⟩:=(ZeO hr mask must i h0 h1).a2 u hu
 exact Zm5 h
theorem ZkV {N:Nat} {q:List HArc} (hr:∀a∈q,Zi N a=true) (mask must i:Int) (h0:0≤i) (h1:i<(N:Int)) (u:Int) (hu:0≤Zp N q mask must i u):i≤u:=by
 obtain⟨l,h,_⟩:=(ZeO hr mask must i h0 h1).w2 u hu
 exact Zm5 h
end Go.Proofs.YtklmahmfmbppkaaGreat
/- Closed walks:how many arcs the shortest has. -/
namespace Go.Proofs.YtklmahmfmbppkaaGreat
set_option linter.unusedSimpArgs false
set_option linter.unusedVariables false
open Go.RowKit
theorem Zqj {must:Int} {da dw:Int→Int} (hbd:∀u,(-1≤da u∧da u≤1000000)∧-1≤dw u∧dw u≤1000000) (need:Bool) (x:HArc): -1≤ZG must da dw need x∧ZG must da dw need x≤1000000:=by
 unfold ZG
 split
 ·exact(hbd x.t).2
 ·exact(hbd x.t).1
theorem ZkE (lf:HArc→Int) (best:Int) (a:HArc) (l:List HArc):ZN lf best (a::l)=ZN lf (if (decide (0≤lf a)&&(best==0||decide (lf a+1<best)))=true then lf a+1 else best) l:=rfl
set_option maxRecDepth 100000 in
set_option maxHeartbeats 4000000 in
theorem ZnK (w:World) (G:Nat→Prop) (p0 A B:Option Addr) (N K:Nat) (q:List HArc) (hG:DG w G p0 N K q) (hK:K≤100000) (mask must:Int) (da dw:Int→Int) (h:LoopI w A B N da dw)
  (hbd:∀u,(-1≤da u∧da u≤1000000)∧-1≤dw u∧dw u≤1000000) (i:Int) (need:Bool):
  Calls Tryz.prog 65 #[.agg #[.pointer p0,.int .i64 mask,.int .i64 must,.slice A N N,.slice B N N],.int .i64 i,.bool need] w fun e w'=>e= .returned (.int .i64 (Z1 (ofA mask q) must i da dw need))∧Upd No w w':=by
 obtain⟨wb,hwb⟩:∃wb,w.alloc (.cells #[.pointer p0,.int .i64 mask,.int .i64 must,.slice A N N,.slice B N N] 103)=wb:=⟨_,rfl⟩
 have u0:Upd No w wb:=by rw[←hwb];exact(Upd.refl No w).alloc _
 have bL:Blk wb w.heap.size 103 [.pointer p0,.int .i64 mask,.int .i64 must,.slice A N N,.slice B N N]:=by rw[←hwb];exact Blk.new w _ _
 have U0:=Lib.hid u0
 obtain⟨ys,hys⟩:∃ys,((ofA mask q).filter fun a=>a.f==i)=ys:=⟨_,rfl⟩
 have hyr:∀y∈ys,(1≤y.kind∧y.kind≤3)∧0≤y.t∧y.t<(N:Int):=fun y hy=>by
  rw[←hys]at hy
  have:=(ZF _ _).1 (hG.right y (mem_ofA.1 (List.mem_filter.1 hy).1).1)
  exact⟨⟨this.2.2.2.2.1,this.2.2.2.2.2.1⟩,this.2.2.1,this.2.2.2.1⟩
 have hyl:ys.length≤1000000:=by
  rw[←hys]
  have h1:=List.length_filter_le (fun a:HArc=>a.f==i) (ofA mask q)
  have h2:=List.length_filter_le (fun x:HArc=>Zm mask x.kind) q
  have h3:=hG.few
  unfold ofA at h1 ⊢
  omega
 have HO:=Lib.hid (hys▸ZpE (hG.no u0) i mask)
 have HLI:=Lib.hid (fun(W:World) (u:Upd No wb W)=>h.upd (u0.trans u))
 have HBL:=Lib.hid (fun(W:World) (u:Upd No wb W)=>bL.upd u id)
 obtain⟨R,hR⟩:∃R,Z1 (ofA mask q) must i da dw need=R:=⟨_,rfl⟩
 have HR:=Lib.hid (show ZN (ZG must da dw need) 0 ys=R by rw[←hR,←hys];rfl)
 rw[hR]
 have c0:=bL.cell 0
 have c1:=bL.cell 1
 simp only[List.getElem?_cons_zero,List.getElem?_cons_succ]at c0 c1
 have HY:=Lib.hid hyr
 clear hR hys hG h bL u0 hyr
 go_enter Tryz.func65,Tryz.ntmps65
 go_wp2_with fail
 refine(HO.out).mono ?_
 rintro e w1 ⟨A1,k1,rfl,ho1,hu1⟩
 have Ho1:=Lib.hid (Zd0 ho1)
 have Hu1:=Lib.hid hu1
 clear ho1 hu1 HO c0 c1
 go_wp2
 go_loopg [7,18] ys.length (fun gk s j wr=>∃(k:Nat) (b:Int),k+gk=ys.length∧j= .int .i64 k∧s= .int .i64 b∧0≤b∧b≤1000001∧Hid (ZN (ZG must da dw need) b (ys.drop k)=R)∧Upd No w1 wr)
 case atStart=>exact⟨0,0,by omega,rfl,rfl,by omega,by omega,HR,Upd.refl _ _⟩
 case round=>
  obtain⟨k,b,hgk,rfl,rfl,hb0,hb1,hs,hu⟩:=hrel
  by_cases hlt:k<ys.length
  ·obtain⟨ax,rfl,q0,q1,q2,q3⟩:=(Ho1.out.upd hu (fun _ _=>id)).at_ hlt
   obtain⟨x,hx⟩:∃x,ys[k]=x:=⟨_,rfl⟩
   obtain⟨⟨hk1,hk2⟩,ht0,ht1⟩:=HY.out _ (List.getElem_mem hlt)
   rw[hx]at q0 q1 q2 q3 hk1 hk2 ht0 ht1
   have hs':=hs.out
   rw[List.drop_eq_getElem_cons hlt,hx,ZkE]at hs'
   have hv:=Zqj (must:=must) hbd need x
   have i1:(0:Int)≤(k:Int):=Int.natCast_nonneg _
   have i2:(k:Int)<(ys.length:Int):=by omega
   have uA:=(Upd.refl No wr).alloc (.cells #[.int .i64 x.f,.int .i64 x.t,.int .i64 x.kind,.int .i64 x.label] 70)
   have bo:=Blk.new wr 70 [.int .i64 x.f,.int .i64 x.t,.int .i64 x.kind,.int .i64 x.label]
   have g0:=bo.cell 0
   have g1:=bo.cell 1
   have g2:=bo.cell 2
   have g3:=bo.cell 3
   have bw:=HBL.out _ ((Hu1.out.trans hu).trans uA)
   have c0:=bw.cell 0
   have c1:=bw.cell 1
   have c2:=bw.cell 2
   have c3:=bw.cell 3
   have c4:=bw.cell 4
   simp only[List.getElem?_cons_zero,List.getElem?_cons_succ]at g0 g1 g2 g3 c0 c1 c2 c3 c4
   have HF:=Lib.hid (ZpJ _ p0 A B N mask must da dw (HLI.out _ ((Hu1.out.trans hu).trans uA)) x hk1 hk2 ht0 ht1 need)
   generalize ZG must da dw need x=v at hs' hv HF
   have hw1:IntKind.i64.wrap (v+1)=v+1:=IntWalk.i64_in _ (by omega)
   have HUA:=Lib.hid (hu.trans uA)
   have HS:=Lib.hid hs'
   unfold HArc.cells at HF
   clear hs hs' hx hk1 hk2 ht0 ht1 bo bw uA
   go_wp2_with fail
   refine(HF.out).mono ?_
   rintro e w2 ⟨rfl,hu2⟩
   have HU2:=Lib.hid (HUA.out.trans hu2)
   clear hu2 HF
   by_cases hv0:0≤v
   ·have hn1:decide (0≤v)=true:=decide_eq_true hv0
    by_cases hbz:b=0
    ·subst hbz
     have HS2:=Lib.hid (show ZN (ZG must da dw need) (v+1) (ys.drop (k+1))=R by have:=HS.out;rw[hn1]at this;exact this)
     go_wp2
     go_roundg (gk-1)
     case measure=>omega
     case rel=>exact⟨k+1,v+1,by omega,by go_num,by first|rfl|simp,by omega,by omega,HS2,HU2.out⟩
    ·have hn2:(b==0)=false:=beq_eq_false_iff_ne.2 hbz
     by_cases hvb:v+1<b
     ·have hn3:decide (v+1<b)=true:=decide_eq_true hvb
      have HS2:=Lib.hid (show ZN (ZG must da dw need) (v+1) (ys.drop (k+1))=R by have:=HS.out;rw[hn1,hn2,hn3]at this;exact this)
      go_wp2
      go_roundg (gk-1)
      case measure=>omega
      case rel=>exact⟨k+1,v+1,by omega,by go_num,by first|rfl|simp,by omega,by omega,HS2,HU2.out⟩
     ·have hn3:decide (v+1<b)=false:=decide_eq_false hvb
      have HS2:=Lib.hid (show ZN (ZG must da dw need) b (ys.drop (k+1))=R by have:=HS.out;rw[hn1,hn2,hn3]at this;exact this)
      go_wp2
      go_roundg (gk-1)
      case measure=>omega
      case rel=>exact⟨k+1,b,by omega,by go_num,by first|rfl|simp,by omega,by omega,HS2,HU2.out⟩
   ·have hn1:decide (0≤v)=false:=decide_eq_false hv0
    have HS2:=Lib.hid (show ZN (ZG must da dw need) b (ys.drop (k+1))=R by have:=HS.out;rw[hn1]at this;exact this)
    go_wp2
    go_roundg (gk-1)
    case measure=>omega
    case rel=>exact⟨k+1,b,by omega,by go_num,by first|rfl|simp,by omega,by omega,HS2,HU2.out⟩
  ·obtain rfl:k=ys.length:=by omega
   have Hx:=Lib.hid (show b=R by have:=hs.out;rw[List.drop_length]at this;exact this)
   clear hs
   go_wp2
   go_ret
   exact⟨by first|rfl|(rw[Hx.out];rfl)|(rw[←Hx.out];rfl),(U0.out.trans Hu1.out).trans hu⟩
end Go.Proofs.YtklmahmfmbppkaaGreat
/- Closed walks:the first of so many arcs. -/
namespace Go.Proofs.YtklmahmfmbppkaaGreat
set_option linter.unusedSimpArgs false
set_option linter.unusedVariables false
open Go.RowKit
def isC (must i:Int) (da dw:Int→Int) (n:Int) (need:Bool) (a:HArc):Bool:=decide (i≤a.t)&&decide (ZG must da dw need a=n)
theorem ZlB {p:List HArc} {must i:Int} {da dw:Int→Int} {n:Nat} {here:Int} {need:Bool} {a:HArc} (h:(p.filter fun a=>a.f==here).find? (isC must i da dw (n:Int) need)=some a):
  ZC p must i da dw (n+1) here need=a::ZC p must i da dw n a.t (need&& !isM must a):=by
 show(match (p.filter fun a=>a.f==here).find? (isC must i da dw (n:Int) need)with|some a=>a::ZC p must i da dw n a.t (need&& !isM must a)|none=>ZC p must i da dw n here need)=_
 rw[h]
theorem ZlC {p:List HArc} {must i:Int} {da dw:Int→Int} {n:Nat} {here:Int} {need:Bool} (h:(p.filter fun a=>a.f==here).find? (isC must i da dw (n:Int) need)=none):
  ZC p must i da dw (n+1) here need=ZC p must i da dw n here need:=by
 show(match (p.filter fun a=>a.f==here).find? (isC must i da dw (n:Int) need)with|some a=>a::ZC p must i da dw n a.t (need&& !isM must a)|none=>ZC p must i da dw n here need)=_
 rw[h]
theorem Zmd {l:List HArc} {k:Nat} {x:HArc} {P:HArc→Bool} (hk:k<l.length) (hx:l[k]=x) (h:P x=true):(l.drop k).find? P=some x:=by
 rw[List.drop_eq_getElem_cons hk,hx,List.find?_cons_of_pos h]
theorem ZhC {l:List HArc} {k:Nat} {x:HArc} {P:HArc→Bool} (hk:k<l.length) (hx:l[k]=x) (h:P x=false):(l.drop k).find? P=(l.drop (k+1)).find? P:=by
 rw[List.drop_eq_getElem_cons hk,hx,List.find?_cons_of_neg (by simp[h])]
theorem Zm9 (must:Int) (x:HArc):(x.kind=1→(bits .and .i64 (must/2) 1==0)= !isM must x)∧(x.kind=2→(bits .and .i64 (must/4) 1==0)= !isM must x)∧(x.kind=3→(bits .and .i64 (must/8) 1==0)= !isM must x):=by
 unfold isM Zm
 refine⟨fun e=> ?_,fun e=> ?_,fun e=> ?_⟩<;>(rw[Zci,e];rfl)
set_option maxRecDepth 100000 in
set_option maxHeartbeats 8000000 in
theorem Zse (w:World) (G:Nat→Prop) (p0 A B:Option Addr) (N K:Nat) (q:List HArc) (hG:DG w G p0 N K q) (hK:K≤100000) (mask must:Int) (da dw:Int→Int) (h:LoopI w A B N da dw)
  (hbd:∀u,(-1≤da u∧da u≤1000000)∧-1≤dw u∧dw u≤1000000) (i:Int) (n:Nat) (hn:n≤1000000) (need:Bool):
  Calls Tryz.prog 66 #[.agg #[.pointer p0,.int .i64 mask,.int .i64 must,.slice A N N,.slice B N N],.int .i64 i,.int .i64 n,.bool need] w (Zkx w (ZC (ofA mask q) must i da dw n i need)):=by
 obtain⟨wb,hwb⟩:∃wb,w.alloc (.cells #[.pointer p0,.int .i64 mask,.int .i64 must,.slice A N N,.slice B N N] 103)=wb:=⟨_,rfl⟩
 have u0:Upd No w wb:=by rw[←hwb];exact(Upd.refl No w).alloc _
 have bL:Blk wb w.heap.size 103 [.pointer p0,.int .i64 mask,.int .i64 must,.slice A N N,.slice B N N]:=by rw[←hwb];exact Blk.new w _ _
 have U0:=Lib.hid u0
 obtain⟨p,hp⟩:∃p,ofA mask q=p:=⟨_,rfl⟩
 have hpr:∀y∈p,(1≤y.kind∧y.kind≤3)∧0≤y.t∧y.t<(N:Int):=fun y hy=>by
  rw[←hp]at hy
  have:=(ZF _ _).1 (hG.right y (mem_ofA.1 hy).1)
  exact⟨⟨this.2.2.2.2.1,this.2.2.2.2.2.1⟩,this.2.2.1,this.2.2.2.1⟩
 have hpl:p.length≤1000000:=by
  rw[←hp]
  have h2:=List.length_filter_le (fun x:HArc=>Zm mask x.kind) q
  have h3:=hG.few
  unfold ofA
  omega
 have HO:=Lib.hid (fun(W:World) (u:Upd No wb W) (j:Int)=>hp▸ZpE (hG.no (u0.trans u)) j mask)
 have HLI:=Lib.hid (fun(W:World) (u:Upd No wb W)=>h.upd (u0.trans u))
 have HBL:=Lib.hid (fun(W:World) (u:Upd No wb W)=>bL.upd u id)
 have HLT:=Lib.hid bL.lt
 rw[hp]
 obtain⟨R,hR⟩:∃R,ZC p must i da dw n i need=R:=⟨_,rfl⟩
 have HR:=Lib.hid hR
 rw[hR]
 have HP:=Lib.hid hpr
 clear hR hp hG h bL u0 hpr
 go_enter Tryz.func66,Tryz.ntmps66
 go_wp2
 go_loopg [2,3,9,10] n (fun gk sn sd s a wr=>∃(nd:Bool) (A5:Option Addr) (c5:Nat) (xs:List HArc) (ai:Int),sn= .int .i64 (gk:Int)∧sd= .bool nd∧s= .slice A5 xs.length c5∧a= .int .i64 ai∧Hid (xs++ZC p must i da dw gk ai nd=R)∧
  xs.length+gk≤n∧wr.ownsRow wb.heap.size 70 4 (.slice A5 xs.length c5) xs.length (ZaC xs)∧Upd No wb wr)
 case atStart=>exact⟨need,none,0,[],i,rfl,rfl,rfl,rfl,Lib.hid (by rw[List.nil_append];exact HR.out),by simp,World.ownsRow_nil _ _ _ _,Upd.refl _ _⟩
 case round=>
  obtain⟨nd,A5,c5,xs,ai,rfl,rfl,rfl,rfl,hR,hxl,hown,hu⟩:=hrel
  cases gk with
  |zero=>
   have HRx:=Lib.hid (show xs=R by have:=hR.out;simpa[ZC]using this)
   clear hR
   go_wp2
   go_ret
   have:=U0.out.size
   rw[←HRx.out]
   exact⟨A5,c5,rfl,Z9 hown this,U0.out.trans hu⟩
  |succ g1=>
   obtain⟨ys,hys⟩:∃ys,(p.filter fun a=>a.f==ai)=ys:=⟨_,rfl⟩
   have hyl:ys.length≤1000000:=by rw[←hys];exact Nat.le_trans (List.length_filter_le _ _) hpl
   have hyp:∀y∈ys,y∈p:=fun y hy=>by rw[←hys]at hy;exact(List.mem_filter.1 hy).1
   have hO:=Lib.hid (hys▸HO.out wr hu ai)
   have HYS:=Lib.hid hys
   have HYP:=Lib.hid hyp
   have HR2:=hR
   have bw:=HBL.out wr hu
   have c0:=bw.cell 0
   have c1:=bw.cell 1
   simp only[List.getElem?_cons_zero,List.getElem?_cons_succ]at c0 c1
   have hg0:(0:Int)<((g1+1:Nat):Int):=by omega
   clear hys hyp hR bw
   obtain⟨ng,hng⟩:∃ng:Int,((g1+1:Nat):Int)=ng:=⟨_,rfl⟩
   rw[hng]at hg0
   have hw1:IntKind.i64.wrap (ng-1)=ng-1:=IntWalk.i64_in _ (by omega)
   generalize hgg:g1+1=m0 at*
   rw[hng]
   go_wp2_with fail
   refine(hO.out).mono ?_
   rintro e w3 ⟨A7,c7,rfl,ho7,hu7⟩
   have HOW:=Lib.hid hown
   have HY:=Lib.hid (Zd0 ho7)
   have HO3:=Lib.hid (Za hown hu7 (fun _ _=>id))
   have HU3:=Lib.hid (hu.trans hu7)
   clear hO ho7 hu7 hown hu c0 c1
   go_wp2
   obtain⟨fo,hfo⟩:∃fo,ys.find? (isC must i da dw (g1:Int) nd)=fo:=⟨_,rfl⟩
   have HFO:=Lib.hid hfo
   have HG1:=Lib.hid (show(g1:Int)=ng-1 by omega)
   clear hfo
   go_loopg [3,9,10,25] ys.length (fun gk sd s a j wr=>∃(k:Nat),k+gk=ys.length∧j= .int .i64 k∧sd= .bool nd∧s= .slice A5 xs.length c5∧a= .int .i64 ai∧Hid ((ys.drop k).find? (isC must i da dw (g1:Int) nd)=fo)∧Upd No w3 wr)
   case atStart=>exact⟨0,by omega,rfl,rfl,rfl,rfl,HFO,Upd.refl _ _⟩
   case round=>
    obtain⟨k,hgj,rfl,rfl,rfl,rfl,hf,hu⟩:=hrel
    by_cases hlt:k<ys.length
    ·obtain⟨ax,rfl,q0,q1,q2,q3⟩:=(HY.out.upd hu (fun _ _=>id)).at_ hlt
     obtain⟨x,hx⟩:∃x,ys[k]=x:=⟨_,rfl⟩
     obtain⟨⟨hk1,hk2⟩,ht0,ht1⟩:=HP.out _ (HYP.out _ (List.getElem_mem hlt))
     rw[hx]at q0 q1 q2 q3 hk1 hk2 ht0 ht1
     have i1:(0:Int)≤(k:Int):=Int.natCast_nonneg _
     have i2:(k:Int)<(ys.length:Int):=by omega
     obtain⟨wx,hwx⟩:∃wx,wr.alloc (.cells #[.int .i64 x.f,.int .i64 x.t,.int .i64 x.kind,.int .i64 x.label] 70)=wx:=⟨_,rfl⟩
     have ux:Upd No wr wx:=by rw[←hwx];exact(Upd.refl No wr).alloc _
     have bo:Blk wx wr.heap.size 70 [.int .i64 x.f,.int .i64 x.t,.int .i64 x.kind,.int .i64 x.label]:=by rw[←hwx];exact Blk.new wr _ _
     have HUX:=Lib.hid (hu.trans ux)
     have g0:=bo.cell 0
     have g1':=bo.cell 1
     have g2:=bo.cell 2
     have g3:=bo.cell 3
     have bw:=HBL.out wx (HU3.out.trans HUX.out)
     have c0:=bw.cell 0
     have c1:=bw.cell 1
     have c2:=bw.cell 2
     have c3:=bw.cell 3
     have c4:=bw.cell 4
     simp only[List.getElem?_cons_zero,List.getElem?_cons_succ]at g0 g1' g2 g3 c0 c1 c2 c3 c4
     have hown0:=Za HO3.out hu (fun _ _=>id)
     have HGE:=Lib.hid (fun i e=>(hown0.lt i e).2)
     have HB0:=Lib.hid (fun i e=>(hown0.lt i e).1)
     have HOX:=Lib.hid (Za hown0 ux (fun _ _=>id))
     have BO:=Lib.hid bo
     have HF:=Lib.hid (ZpJ wx p0 A B N mask must da dw (HLI.out wx (HU3.out.trans HUX.out)) x hk1 hk2 ht0 ht1 nd)
     have HK:=Lib.hid (show x.kind=1∨x.kind=2∨x.kind=3 by omega)
     have HX:=Lib.hid hx
     have hval:isC must i da dw (g1:Int) nd x=(decide (i≤x.t)&&decide (ZG must da dw nd x=ng-1)):=by unfold isC;rw[HG1.out]
     generalize ZG must da dw nd x=v at hval HF
     have HVAL:=Lib.hid hval
     unfold HArc.cells at HF
     clear hx hk1 hk2 ht0 ht1 bo bw ux hown0 hval hu
     by_cases hl:x.t<i
     ·have HN:=Lib.hid (show(ys.drop (k+1)).find? (isC must i da dw (g1:Int) nd)=fo by rw[←hf.out,ZhC hlt HX.out (by rw[HVAL.out,decide_eq_false (by omega)];rfl)])
      go_wp2
      go_roundg (gk-1)
      case measure=>omega
      case rel=>exact⟨k+1,by omega,by go_num,rfl,rfl,rfl,HN,HUX.out⟩
     ·go_wp2_with fail
      refine(HF.out).mono ?_
      rintro e w4 ⟨rfl,hu4⟩
      have bo4:=BO.out.upd hu4 id
      have g0:=bo4.cell 0
      have g1':=bo4.cell 1
      have g2:=bo4.cell 2
      have g3:=bo4.cell 3
      have BW4:=Lib.hid (HBL.out w4 ((HU3.out.trans HUX.out).trans hu4))
      have HO4:=Lib.hid (Za HOX.out hu4 (fun _ _=>id))
      have HU4:=Lib.hid ((HU3.out.trans HUX.out).trans hu4)
      have HU43:=Lib.hid (HUX.out.trans hu4)
      have hz4:=((HU3.out.trans HUX.out).trans hu4).size
      have BO4:=Lib.hid bo4
      simp only[List.getElem?_cons_zero,List.getElem?_cons_succ]at g0 g1' g2 g3
      clear bo4 BO HOX HF hu4 c0 c1 c2 c3 c4 q0 q1 q2 q3 hwx
      by_cases hv:v=ng-1
      ·have hv1:(v==ng-1)=true:=by simpa using hv
       have hv2:(v != ng-1)=false:=by simpa using hv
       have HFX:=Lib.hid (show fo=some x by rw[←hf.out,Zmd hlt HX.out (by rw[HVAL.out,decide_eq_true hl,decide_eq_true hv];rfl)])
       have HRX:=Lib.hid (show xs++(x::ZC p must i da dw g1 x.t (nd&& !isM must x))=R by
        have:=HR2.out
        rw[←hgg,ZlB (by rw[HYS.out,HFO.out,HFX.out])]at this
        exact this)
       clear HVAL HX HFX hv hf
       have HL:=Lib.hid (Zi7 xs)
       obtain⟨xf,xt,xk,xl⟩:=x
       simp only at g0 g1' g2 g3 HRX HK
       cases nd
       ·have HRY:=Lib.hid (show(xs++[(⟨xf,xt,xk,xl⟩:HArc)])++ZC p must i da dw g1 xt false=R by have:=HRX.out;rw[Bool.false_and]at this;rw[List.append_assoc];exact this)
        clear HRX
        go_wp2_with (at_builtin;refine Zbw rfl rfl Zdj (v:= .slice A5 xs.length c5) (n:=xs.length) (xs:=ZaC xs) (by rfl) rfl HO4.out rfl rfl (by omega) (by omega) hz4 ?_;intro g9 c9 w9 hown9 hu9 hg9 hlt9;have b9:=BO4.out.upd hu9 (fun e=>absurd (HGE.out _ e) (Nat.lt_irrefl _));have l9:=BW4.out.upd hu9 (fun e=>absurd HLT.out (Nat.not_lt.2 (HB0.out _ e)));have r1:=b9.cell 1;have r2:=b9.cell 2;have r3:=l9.cell 2;simp only[List.getElem?_cons_zero,List.getElem?_cons_succ]at r1 r2 r3;have HO9:=Lib.hid hown9;have HU9:=Lib.hid hu9;clear hown9 hu9 hg9 b9 l9 g0 g1' g2 g3)
        go_roundg g1
        case measure=>omega
        case rel=>exact⟨_,some ⟨g9,0,none⟩,c9,_,_,by rw[HG1.out],rfl,by simp,rfl,HRY,by simp;omega,by simpa[ZaC,HArc.cells]using HO9.out,HU4.out.then_ HU9.out fun i e=> .inr (HB0.out i e)⟩
       ·have HNX:=Lib.hid (Zm9 must ⟨xf,xt,xk,xl⟩)
        rcases HK.out with rfl|rfl|rfl
        ·have HRY:=Lib.hid (show(xs++[(⟨xf,xt,1,xl⟩:HArc)])++ZC p must i da dw g1 xt (bits .and .i64 (must/2) 1==0)=R by have:=HRX.out;rw[Bool.true_and,←HNX.out.1 rfl]at this;rw[List.append_assoc];exact this)
         clear HRX HK
         go_wp2_with (at_builtin;refine Zbw rfl rfl Zdj (v:= .slice A5 xs.length c5) (n:=xs.length) (xs:=ZaC xs) (by rfl) rfl HO4.out rfl rfl (by omega) (by omega) hz4 ?_;intro g9 c9 w9 hown9 hu9 hg9 hlt9;have b9:=BO4.out.upd hu9 (fun e=>absurd (HGE.out _ e) (Nat.lt_irrefl _));have l9:=BW4.out.upd hu9 (fun e=>absurd HLT.out (Nat.not_lt.2 (HB0.out _ e)));have r1:=b9.cell 1;have r2:=b9.cell 2;have r3:=l9.cell 2;simp only[List.getElem?_cons_zero,List.getElem?_cons_succ]at r1 r2 r3;have HO9:=Lib.hid hown9;have HU9:=Lib.hid hu9;clear hown9 hu9 hg9 b9 l9 g0 g1' g2 g3)
         go_roundg g1
         case measure=>omega
         case rel=>exact⟨_,some ⟨g9,0,none⟩,c9,_,_,by rw[HG1.out],rfl,by simp,rfl,HRY,by simp;omega,by simpa[ZaC,HArc.cells]using HO9.out,HU4.out.then_ HU9.out fun i e=> .inr (HB0.out i e)⟩
        ·have HRY:=Lib.hid (show(xs++[(⟨xf,xt,2,xl⟩:HArc)])++ZC p must i da dw g1 xt (bits .and .i64 (must/4) 1==0)=R by have:=HRX.out;rw[Bool.true_and,←HNX.out.2.1 rfl]at this;rw[List.append_assoc];exact this)
         clear HRX HK
         go_wp2_with (at_builtin;refine Zbw rfl rfl Zdj (v:= .slice A5 xs.length c5) (n:=xs.length) (xs:=ZaC xs) (by rfl) rfl HO4.out rfl rfl (by omega) (by omega) hz4 ?_;intro g9 c9 w9 hown9 hu9 hg9 hlt9;have b9:=BO4.out.upd hu9 (fun e=>absurd (HGE.out _ e) (Nat.lt_irrefl _));have l9:=BW4.out.upd hu9 (fun e=>absurd HLT.out (Nat.not_lt.2 (HB0.out _ e)));have r1:=b9.cell 1;have r2:=b9.cell 2;have r3:=l9.cell 2;simp only[List.getElem?_cons_zero,List.getElem?_cons_succ]at r1 r2 r3;have HO9:=Lib.hid hown9;have HU9:=Lib.hid hu9;clear hown9 hu9 hg9 b9 l9 g0 g1' g2 g3)
         go_roundg g1
         case measure=>omega
         case rel=>exact⟨_,some ⟨g9,0,none⟩,c9,_,_,by rw[HG1.out],rfl,by simp,rfl,HRY,by simp;omega,by simpa[ZaC,HArc.cells]using HO9.out,HU4.out.then_ HU9.out fun i e=> .inr (HB0.out i e)⟩
        ·have HRY:=Lib.hid (show(xs++[(⟨xf,xt,3,xl⟩:HArc)])++ZC p must i da dw g1 xt (bits .and .i64 (must/8) 1==0)=R by have:=HRX.out;rw[Bool.true_and,←HNX.out.2.2 rfl]at this;rw[List.append_assoc];exact this)
         clear HRX HK
         go_wp2_with (at_builtin;refine Zbw rfl rfl Zdj (v:= .slice A5 xs.length c5) (n:=xs.length) (xs:=ZaC xs) (by rfl) rfl HO4.out rfl rfl (by omega) (by omega) hz4 ?_;intro g9 c9 w9 hown9 hu9 hg9 hlt9;have b9:=BO4.out.upd hu9 (fun e=>absurd (HGE.out _ e) (Nat.lt_irrefl _));have l9:=BW4.out.upd hu9 (fun e=>absurd HLT.out (Nat.not_lt.2 (HB0.out _ e)));have r1:=b9.cell 1;have r2:=b9.cell 2;have r3:=l9.cell 2;simp only[List.getElem?_cons_zero,List.getElem?_cons_succ]at r1 r2 r3;have HO9:=Lib.hid hown9;have HU9:=Lib.hid hu9;clear hown9 hu9 hg9 b9 l9 g0 g1' g2 g3)
         go_roundg g1
         case measure=>omega
         case rel=>exact⟨_,some ⟨g9,0,none⟩,c9,_,_,by rw[HG1.out],rfl,by simp,rfl,HRY,by simp;omega,by simpa[ZaC,HArc.cells]using HO9.out,HU4.out.then_ HU9.out fun i e=> .inr (HB0.out i e)⟩
      ·have hv1:(v==ng-1)=false:=by simpa using hv
       have hv2:(v != ng-1)=true:=by simpa using hv
       have HN:=Lib.hid (show(ys.drop (k+1)).find? (isC must i da dw (g1:Int) nd)=fo by rw[←hf.out,ZhC hlt HX.out (by rw[HVAL.out,decide_eq_false hv,Bool.and_false])])
       clear HVAL HX hv hf
       go_wp2
       go_roundg (gk-1)
       case measure=>omega
       case rel=>exact⟨k+1,by omega,by go_num,rfl,rfl,rfl,HN,HU43.out⟩
    ·obtain rfl:k=ys.length:=by omega
     have HRX:=Lib.hid (show xs++ZC p must i da dw g1 ai nd=R by
      have hfo:=hf.out
      rw[List.drop_length,List.find?_nil]at hfo
      have:=HR2.out
      rw[←hgg,ZlC (by rw[HYS.out,HFO.out,←hfo])]at this
      exact this)
     clear hf HFO
     go_wp2
     go_roundg g1
     case measure=>omega
     case rel=>exact⟨nd,A5,c5,xs,ai,by rw[HG1.out],rfl,rfl,rfl,HRX,by omega,Za HO3.out hu (fun _ _=>id),HU3.out.trans hu⟩
end Go.Proofs.YtklmahmfmbppkaaGreat
/- Closed walks:numbers by ranks. -/
namespace Go.Proofs.YtklmahmfmbppkaaGreat
set_option linter.unusedSimpArgs false
set_option linter.unusedVariables false
open Go.RowKit
set_option maxRecDepth 100000 in
set_option maxHeartbeats 4000000 in
theorem Zer (w:World) (base:Nat) (A:Option Addr) (c:Nat) (l:List Int) (hown:w.ownsRow base 3 1 (.slice A l.length c) l.length (l.map (Value.int .i64))) (hl:l.length≤17592186044415):
  Calls Tryz.prog 98 #[.slice A l.length c] w fun e w'=>e= .returned (.slice A (ZA l).length c)∧w'.ownsRow base 3 1 (.slice A (ZA l).length c) (ZA l).length ((ZA l).map (Value.int .i64))∧Upd (Own (.slice A l.length c)) w w':=by
 have HS:=Lib.hid (Zhs w base A c l hown hl)
 have HC:=Lib.hid (fun(W:World) (ho:W.ownsRow base 3 1 (.slice A l.length c) l.length ((ZX l).map (Value.int .i64)))=>(by
  have h1:=Zgx W base A c (ZX l) (by rw[Zbi];exact ho) (by rw[Zbi];exact hl)
  rw[Zbi,Zcu]at h1
  exact h1:Calls Tryz.prog 136 #[.slice A l.length c] W fun e w'=>e= .returned (.slice A (ZA l).length c)∧w'.ownsRow base 3 1 (.slice A (ZA l).length c) (ZA l).length ((ZA l).map (Value.int .i64))∧Upd (Own (.slice A l.length c)) W w'))
 clear hown
 go_enter Tryz.func98,Tryz.ntmps98
 go_wp2_with fail
 refine(HS.out).mono ?_
 rintro e w1 ⟨rfl,ho1,hu1⟩
 go_wp2_with fail
 refine(HC.out w1 ho1).mono ?_
 rintro e w2 ⟨rfl,ho2,hu2⟩
 go_wp2
 go_ret
 exact⟨rfl,ho2,hu1.trans hu2⟩
end Go.Proofs.YtklmahmfmbppkaaGreat
/- Closed walks,plain:ids and their ranks;what the first of the shortest is. -/
namespace Go.Proofs.YtklmahmfmbppkaaGreat
set_option linter.unusedSimpArgs false
set_option linter.unusedVariables false
open Go.RowKit
def rk:List Int→Int→Int
 |[],_=>0
 |a::s,x=>if a<x then rk s x+1 else 0
theorem Zc9:∀(s:List Int) (x:Int),0≤rk s x∧rk s x≤(s.length:Int)
 |[],x=>by simp[rk]
 |a::s,x=>by
  have:=Zc9 s x
  unfold rk
  simp only[List.length_cons]
  split<;>omega
theorem Zk0:∀{s:List Int} {x:Int},(∀y∈s,x≤y)→rk s x=0
 |[],_,_=>rfl
 |a::s,x,h=>by
  unfold rk
  rw[if_neg (by have:=h a List.mem_cons_self;omega)]
theorem ZfK:∀{s:List Int} {x y:Int},s.Pairwise (·<·)→x∈s→x<y→rk s x<rk s y
 |[],x,y,_,h,_=>by cases h
 |a::s,x,y,hs,h,hxy=>by
  rw[List.pairwise_cons]at hs
  rcases List.mem_cons.1 h with rfl|h
  ·have e1:rk (x::s) x=0:=Zk0 fun z hz=>by
    rcases List.mem_cons.1 hz with rfl|hz
    ·exact Int.le_refl _
    ·exact Int.le_of_lt (hs.1 z hz)
   rw[e1]
   unfold rk
   rw[if_pos hxy]
   have:=Zc9 s y
   omega
  ·have h1:=hs.1 x h
   have h2:=ZfK hs.2 h hxy
   unfold rk
   rw[if_pos h1,if_pos (by omega)]
   omega
theorem ZrL {s:List Int} {x y:Int} (hs:s.Pairwise (·<·)) (hx:x∈s) (h:x≤y):rk s x≤rk s y:=by
 rcases Classical.em (x=y)with rfl|e
 ·exact Int.le_refl _
 ·have:=ZfK hs hx (show x<y by omega)
  omega
theorem ZbM:∀{s:List Int} {x:Int},s.Pairwise (·<·)→x∈s→rk s x<(s.length:Int)∧s.getD (rk s x).toNat 0=x
 |[],x,_,h=>by cases h
 |a::s,x,hs,h=>by
  rw[List.pairwise_cons]at hs
  rcases List.mem_cons.1 h with rfl|h
  ·have e1:rk (x::s) x=0:=Zk0 fun z hz=>by
    rcases List.mem_cons.1 hz with rfl|hz
    ·exact Int.le_refl _
    ·exact Int.le_of_lt (hs.1 z hz)
   rw[e1]
   simp
  ·have h1:=hs.1 x h
   have h2:=ZbM hs.2 h
   have h3:=Zc9 s x
   unfold rk
   rw[if_pos h1]
   refine⟨by simp only[List.length_cons];omega,?_⟩
   rw[show(rk s x+1).toNat=(rk s x).toNat+1 by omega,List.getD_cons_succ]
   exact h2.2
theorem Zkf {s:List Int} {i:Int} (h0:0≤i) (h1:i<(s.length:Int)):s.getD i.toNat 0∈s:=by
 rw[List.getD_eq_getElem?_getD,List.getElem?_eq_getElem (show i.toNat<s.length by omega)]
 exact List.getElem_mem _
theorem ZhT {s:List Int} {i:Int} (hs:s.Pairwise (·<·)) (h0:0≤i) (h1:i<(s.length:Int)):rk s (s.getD i.toNat 0)=i:=by
 have hm:=Zkf h0 h1
 have h2:=ZbM hs hm
 have h3:=Zc9 s (s.getD i.toNat 0)
 have hp:=List.pairwise_iff_getElem.1 hs
 rw[List.getD_eq_getElem?_getD,List.getD_eq_getElem?_getD]at h2
 rw[List.getD_eq_getElem?_getD]at h3 ⊢
 have hi:i.toNat<s.length:=by omega
 rw[List.getElem?_eq_getElem hi]at h2 h3 ⊢
 simp only[Option.getD_some]at h2 h3 ⊢
 have hj:(rk s s[i.toNat]).toNat<s.length:=by omega
 rw[List.getElem?_eq_getElem hj]at h2
 simp only[Option.getD_some]at h2
 rcases Nat.lt_trichotomy (rk s s[i.toNat]).toNat i.toNat with e|e|e
 ·have:=hp _ _ hj hi e;omega
 ·omega
 ·have:=hp _ _ hi hj e;omega
theorem Zln {s:List Int} {i j:Int} (hs:s.Pairwise (·<·)) (h0:0≤i) (h1:j<(s.length:Int)) (h:i≤j):s.getD i.toNat 0≤s.getD j.toNat 0:=by
 rcases Classical.em (i=j)with rfl|e
 ·exact Int.le_refl _
 ·refine Classical.byContradiction fun hc=> ?_
  have:=ZfK hs (Zkf (s:=s) (i:=j) (by omega) h1) (show s.getD j.toNat 0<s.getD i.toNat 0 by omega)
  rw[ZhT hs h0 (by omega),ZhT hs (by omega) h1]at this
  omega
def toR (ids keys:List Int) (a:HArc):HArc:=⟨rk ids a.f,rk ids a.t,a.kind,rk keys a.label⟩
def unR (ids keys:List Int) (a:HArc):HArc:=⟨ids.getD a.f.toNat 0,ids.getD a.t.toNat 0,a.kind,keys.getD a.label.toNat 0⟩
structure Rk (D:List HArc) (ids keys:List Int) (q:List HArc):Prop where
 si:ids.Pairwise (·<·)
 sk:keys.Pairwise (·<·)
 mi:∀a∈D,a.f∈ids∧a.t∈ids
 ml:∀a∈D,a.label∈keys
 mq:∀b,b∈q↔∃a∈D,b=toR ids keys a
section
variable {D:List HArc} {ids keys:List Int} {q:List HArc}
theorem Rk.un (h:Rk D ids keys q) {a:HArc} (ha:a∈D):unR ids keys (toR ids keys a)=a:=by
 obtain⟨h1,h2⟩:=h.mi a ha
 have h3:=h.ml a ha
 obtain⟨af,at',ak,al⟩:=a
 simp only at h1 h2 h3
 unfold unR toR
 simp only[(ZbM h.si h1).2,(ZbM h.si h2).2,(ZbM h.sk h3).2]
theorem Rk.to (h:Rk D ids keys q) {b:HArc} (hb:b∈q):unR ids keys b∈D∧toR ids keys (unR ids keys b)=b:=by
 obtain⟨a,ha,rfl⟩:=(h.mq b).1 hb
 rw[h.un ha]
 exact⟨ha,rfl⟩
theorem Rk.less (h:Rk D ids keys q) {a b:HArc} (ha:a∈D) (hb:b∈D):ZaK a b=true→ZaK (toR ids keys a) (toR ids keys b)=true:=by
 have a1:=h.mi a ha
 have b1:=h.mi b hb
 have a2:=h.ml a ha
 have b2:=h.ml b hb
 rw[Zco,Zco]
 unfold toR
 simp only
 rintro(e|⟨e1,e|⟨e2,e|⟨e3,e⟩⟩⟩)
 ·exact .inl (ZfK h.si a1.1 e)
 ·exact .inr ⟨by rw[e1],.inl e⟩
 ·exact .inr ⟨by rw[e1],.inr ⟨e2,.inl (ZfK h.sk a2 e)⟩⟩
 ·exact .inr ⟨by rw[e1],.inr ⟨e2,.inr ⟨by rw[e3],ZfK h.si a1.2 e⟩⟩⟩
theorem Rk.less_un (h:Rk D ids keys q) {a b:HArc} (ha:a∈q) (hb:b∈q) (hl:ZaK a b=true):ZaK (unR ids keys a) (unR ids keys b)=true:=by
 have ha':=h.to ha
 have hb':=h.to hb
 refine Classical.byContradiction fun hc=> ?_
 rcases Classical.em (unR ids keys a=unR ids keys b)with e|e
 ·have:a=b:=by rw[←ha'.2,←hb'.2,e]
  rw[this]at hl
  exact Zcn b hl
 ·have:=h.less hb'.1 ha'.1 (ZiK _ _ hc e)
  rw[ha'.2,hb'.2]at this
  exact Zcn a (ZcU a b a hl this)
theorem Rk.lex_un (h:Rk D ids keys q):∀{l m:List HArc},(∀a∈l,a∈q)→(∀a∈m,a∈q)→ZeP l m→ZeP (l.map (unR ids keys)) (m.map (unR ids keys))
 |[],m,_,_,hl=>by cases m<;>exact hl.elim
 |a::l,[],_,_,hl=>hl.elim
 |a::l,b::m,ha,hb,hl=>by
  rcases hl with e|⟨e,hl⟩
  ·exact .inl (h.less_un (ha a List.mem_cons_self) (hb b List.mem_cons_self) e)
  ·exact .inr ⟨by rw[e],h.lex_un (fun x hx=>ha x (List.mem_cons_of_mem _ hx)) (fun x hx=>hb x (List.mem_cons_of_mem _ hx)) hl⟩
theorem Rk.up (h:Rk D ids keys q) {least v:Int} (hl:least∈ids):∀{l:List HArc} {u:Int},okW D least u l v→u∈ids→okW q (rk ids least) (rk ids u) (l.map (toR ids keys)) (rk ids v)
 |[],u,hw,_=>by
  have hw:u=v:=hw
  rw[hw]
  exact rfl
 |a::l,u,hw,hu=>by
  obtain⟨ha,haf,hlu,hw⟩:=hw
  exact⟨(h.mq _).2 ⟨a,ha,rfl⟩,by unfold toR;simp only;rw[haf],ZrL h.si hl hlu,h.up hl hw (h.mi a ha).2⟩
theorem Rk.down (h:Rk D ids keys q) {i k:Int} (hi:0≤i):∀{l:List HArc} {j:Int},okW q i j l k→0≤j→j<(ids.length:Int)→okW D (ids.getD i.toNat 0) (ids.getD j.toNat 0) (l.map (unR ids keys)) (ids.getD k.toNat 0)
 |[],j,hw,_,_=>by
  have hw:j=k:=hw
  rw[hw]
  exact rfl
 |a::l,j,hw,h0,h1=>by
  obtain⟨ha,haf,hij,hw⟩:=hw
  have ha':=h.to ha
  obtain⟨b,hb,e⟩:=(h.mq a).1 ha
  have ht:a.t=rk ids b.t:=by rw[e];rfl
  have h2:=Zc9 ids b.t
  have h3:=ZbM h.si (h.mi b hb).2
  refine⟨ha'.1,by show ids.getD a.f.toNat 0=_;rw[haf],Zln h.si hi h1 hij,?_⟩
  exact h.down hi hw (by omega) (by omega)
end
theorem ZgA {f:HArc→HArc} (hf:∀a,(f a).kind=a.kind) (must:Int) (l:List HArc):Zj must (l.map f)=Zj must l:=by
 unfold Zj
 rw[List.any_map]
 congr 1
 funext a
 show isM must (f a)=isM must a
 unfold isM
 rw[hf]
structure Short (D:List HArc) (must:Int) (need:Bool) (v:Int) (c:List HArc):Prop where
 ne:c≠[]
 w:okW D v v c v
 m:need=true→Zj must c=true
 le:∀u c',c'≠[]→okW D u u c' u→(need=true→Zj must c'=true)→c.length≤c'.length∧(c.length=c'.length→v≤u∧(v=u→c'=c∨ZeP c c'))
def NoWay (D:List HArc) (must:Int) (need:Bool):Prop:=∀u c',c'≠[]→okW D u u c' u→(need=true→Zj must c'=true)→False
theorem Zgr:∀{l m:List HArc},ZeP l m→ZeP m l→False
 |[],m,h,_=>by cases m<;>exact h.elim
 |a::l,[],h,_=>h.elim
 |a::l,b::m,h,k=>by
  rcases h with h|⟨e,h⟩
  ·rcases k with k|⟨e,k⟩
   ·exact Zcn a (ZcU a b a h k)
   ·rw[e]at h;exact Zcn a h
  ·rcases k with k|⟨e2,k⟩
   ·rw[e]at k;exact Zcn b k
   ·exact Zgr h k
theorem Short.same {D:List HArc} {must:Int} {need:Bool} {v u:Int} {c d:List HArc} (h:Short D must need v c) (k:Short D must need u d):v=u∧c=d:=by
 have h1:=h.le u d k.ne k.w k.m
 have k1:=k.le v c h.ne h.w h.m
 have hl:c.length=d.length:=by omega
 have h2:=h1.2 hl
 have k2:=k1.2 hl.symm
 have hv:v=u:=by omega
 refine⟨hv,?_⟩
 rcases h2.2 hv with e|e
 ·exact e.symm
 ·rcases k2.2 hv.symm with e2|e2
  ·exact e2
  ·exact(Zgr e e2).elim
theorem Short.some {D:List HArc} {must:Int} {need:Bool} {v:Int} {c:List HArc} (h:Short D must need v c) (k:NoWay D must need):False:=k v c h.ne h.w h.m
theorem Short.simple {D:List HArc} {must:Int} {need:Bool} {v:Int} {c:List HArc} (h:Short D must need v c):c.Pairwise fun a b=>a.f≠b.f:=
 ZlA h.w h.m (fun c' h1 h2 h3=>(h.le v c' h1 h2 h3).1) (fun u c' h1 h2 h3=>(h.le u c' h1 h2 h3).1)
theorem Rk.short {D:List HArc} {ids keys:List Int} {q:List HArc} (h:Rk D ids keys q) {must:Int} {need:Bool} {i:Int} {c:List HArc} (hi:0≤i) (h1:i<(ids.length:Int)) (k:Short q must need i c):
  Short D must need (ids.getD i.toNat 0) (c.map (unR ids keys)):=by
 have hM:=fun l=>ZgA (f:=unR ids keys) (fun _=>rfl) must l
 have hM2:=fun l=>ZgA (f:=toR ids keys) (fun _=>rfl) must l
 refine⟨by have:=k.ne;simpa using this,h.down hi k.w hi h1,fun e=>by rw[hM];exact k.m e,fun u c' n1 n2 n3=> ?_⟩
 have hu:u∈ids:=by
  cases c' with
  |nil=>exact absurd rfl n1
  |cons a l=>rw[←n2.2.1];exact(h.mi a n2.1).1
 have k1:=k.le (rk ids u) (c'.map (toR ids keys)) (by simpa using n1) (h.up hu n2 hu) (fun e=>by rw[hM2];exact n3 e)
 rw[List.length_map]at k1 ⊢
 refine⟨k1.1,fun e=> ?_⟩
 have k2:=k1.2 e
 have hr:=ZbM h.si hu
 have hr0:=Zc9 ids u
 refine⟨?_,fun e2=> ?_⟩
 ·have:=Zln h.si hi hr.1 k2.1
  rw[hr.2]at this
  exact this
 ·have e3:i=rk ids u:=by rw[←e2,ZhT h.si hi h1]
  have hback:(c'.map (toR ids keys)).map (unR ids keys)=c':=by
   rw[List.map_map]
   conv=>rhs;rw[←List.map_id c']
   exact List.map_congr_left fun a ha=>h.un (ZaP n2 a ha)
  rcases k2.2 e3 with e4|e4
  ·left
   rw[←e4,hback]
  ·right
   have:=h.lex_un (ZaP k.w) (fun a ha=>by
    obtain⟨b,hb,rfl⟩:=List.mem_map.1 ha
    exact(h.mq _).2 ⟨b,ZaP n2 b hb,rfl⟩) e4
   rw[hback]at this
   exact this
theorem Rk.none {D:List HArc} {ids keys:List Int} {q:List HArc} (h:Rk D ids keys q) {must:Int} {need:Bool} (k:NoWay q must need):NoWay D must need:=by
 intro u c' n1 n2 n3
 have hu:u∈ids:=by
  cases c' with
  |nil=>exact absurd rfl n1
  |cons a l=>rw[←n2.2.1];exact(h.mi a n2.1).1
 exact k (rk ids u) (c'.map (toR ids keys)) (by simpa using n1) (h.up hu n2 hu) (fun e=>by rw[ZgA (f:=toR ids keys) (fun _=>rfl)];exact n3 e)
theorem ZhL {N:Nat} {q:List HArc} (hr:∀a∈q,Zi N a=true) (hs:ZW q) (mask must:Int) (need:Bool) (ks:Int→Int) (ws:Int→List HArc)
  (hk:∀i:Int,0≤i→i<(N:Int)→ks i=Z1 (ofA mask q) must i (ZU N q mask i) (Zp N q mask must i) need)
  (hk2:∀i:Int,0≤i→(N:Int)≤i→ks i=0) (hk3:∀i:Int,i<0→ks i=0)
  (hw:∀i:Int,0≤i→i<(N:Int)→ws i=ZC (ofA mask q) must i (ZU N q mask i) (Zp N q mask must i) (ks i).toNat i need):
  (ZH ks ws N=[]∧NoWay (ofA mask q) must need)∨∃v,0≤v∧v<(N:Int)∧Short (ofA mask q) must need v (ZH ks ws N):=by
 have hloop:∀i:Int,0≤i→i<(N:Int)→LoopD (ofA mask q) must i (ZU N q mask i) (Zp N q mask must i):=fun i h0 h1=>ZeO hr mask must i h0 h1
 have hso:ZW (ofA mask q):=hs.filter _
 have hwalk:∀i:Int,0<ks i→(0≤i∧i<(N:Int))∧okW (ofA mask q) i i (ws i) i∧((ws i).length:Int)=ks i∧(need=true→Zj must (ws i)=true)∧∀l,okW (ofA mask q) i i l i→(l.length:Int)=ks i→(need=true→Zj must l=true)→l=ws i∨ZeP (ws i) l:=by
  intro i h0
  have h1:0≤i:=by
   refine Classical.byContradiction fun hc=> ?_
   rw[hk3 i (by omega)]at h0
   omega
  have h2:i<(N:Int):=by
   refine Classical.byContradiction fun hc=> ?_
   rw[hk2 i h1 (by omega)]at h0
   omega
  have hL:=hloop i h1 h2
  have h3:=hk i h1 h2
  obtain⟨c,c1,c2,c3,c4⟩:=Zjy hL need (by rw[←h3];exact h0)
  have hsp:=Zex hso hL (ZnV hr mask must i h1 h2) (ZkV hr mask must i h1 h2) (ks i).toNat i need (Int.le_refl _) ⟨c,c2,by omega,c4⟩ (fun l l1 l2 l3=>by
   have:=(Zgd hL need l1 l2 l3).2
   omega)
  rw[←hw i h1 h2]at hsp
  exact⟨⟨h1,h2⟩,hsp.1,by have:=hsp.2.1;omega,hsp.2.2.1,fun l l1 l2 l3=>hsp.2.2.2 l l1 (by omega) l3⟩
 have hcl:∀u c',c'≠[]→okW (ofA mask q) u u c' u→(need=true→Zj must c'=true)→0≤u∧u<(N:Int)∧0<ks u∧ks u≤(c'.length:Int):=by
  intro u c' n1 n2 n3
  have hu:0≤u∧u<(N:Int):=by
   cases c' with
   |nil=>exact absurd rfl n1
   |cons a l=>
    have:=(ZF _ _).1 (hr a (mem_ofA.1 n2.1).1)
    rw[←n2.2.1]
    exact⟨this.1,this.2.1⟩
  have:=Zgd (hloop u hu.1 hu.2) need n1 n2 n3
  rw[←hk u hu.1 hu.2]at this
  exact⟨hu.1,hu.2,this.1,this.2⟩
 rcases ZhM ks ws (fun i h0=>(hwalk i h0).2.2.1) N with ⟨e,h⟩|⟨i,hi,h0,e,h1,h2⟩
 ·refine .inl ⟨e,fun u c' n1 n2 n3=> ?_⟩
  have:=hcl u c' n1 n2 n3
  obtain⟨n,rfl⟩:∃n:Nat,u=(n:Int):=⟨u.toNat,by omega⟩
  exact h n (by omega) this.2.2.1
 ·obtain⟨k1,k2,k3,k4,k5⟩:=hwalk (i:Int) h0
  refine .inr ⟨(i:Int),by omega,by omega,?_⟩
  rw[e]
  refine⟨fun e=>by rw[e]at k3;simp at k3;omega,k2,k4,fun u c' n1 n2 n3=> ?_⟩
  obtain⟨u1,u2,u3,u4⟩:=hcl u c' n1 n2 n3
  obtain⟨n,rfl⟩:∃n:Nat,u=(n:Int):=⟨u.toNat,by omega⟩
  have h3:=h1 n (by omega) u3
  refine⟨by omega,fun hl=>⟨?_,fun hv=> ?_⟩⟩
  ·refine Classical.byContradiction fun hc=> ?_
   exact h2 n (by omega) ⟨u3,by omega⟩
  ·have hv2:i=n:=by omega
   subst hv2
   exact k5 c' n2 (by omega) n3
theorem Short.more {D D':List HArc} {must:Int} {need:Bool} {v u:Int} {c d:List HArc} (h:Short D must need v c) (hD:∀a∈D,a∈D') (k:Short D' must need u d):d.length≤c.length:=
 (k.le v c h.ne (Zdw hD (Int.le_refl _) h.w) h.m).1
theorem Zha {p p':List HArc} {least:Int}:∀{l:List HArc} {u v:Int},okW p least u l v→(∀a∈l,a∈p')→okW p' least u l v
 |[],u,v,h,_=>h
 |a::l,u,v,h,hp=>⟨hp a List.mem_cons_self,h.2.1,h.2.2.1,Zha h.2.2.2 (fun x hx=>hp x (List.mem_cons_of_mem _ hx))⟩
theorem Short.less {D D':List HArc} {must:Int} {need:Bool} {v:Int} {c:List HArc} (h:Short D must need v c) (hD:∀a∈D',a∈D) (hc:∀a∈c,a∈D'):Short D' must need v c:=
 ⟨h.ne,Zha h.w hc,h.m,fun u c' n1 n2 n3=>h.le u c' n1 (Zdw hD (Int.le_refl _) n2) n3⟩
theorem Short.must {D:List HArc} {must must':Int} {need:Bool} {v:Int} {c:List HArc} (h:Short D must need v c) (hm:∀a∈D,isM must a=isM must' a):Short D must' need v c:=by
 have hh:∀l:List HArc,(∀a∈l,a∈D)→Zj must l=Zj must' l:=by
  intro l hl
  unfold Zj
  induction l with
  |nil=>rfl
  |cons a l ih=>rw[List.any_cons,List.any_cons,hm a (hl a List.mem_cons_self),ih (fun x hx=>hl x (List.mem_cons_of_mem _ hx))]
 exact⟨h.ne,h.w,fun e=>by rw[←hh c (ZaP h.w)];exact h.m e,fun u c' n1 n2 n3=>h.le u c' n1 n2 (fun e=>by rw[hh c' (ZaP n2)];exact n3 e)⟩
theorem NoWay.must {D:List HArc} {must must':Int} {need:Bool} (h:NoWay D must need) (hm:∀a∈D,isM must a=isM must' a):NoWay D must' need:=by
 have hh:∀l:List HArc,(∀a∈l,a∈D)→Zj must l=Zj must' l:=by
  intro l hl
  unfold Zj
  induction l with
  |nil=>rfl
  |cons a l ih=>rw[List.any_cons,List.any_cons,hm a (hl a List.mem_cons_self),ih (fun x hx=>hl x (List.mem_cons_of_mem _ hx))]
 exact fun u c' n1 n2 n3=>h u c' n1 n2 (fun e=>by rw[hh c' (ZaP n2)];exact n3 e)
end Go.Proofs.YtklmahmfmbppkaaGreat
