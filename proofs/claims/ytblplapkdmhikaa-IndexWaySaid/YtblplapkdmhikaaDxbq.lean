/- An index: a transaction goes. -/
import Derived.Test.YtblplapkdmhikaaDxaq
import Derived.Test.YtblplapkdmhikaaDxbh
import Derived.Test.YtblplapkdmhikaaDxbm
import Derived.Test.YtblplapkdmhikaaDxbo
namespace Go.Proofs.Ytblplapkdmhikaa
set_option linter.unusedVariables false
set_option linter.unusedSimpArgs false
section
open Go.RowKit
theorem ZdY (w:World) (i0:Int) (dn:Bool) (A:Option Addr) (n c:Nat) (hn:n≤1000000):Calls Try.prog 57 #[.agg #[.int .i64 i0,.bool dn,.slice A n c]] w fun e w'=>e= .returned (.int .i64 ((n:Int)+1))∧Upd No w w':=by
 have bB:=Blk.new w 35 [.int .i64 i0,.bool dn,.slice A n c];have g2:=bB.cell 2;simp only[Qz,Qs]at g2;have hw1:IntKind.i64.wrap ((n:Int)+1)=(n:Int)+1:=IntWalk.i64_in _ (by omega);clear bB
 go_enter Try.func57,Try.ntmps57
 go_wp2
 go_ret
 exact⟨rfl,(Upd.refl No w).alloc _⟩
def fWd (fW:Int→List Int) (id:Int) (ks:List Int) (k:Int):List Int:=if k∈ks then ZV (fW k) id else fW k
def fRd (fR:Ver→List Int) (id:Int) (vs:List Ver) (v:Ver):List Int:=if v∈vs then ZV (fR v) id else fR v
def nSd (nS:Int×Int→Nat) (id:Int) (ks:List Int) (p:Int×Int):Nat:=if p.1=id∧p.2∈ks then 0 else nS p
theorem Zgm (fW:Int→List Int) (id key:Int) (ks:List Int) (hn:key∉ks) (u:Int):fWd fW id (ks++[key]) u=if u=key then ZV (fWd fW id ks key) id else fWd fW id ks u:=by
 unfold fWd
 by_cases e:u=key
 ·subst e;simp[hn]
 ·simp[e]
theorem Zgq (fR:Ver→List Int) (id:Int) (key:Ver) (ks:List Ver) (hn:key∉ks) (u:Ver):fRd fR id (ks++[key]) u=if u=key then ZV (fRd fR id ks key) id else fRd fR id ks u:=by
 unfold fRd
 by_cases e:u=key
 ·subst e;simp[hn]
 ·simp[e]
theorem Zd4 (nS:Int×Int→Nat) (id key:Int) (ks:List Int) (p:Int×Int):nSd nS id (ks++[key]) p=if p=(id,key) then 0 else nSd nS id ks p:=by
 obtain⟨a,b⟩:=p;unfold nSd;simp only[Prod.mk.injEq,List.mem_append,List.mem_singleton]
 by_cases e1:a=id<;>by_cases e2:b=key<;>simp[e1,e2]
theorem Zgn (fW:Int→List Int) (id:Int):fWd fW id []=fW:=by funext k;unfold fWd;simp
theorem Zgr (fR:Ver→List Int) (id:Int):fRd fR id []=fR:=by funext k;unfold fRd;simp
theorem Zd5 (nS:Int×Int→Nat) (id:Int):nSd nS id []=nS:=by funext p;unfold nSd;simp
theorem Zdm {ks:List Int} (h:ks.Pairwise (·<·)) {j:Nat} {key:Int} (hj:j<ks.length) (hk:ks[j]=key):key∉ks.take j:=fun hm=>by
 rw[List.mem_take_iff_getElem]at hm;obtain⟨q,hq,e⟩:=hm;have:=List.pairwise_iff_getElem.1 h q j (by omega) (by omega) (by omega);rw[e,hk]at this;exact Int.lt_irrefl _ this
def TurnX (w:World) (col:Nat→Nat) (w':World) (col':Nat→Nat):Prop:=Ext w col col'∧Upd (fun i=>col i≠0) w w'
theorem TurnX.refl (w:World) (col:Nat→Nat):TurnX w col w col:=⟨Ext.refl _ _,Upd.refl _ _⟩
theorem TurnX.trans {w w' w'':World} {a b c:Nat→Nat} (h:TurnX w a w' b) (k:TurnX w' b w'' c):TurnX w a w'' c:=
 ⟨h.1.trans k.1 h.2.size,h.2.trans_ k.2 fun i hi e=>by rw[←h.1 i hi];exact e⟩
theorem TurnX.no {w w' w'':World} {a b:Nat→Nat} (h:TurnX w a w' b) (k:Upd No w' w''):TurnX w a w'' b:=⟨h.1,h.2.trans_ k fun _ _ e=>e.elim⟩
theorem TurnX.ahead {w w' w'':World} {a b:Nat→Nat} (k:Upd No w w') (h:TurnX w' a w'' b):TurnX w a w'' b:=
 ⟨fun i hi=>h.1 i (Nat.lt_of_lt_of_le hi k.size),(k.mono (fun _ _ e=>e.elim)).trans h.2⟩
theorem TurnX.turn {w w':World} {a b:Nat→Nat} {S:Nat→Prop} (he:Ext w a b) (k:Upd S w w') (hS:∀i,S i→a i≠0):TurnX w a w' b:=⟨he,k.mono fun i _ e=>hS i e⟩
theorem TurnX.keep {w w':World} {a b:Nat→Nat} (h:TurnX w a w' b) {S:Nat→Prop} (hS:∀i,S i→i<w.heap.size∧a i=0):∀i,S i→i<w'.heap.size∧b i=0:=fun i hi=>by
 have h1:=hS i hi;exact⟨Nat.lt_of_lt_of_le h1.1 h.2.size,by rw[h.1 i h1.1];exact h1.2⟩
section
variable {w:World} {col:Nat→Nat} {g bT bW bR bU bS:Nat} {wt:Int} {eT:Int→Option HTx} {fW:Int→List Int} {fR:Ver→List Int} {nU nS:Int×Int→Nat}
theorem IXm.c0 (h:IXm w col g bT bW bR bU bS wt eT fW fR nU nS) {S:Nat→Prop} (hS:∀i,S i→col i≠1):∀W,Upd S w W→W.cell? ⟨g,0,none⟩=some (.map (some bT)):=fun W u=>(h.blk.upd u (fun e=>hS _ e h.cg)).cell 0
theorem IXm.c1 (h:IXm w col g bT bW bR bU bS wt eT fW fR nU nS) {S:Nat→Prop} (hS:∀i,S i→col i≠1):∀W,Upd S w W→W.cell? ⟨g,1,none⟩=some (.map (some bW)):=fun W u=>(h.blk.upd u (fun e=>hS _ e h.cg)).cell 1
theorem IXm.c2 (h:IXm w col g bT bW bR bU bS wt eT fW fR nU nS) {S:Nat→Prop} (hS:∀i,S i→col i≠1):∀W,Upd S w W→W.cell? ⟨g,2,none⟩=some (.map (some bR)):=fun W u=>(h.blk.upd u (fun e=>hS _ e h.cg)).cell 2
theorem IXm.c3 (h:IXm w col g bT bW bR bU bS wt eT fW fR nU nS) {S:Nat→Prop} (hS:∀i,S i→col i≠1):∀W,Upd S w W→W.cell? ⟨g,3,none⟩=some (.map (some bU)):=fun W u=>(h.blk.upd u (fun e=>hS _ e h.cg)).cell 3
theorem IXm.c4 (h:IXm w col g bT bW bR bU bS wt eT fW fR nU nS) {S:Nat→Prop} (hS:∀i,S i→col i≠1):∀W,Upd S w W→W.cell? ⟨g,4,none⟩=some (.map (some bS)):=fun W u=>(h.blk.upd u (fun e=>hS _ e h.cg)).cell 4
theorem ZaB (i0:Int) (l:List HOp):∀k,(ZB i0 l k).Nodup
 |0=>List.nodup_nil
 |k+1=>by
  unfold ZB
  split
  ·rename_i o _
   split
   ·rename_i hc
    simp only[Bool.and_eq_true,Bool.not_eq_true',List.contains_eq_mem,decide_eq_false_iff_not]at hc;rw[List.nodup_append];exact⟨ZaB i0 l k,by simp,fun a ha b hb e=>hc.2 (by rw[List.mem_singleton.1 hb]at e;exact e▸ha)⟩
   ·exact ZaB i0 l k
  ·exact ZaB i0 l k
theorem ZeM {α:Type} {ks:List α} (h:ks.Nodup) {j:Nat} {key:α} (hj:j<ks.length) (hk:ks[j]=key):key∉ks.take j:=fun hm=>by
 rw[List.mem_take_iff_getElem]at hm;obtain⟨q,hq,e⟩:=hm;exact List.pairwise_iff_getElem.1 h q j (by omega) hj (by omega) (e.trans hk.symm)
theorem Zgh (h:IXm w col g bT bW bR bU bS wt eT fW fR nU nS) (di:Int) (ht:eT di=none):Calls Try.prog 27 #[.pointer (some ⟨g,0,none⟩),.int .i64 di] w fun e w'=>e= .returned (.int .i64 3)∧Upd No w w':=by
 have HC:=Zeh h di (by rw[ht];unfold Zd Zat;simp);rw[ht]at HC;unfold Zba at HC;have HCC:=Qh HC;clear HC h ht
 go_enter Try.func27,Try.ntmps27
 go_wp2_with fail
 refine(HCC.out).mono ?_;rintro e w1 ⟨A1,c1,rfl,hc1,hh1,hu1⟩;unfold Zat at hc1 hh1;have HU:=Qh (hu1.alloc (.cells #[.int .i64 0,.bool false,.slice A1 ([]:List HOp).length c1] 35));clear hc1 hh1 hu1;go_wp2
 go_ret
 exact⟨rfl,HU.out⟩
set_option maxRecDepth 100000 in
set_option maxHeartbeats 8000000 in
theorem Zgg (h:IXm w col g bT bW bR bU bS wt eT fW fR nU nS) (di:Int) (t:HTx) (ht:eT di=some t) (hlo:t.ops.length≤4095) (hwt:0≤wt∧wt≤1000000000000)
  (hW:∀k,(fW k).Pairwise (·<·)∧(fW k).length≤100000) (hR:∀v,(fR v).Pairwise (·<·)∧(fR v).length≤100000):
  Calls Try.prog 27 #[.pointer (some ⟨g,0,none⟩),.int .i64 di] w fun e w'=>e= .returned (.int .i64 0)∧∃col',IXm w' col' g bT bW bR bU bS (wt-((t.ops.length:Int)+1)) (fun k=>if k=di then none else eT k) (fWd fW di (ZS t.ops)) (fRd fR di (Zy t))
   (nSd nU di ((Zy t).map (·.tx))) (nSd nS di (ZS t.ops))∧TurnX w col w' col':=by
 have HC:=Zeh h di (by rw[ht];unfold Zd Zat;simp only;omega);rw[ht]at HC;unfold Zba at HC;simp only[oId,oDn,Zat,Option.isSome_some]at HC;have HCC:=Qh HC;have HH:=Qh h;have HHW:=Qh hW;have HHR:=Qh hR;clear HC h ht hW hR;obtain⟨ti,td,tl,tA,tc⟩:=t;simp only at hlo HCC ⊢
 go_enter Try.func27,Try.ntmps27
 go_wp2_with fail
 refine(HCC.out).mono ?_;rintro e w1 ⟨A1,c1,rfl,hc1,hh1,hu1⟩;obtain⟨z5,hz5⟩:∃z,w1.heap.size=z:=⟨_,rfl⟩;obtain⟨w2,hw2⟩:∃w2,w1.alloc (.cells #[.int .i64 ti,.bool td,.slice A1 tl.length c1] 35)=w2:=⟨_,rfl⟩;have u2:Upd No w w2:=by rw[←hw2];exact hu1.alloc _
 have b2:Blk w2 z5 35 [.int .i64 ti,.bool td,.slice A1 tl.length c1]:=by rw[←hw2,←hz5];exact Blk.new w1 _ _
 have s2:w2.heap.size=z5+1:=by rw[←hw2,←hz5];simp
 have hzz:w.heap.size≤z5:=by rw[←hz5];exact hu1.size
 have H2:=HH.out.no u2
 have hcol:∀i,w.heap.size≤i→col i=0:=fun i hi=>by
  rcases Classical.em (col i=0)with e|e
  ·exact e
  ·have:=HH.out.lt i e;omega
 have HCOL:=Qh hcol
 have hops2:HOps (fun i=>w.heap.size≤i∧i<w2.heap.size) w2 A1 tl:=by
  have h3:HOps (fun i=>w.heap.size≤i) w2 A1 tl:=by rw[←hw2];exact HOps.upd hh1 ((Upd.refl No w1).alloc _) (fun _ _=>id)
  exact(Recs.lt' h3).weak (fun i _ e=>⟨e.2,e.1⟩)
 obtain⟨mT,hmT,hTd⟩:=H2.tdel di;have HTD:=Qh hTd;have e0:=H2.c0 (S:=No) (fun _ e=>e.elim) w2 (Upd.refl _ _);have B2:=Qh b2;have HOP:=Qh hops2;have U2:=Qh u2;have HZZ:=Qh hzz;have H2H:=Qh H2;have S2:=Qh s2;clear u2 b2 hu1 hh1 hc1 hTd H2 hcol hops2 hzz s2
 go_wp2_with (refine Zd6 rfl rfl ZaD Try.underlying93 (a:=di) (by rfl) (by rfl) hmT ?_;intro w3 hm3 hu3)
 have h3:=HTD.out w3 hm3 hu3;have T3:=Qh (TurnX.ahead U2.out (TurnX.turn (Ext.refl w2 col) hu3 (fun i e=>by rw[e,HH.out.cT];decide)));have hz0:=HCOL.out z5 HZZ.out;have BX3:=Qh (B2.out.upd hu3 (fun e=>by have h9:=HH.out.cT;rw[←e]at h9;omega));have HOP3:=Qh (HOps.upd HOP.out hu3 (fun i hi e=>by have h9:=HH.out.cT;rw[←e]at h9;have:=HCOL.out i hi.1;omega));have H3:=Qh h3;have hg1:=h3.cg;clear hm3 hmT h3 e0 hu3 hz5 hw2;simp only[Act.put]
 go_cut [] (fun wx=>Blk wx g 99 [.map (some bT),.map (some bW),.map (some bR),.map (some bU),.map (some bS),.int .i64 (wt-((tl.length:Int)+1))]∧Upd (One g) w3 wx)
 case first=>
  have hb3:=H3.out.blk;have e5:∀W,Upd No w3 W→W.cell? ⟨g,5,none⟩=some (.int .i64 wt):=fun W u=>(hb3.upd u id).cell 5
  have f5:∀W,Upd No w3 W→W.frozen? ⟨g,5,none⟩=false:=fun W u=>(hb3.upd u id).free 5
  have q0:∀W,Upd (One g) w3 W→W.cell? ⟨z5,0,none⟩=some (.int .i64 ti):=fun W u=>(BX3.out.upd u (fun e=>by rw[e]at hz0;omega)).cell 0
  have q1:∀W,Upd (One g) w3 W→W.cell? ⟨z5,1,none⟩=some (.bool td):=fun W u=>(BX3.out.upd u (fun e=>by rw[e]at hz0;omega)).cell 1
  have q2:∀W,Upd (One g) w3 W→W.cell? ⟨z5,2,none⟩=some (.slice A1 tl.length c1):=fun W u=>(BX3.out.upd u (fun e=>by rw[e]at hz0;omega)).cell 2
  have CWt:=Qh (fun W=>ZdY W ti td A1 tl.length c1 (by omega));have hw5:IntKind.i64.wrap (wt-((tl.length:Int)+1))=wt-((tl.length:Int)+1):=IntWalk.i64_in _ (by omega);have hN3:Upd No w3 w3.drew:=(Upd.refl No w3).drew;have hS3:Upd (One g) w3 w3.drew:=(Upd.refl _ w3).drew;have HB3:=Qh hb3;clear hb3;refine wp_region_noPanic ?_;refine wp_region_held_drew (S:=(fun W'=>Upd (One g) w3 W')) (by kernel_rfl) ?_ (fun hHeld=> ?_)
  ·(first|exact hS3|exact hHeld|exact hS4|exact hS5)
  refine wpK 0 rfl ?_;refine wpK 1 rfl ?_;refine wpK 2 rfl ?_;refine wpK 4 rfl ?_;refine wpR [3,5] ?_;refine wpC rfl (fun K hK=> ?_) ?_
  ·go_simp;refine hK.out _ _ ?_ (fun hHeld=> ?_)
   ·(first|exact hS3|exact hHeld|exact hS4|exact hS5)
   clear hK K
   try simp only[Act.put,sT,sS,sZ]
   refine wpR [5] ?_;refine wpC rfl (fun K hK=> ?_) AllReadyH.nil;go_simp
   (first
   |(go_at_call 57;refine(CWt.out _).mono ?_;rintro e w4 ⟨rfl,hu4⟩;have hN4:Upd No w3 w4:=hu4.of_drew;have hS4:Upd (One g) w3 w4:=hN4.mono (fun _ _ e=>e.elim);have hS5:Upd (One g) w3 (w4.setCell ⟨g,5,none⟩ (.int .i64 (wt-((tl.length:Int)+1)))):=hS4.setOne 5 _))
   try (go_wp2_with fail)
   refine hK.out _ _ ?_ (fun hHeld=> ?_)
   ·(first|exact hS3|exact hHeld|exact hS4|exact hS5)
   clear hK K
   try simp only[Act.put,sT,sS,sZ]
   refine wpK 6 rfl ?_;refine wpK 7 rfl ?_;refine wpK 8 rfl ?_;refine wpR [9] ?_;refine wpC rfl (fun K hK=> ?_) AllReadyH.nil;go_simp;refine hK.out _ _ ?_ (fun hHeld=> ?_)
   ·(first|exact hS3|exact hHeld|exact hS4|exact hS5)
   clear hK K
   try simp only[Act.put,sT,sS,sZ]
   refine wpD (NoPanic.normal ?_);have hb5:=(HB3.out.upd hN4 id).set_ 5 (.int .i64 (wt-((tl.length:Int)+1)));simp only[List.set_cons_zero,List.set_cons_succ]at hb5
   go_wp2_with fail
   go_meet
   exact⟨hb5,hS5⟩
  refine wpC rfl (fun K hK=> ?_) AllReadyH.nil;go_simp
  (first
  |(go_at_call 57;refine(CWt.out _).mono ?_;rintro e w4 ⟨rfl,hu4⟩;have hN4:Upd No w3 w4:=hu4.of_drew;have hS4:Upd (One g) w3 w4:=hN4.mono (fun _ _ e=>e.elim);have hS5:Upd (One g) w3 (w4.setCell ⟨g,5,none⟩ (.int .i64 (wt-((tl.length:Int)+1)))):=hS4.setOne 5 _))
  try (go_wp2_with fail)
  refine hK.out _ _ ?_ (fun hHeld=> ?_)
  ·(first|exact hS3|exact hHeld|exact hS4|exact hS5)
  clear hK K
  try simp only[Act.put,sT,sS,sZ]
  refine wpR [3] ?_;refine wpC rfl (fun K hK=> ?_) AllReadyH.nil;go_simp;refine hK.out _ _ ?_ (fun hHeld=> ?_)
  ·(first|exact hS3|exact hHeld|exact hS4|exact hS5)
  clear hK K
  try simp only[Act.put,sT,sS,sZ]
  refine wpK 6 rfl ?_;refine wpK 7 rfl ?_;refine wpK 8 rfl ?_;refine wpR [9] ?_;refine wpC rfl (fun K hK=> ?_) AllReadyH.nil;go_simp;refine hK.out _ _ ?_ (fun hHeld=> ?_)
  ·(first|exact hS3|exact hHeld|exact hS4|exact hS5)
  clear hK K
  try simp only[Act.put,sT,sS,sZ]
  refine wpD (NoPanic.normal ?_);have hb5:=(HB3.out.upd hN4 id).set_ 5 (.int .i64 (wt-((tl.length:Int)+1)));simp only[List.set_cons_zero,List.set_cons_succ]at hb5
  go_wp2_with fail
  go_meet
  exact⟨hb5,hS5⟩
 case rest=>
  obtain⟨hb5,hu5⟩:=hcut;obtain⟨w5,hw5⟩:∃w5,w5=wc:=⟨_,rfl⟩;subst hw5;have h5:=H3.out.weigh _ hb5 hu5;have T5:=Qh (T3.out.trans (TurnX.turn (Ext.refl w3 col) hu5 (fun i e=>by rw[e,hg1];decide)));have BX5:=Qh (BX3.out.upd hu5 (fun e=>by rw[e]at hz0;omega));have HOP5:=Qh (HOps.upd HOP3.out hu5 (fun i hi e=>by have:=HCOL.out i hi.1;rw[e,hg1]at this;omega));have H5:=Qh h5;have q0:=BX5.out.cell 0;have q1:=BX5.out.cell 1;have q2:=BX5.out.cell 2;simp only[Qz,Qs]at q0 q1 q2;have HK:=Qh (ZfK _ w5 ti td A1 c1 tl HOP5.out (by unfold Zd;omega));have hks:=Qh (ZdZ (ZF tl fun o=> !o.read));have hkl:=Nat.le_trans (Zdf (ZF tl fun o=> !o.read)) (ZcU tl _);obtain⟨ks,hksd⟩:∃ks,ZS tl=ks:=⟨_,rfl⟩;rw[show Zbp (ZF tl fun o=> !o.read)=ks from hksd]at hks hkl;rw[hksd]at HK;have HKD:=Qh hksd;clear hb5 hu5 h5 hksd
  go_wp2_with fail
  refine(HK.out).mono ?_;rintro e w6 ⟨A6,c6,rfl,ho6,hu6⟩;have hi6:Ints (fun i=>w5.heap.size≤i∧i<w6.heap.size) w6 A6 ks:=Ints.weak ((Ints.of_own ho6).lt' (fun _ e=>e)) (fun i _ (e:i<w6.heap.size∧w5.heap.size≤i)=>⟨e.2,e.1⟩);have HI6:=Qh hi6;have H6:=Qh (H5.out.no hu6);have T6:=Qh (T5.out.no hu6);have BX6:=Qh (BX5.out.upd hu6 id);have HOP6:=Qh (HOps.upd HOP5.out hu6 (fun _ _=>id));have S56:=Qh (show w.heap.size≤w5.heap.size from T5.out.2.size);clear q0 q1 q2 ho6 hu6 hi6;go_wp2
  go_loopg [36] ks.length (fun gj i wj=>∃(j:Nat) (colj:Nat→Nat),j+gj=ks.length∧i= .int .i64 (j:Int)∧
   Hid (IXm wj colj g bT bW bR bU bS (wt-((tl.length:Int)+1)) (fun k=>if k=di then none else eT k) (fWd fW di (ks.take j)) fR nU (nSd nS di (ks.take j)))∧Hid (TurnX w6 col wj colj))
  case atStart=>exact⟨0,col,by omega,rfl,Qh (by rw[List.take_zero,Zgn,Zd5];exact H6.out),Qh (TurnX.refl _ _)⟩
  case round=>
   obtain⟨j,colj,hgj,rfl,hm,hT⟩:=hrel
   by_cases hlt:j<ks.length
   ·obtain⟨ad,hA6,_,_,q0⟩:=(HI6.out.upd hT.out.2 (fun i hi e=>e (HCOL.out i (Nat.le_trans S56.out hi.1)))).at_ hlt;obtain⟨key,hkey⟩:∃key,ks[j]=key:=⟨_,rfl⟩;rw[hkey]at q0;subst hA6;have b1:(0:Int)≤(j:Int):=Qn _;have b2:(j:Int)<(ks.length:Int):=by omega
    have hnk:key∉ks.take j:=Zdm hks.out hlt hkey;have hmj:=hm.out;obtain⟨mS,hmS,hcS,hSput⟩:=hmj.slook;have e4:=hmj.c4 (S:=No) (fun _ e=>e.elim) wr (Upd.refl _ _);have hcd:=hcS.del (di,key);have hcol6:=hmj.cS;have KT:=Qh (show ks.take (j+1)=ks.take j++[key] by rw[List.take_succ_eq_append_getElem hlt,hkey]);have HNS:=Qh (show(fun x=>if x=(di,key) then 0 else nSd nS di (ks.take j) x)=nSd nS di (ks.take (j+1)) by rw[KT.out];funext x;exact(Zd4 nS di key _ x).symm);have HSP:=Qh hSput;have HCD:=Qh hcd;have HNK:=Qh hnk;clear hmj hcS hcd hSput hkey hnk
    go_wp2_with (refine Zd6 rfl rfl ZcB Try.underlying97 (a:=(di,key)) (by rfl) (by rfl) hmS ?_;intro w7 hm7 hu7)
    have h7:=HSP.out w7 _ _ hm7 HCD.out hu7;rw[HNS.out]at h7;have T7:=Qh (hT.out.trans (TurnX.turn (Ext.refl wr colj) hu7 (fun i e=>by rw[e,hcol6];decide)));clear hm7 hu7 e4 hmS;obtain⟨mW,A8,c8,hmW,hA8,hO8,h78,hWput⟩:=h7.wlook key;have hs8:=(HHW.out key).1;have hl8:=(HHW.out key).2;have hf8:fWd fW di (ks.take j) key=fW key:=by unfold fWd;rw[if_neg HNK.out]
    rw[hf8]at hA8 hO8 h78 hWput;obtain⟨l8,hll⟩:∃l,fW key=l:=⟨_,rfl⟩;rw[hll]at hA8 hO8 h78 hWput hs8 hl8
    have HFW:=Qh (show(fun k=>if k=key then ZV l8 di else fWd fW di (ks.take j) k)=fWd fW di (ks.take (j+1)) by
     rw[KT.out];funext x;rw[Zgm fW di key _ HNK.out,hf8,hll])
    obtain⟨Sx,hSx⟩:∃S:Nat→Prop,S=fun i=>colj i=7∨colj i=3:=⟨_,rfl⟩
    have hx7:∀i,Own (.slice A8 l8.length c8) i→Sx i:=fun i hi=>by rw[hSx];exact .inl (h78 i hi)
    have hx3:Sx bW:=by rw[hSx];exact .inr h7.cW
    have d1:=h7.c1 (S:=Sx) (fun i e=>by rw[hSx]at e;omega)
    have e3:∀W,Upd No w7 W→(Instr.lookup 94 (.map (some bW)) (.int .i64 key) false).run Try.prog W= .ok (.slice A8 l8.length c8) W:=fun W u=>by
     have:=Zw ZaD Try.underlying94 Zaq (hmW.upd u id).is key;rw[show(Zm mW key).getD (.slice none 0 0)= .slice A8 l8.length c8 from hA8]at this;exact this
    have CW:=Qh (fun W (u:Upd No w7 W)=>ZdA W A8 c8 l8 di (Zj hO8 u (fun _ _=>id)) hs8 hl8);have HWP:=Qh hWput;have HMW:=Qh (show∀W,Upd (Own (.slice A8 l8.length c8)) w7 W→MapE W bW (fun n:Int=>Value.int .i64 n) mW from fun W u=>hmW.upd u (fun e=>by have h9:=h78 _ e;have h10:=h7.cW;omega));have HX7:=Qh hx7;have HX3:=Qh hx3;have HSX:=Qh (show∀i,Sx i→colj i≠0 from fun i e=>by rw[hSx]at e;omega);have hz7:Upd No w7 w7.drew:=(Upd.refl No w7).drew;have hS7:Upd Sx w7 w7.drew:=(Upd.refl _ w7).drew;have hn7:Upd No w7 w7:=Upd.refl _ _;clear hmW hA8 hO8 h78 hWput hs8 hl8 hf8 hll hSx hx7 hx3 h7 q0;refine wp_region_noPanic ?_;refine wp_region_held_drew (S:=(fun W'=>Upd Sx w7 W')) (by kernel_rfl) ?_ (fun hHeld=> ?_)
    ·(first|exact hS7|exact hHeld|exact hU9|exact hU10)
    refine wpK 0 rfl ?_;refine wpK 1 rfl ?_;refine wpK 2 rfl ?_;refine wpK 3 rfl ?_;refine wpK 4 rfl ?_;refine wpK 5 rfl ?_;refine wpK 6 rfl ?_;refine wpK 7 rfl ?_;refine wpK 8 rfl ?_;refine wpK 9 rfl ?_;refine wpK 11 rfl ?_;refine wpR [10] ?_;refine wpC rfl (fun K hK=> ?_) AllReadyH.nil;go_simp;refine hK.out _ _ ?_ (fun hHeld=> ?_)
    ·(first|exact hS7|exact hHeld|exact hU9|exact hU10)
    clear hK K
    try simp only[Act.put,sT,sS,sZ]
    refine wpR [12] ?_;refine wpC rfl (fun K hK=> ?_) AllReadyH.nil;go_simp
    (first
  |(go_at_call 64;refine(CW.out _ hz7).mono ?_;rintro e w9 ⟨A9,c9,rfl,hO9,hu9,hg9⟩;have hV9:Upd (Own (.slice A8 l8.length c8)) w7 w9:=hu9.of_drew;have hU9:Upd Sx w7 w9:=hV9.mono (fun i _ e=>HX7.out i e)))
    try (go_wp2_with fail)
    refine hK.out _ _ ?_ (fun hHeld=> ?_)
    ·(first|exact hS7|exact hHeld|exact hU9|exact hU10)
    clear hK K
    try simp only[Act.put,sT,sS,sZ]
    refine wpR [13] ?_;refine wpC rfl (fun K hK=> ?_) AllReadyH.nil
    (first
  |(refine ZY (by rfl) (by rfl) ZaD Try.underlying94 (a:=key) (val:= .slice A9 (ZV l8 di).length c9) (by rfl) (by rfl) (by rfl) (HMW.out _ hV9) ?_;intro w10 hm10 hu10;have hU10:Upd Sx w7 w10:=hU9.trans (hu10.mono (fun i _ e=>by rw[e];exact HX3.out))))
    refine hK.out _ _ ?_ (fun hHeld=> ?_)
    ·(first|exact hS7|exact hHeld|exact hU9|exact hU10)
    clear hK K
    try simp only[Act.put,sT,sS,sZ]
    refine wpD (NoPanic.normal ?_);have h10:=HWP.out w9 w10 A9 c9 _ hO9 hV9 hg9 hm10 hu10;rw[HFW.out]at h10;have H10:=Qh h10;have T10:=Qh (T7.out.trans (TurnX.turn (Ext.colN w7 w9 colj 7) hU10 HSX.out));clear hHeld h10 hm10 hu10 hU10 hU9 hO9 hu9 hV9 hg9;go_wp2
    go_roundg (gk-1)
    case measure=>omega
    case rel=>exact⟨j+1,_,by omega,by go_num,H10,T10⟩
   ·obtain rfl:j=ks.length:=by omega
    have HF:=Qh (show IXm wr colj g bT bW bR bU bS (wt-((tl.length:Int)+1)) (fun k=>if k=di then none else eT k) (fWd fW di ks) fR nU (nSd nS di ks) by have:=hm.out;rwa [List.take_length]at this);have TF:=Qh (T6.out.trans hT.out);have BXF:=Qh (BX6.out.upd hT.out.2 (fun e=>e hz0));have HOPF:=Qh (HOps.upd HOP6.out hT.out.2 (fun i hi e=>e (HCOL.out i hi.1)));obtain⟨wo,hwo⟩:∃wo,wo=wr:=⟨_,rfl⟩;subst hwo
    generalize gk=GK at*
    have q0:=BXF.out.cell 0;have q1:=BXF.out.cell 1;have q2:=BXF.out.cell 2;simp only[Qz,Qs]at q0 q1 q2;have HN:=Qh (ZeA _ wo ti td A1 c1 tl HOPF.out (by unfold Zd;omega));have hvl:(Z9 ti tl).length≤tl.length:=Zaj ti tl _;obtain⟨vs,hvs⟩:∃vs,Z9 ti tl=vs:=⟨_,rfl⟩;rw[hvs]at HN hvl;have HVS:=Qh hvs;clear hm hT hvs
    go_wp2_with fail
    refine(HN.out).mono ?_;rintro e w11 ⟨A11,c11,rfl,ho11,hu11⟩;have hv11:VersR (fun i=>wo.heap.size≤i∧i<w11.heap.size) w11 A11 vs:=(Recs.lt' (Zav ho11)).weak (fun i _ e=>⟨e.2,e.1⟩);have HV11:=Qh hv11;have H11:=Qh (HF.out.no hu11);have T11:=Qh (TF.out.no hu11);have hnd:=Qh (show vs.Nodup by rw[←HVS.out];exact ZaB ti tl _);obtain⟨colq,hcq⟩:∃c,c=colj:=⟨_,rfl⟩;subst hcq
    have HCQ:=Qh (show∀i,wo.heap.size≤i→colq i=0 from fun i hi=>by
     rcases Classical.em (colq i=0)with e|e
     ·exact e
     ·have:=HF.out.lt i e;omega)
    clear q0 q1 q2 ho11 hu11 hv11;go_wp2
    go_loopg [64] vs.length (fun gj i wj=>∃(j:Nat) (colj:Nat→Nat),j+gj=vs.length∧i= .int .i64 (j:Int)∧
     Hid (IXm wj colj g bT bW bR bU bS (wt-((tl.length:Int)+1)) (fun k=>if k=di then none else eT k) (fWd fW di ks) (fRd fR di (vs.take j)) (nSd nU di ((vs.take j).map (·.tx))) (nSd nS di ks))∧Hid (TurnX w11 colq wj colj))
    case atStart=>exact⟨0,colq,by omega,rfl,Qh (by rw[List.take_zero,Zgr,List.map_nil,Zd5];exact H11.out),Qh (TurnX.refl _ _)⟩
    case round=>
     obtain⟨j,colj,hgj,rfl,hm,hT⟩:=hrel
     by_cases hlt:j<vs.length
     ·obtain⟨ad,hA6,q0,q1,q2⟩:=VersR.at_ (VersR.upd HV11.out hT.out.2 (fun i hi e=>e (HCQ.out i hi.1))) hlt;obtain⟨⟨vt,vk,vn⟩,hkey⟩:∃v,vs[j]=v:=⟨_,rfl⟩;rw[hkey]at q0 q1 q2;simp only at q0 q1 q2;subst hA6;have b1:(0:Int)≤(j:Int):=Qn _;have b2:(j:Int)<(vs.length:Int):=by omega
      have hnk:=ZeM hnd.out hlt hkey;have HNK:=Qh hnk;have KT:=Qh (show vs.take (j+1)=vs.take j++[⟨vt,vk,vn⟩] by rw[List.take_succ_eq_append_getElem hlt,hkey]);have HNU:=Qh (show(fun x=>if x=(di,vt) then 0 else nSd nU di ((vs.take j).map (·.tx)) x)=nSd nU di ((vs.take (j+1)).map (·.tx)) by rw[KT.out,List.map_append];funext x;exact(Zd4 nU di vt _ x).symm);obtain⟨zx,hzx⟩:∃z,wr.heap.size=z:=⟨_,rfl⟩;obtain⟨wx,hwx⟩:∃wx,wr.alloc (.cells #[.int .i64 vt,.int .i64 vk,.int .i64 vn] 28)=wx:=⟨_,rfl⟩;have ux:Upd No wr wx:=by rw[←hwx];exact(Upd.refl No wr).alloc _
      have bx:Blk wx zx 28 [.int .i64 vt,.int .i64 vk,.int .i64 vn]:=by rw[←hwx,←hzx];exact Blk.new wr _ _
      have hczx:colj zx=0:=by
       rcases Classical.em (colj zx=0)with e|e
       ·exact e
       ·have:=hm.out.lt zx e;omega
      have h7:=hm.out.no ux;have HXX:=Qh h7;have T7:=Qh (hT.out.no ux);obtain⟨mR,A8,c8,hmR,hA8,hO8,h78,hRput⟩:=h7.rlook ⟨vt,vk,vn⟩;have hs8:=(HHR.out ⟨vt,vk,vn⟩).1;have hl8:=(HHR.out ⟨vt,vk,vn⟩).2;have hf8:fRd fR di (vs.take j) ⟨vt,vk,vn⟩=fR ⟨vt,vk,vn⟩:=by unfold fRd;rw[if_neg HNK.out]
      rw[hf8]at hA8 hO8 h78 hRput;obtain⟨l8,hll⟩:∃l,fR ⟨vt,vk,vn⟩=l:=⟨_,rfl⟩;rw[hll]at hA8 hO8 h78 hRput hs8 hl8
      have HFW:=Qh (show(fun k=>if k=⟨vt,vk,vn⟩ then ZV l8 di else fRd fR di (vs.take j) k)=fRd fR di (vs.take (j+1)) by
       rw[KT.out];funext x;rw[Zgq fR di ⟨vt,vk,vn⟩ _ HNK.out,hf8,hll])
      obtain⟨Sx,hSx⟩:∃S:Nat→Prop,S=fun i=>colj i=8∨colj i=4:=⟨_,rfl⟩
      have hx7:∀i,Own (.slice A8 l8.length c8) i→Sx i:=fun i hi=>by rw[hSx];exact .inl (h78 i hi)
      have hx3:Sx bR:=by rw[hSx];exact .inr h7.cR
      have hxz:¬Sx zx:=by rw[hSx];omega
      have d1:=h7.c2 (S:=Sx) (fun i e=>by rw[hSx]at e;omega);have v0:∀W,Upd Sx wx W→W.cell? ⟨zx,0,none⟩=some (.int .i64 vt):=fun W u=>(bx.upd u hxz).cell 0
      have v1:∀W,Upd Sx wx W→W.cell? ⟨zx,1,none⟩=some (.int .i64 vk):=fun W u=>(bx.upd u hxz).cell 1
      have v2:∀W,Upd Sx wx W→W.cell? ⟨zx,2,none⟩=some (.int .i64 vn):=fun W u=>(bx.upd u hxz).cell 2
      have e3:∀W,Upd No wx W→(Instr.lookup 95 (.map (some bR)) (.agg #[.int .i64 vt,.int .i64 vk,.int .i64 vn]) false).run Try.prog W= .ok (.slice A8 l8.length c8) W:=fun W u=>by
       have:=Zw Zaa Try.underlying95 Zaq (hmR.upd u id).is ⟨vt,vk,vn⟩;rw[show(Zm mR ⟨vt,vk,vn⟩).getD (.slice none 0 0)= .slice A8 l8.length c8 from hA8]at this;exact this
      have CW:=Qh (fun W (u:Upd No wx W)=>ZdA W A8 c8 l8 di (Zj hO8 u (fun _ _=>id)) hs8 hl8);have HWP:=Qh hRput;have HMW:=Qh (show∀W,Upd (Own (.slice A8 l8.length c8)) wx W→MapE W bR ZL mR from fun W u=>hmR.upd u (fun e=>by have h9:=h78 _ e;have h10:=h7.cR;omega));have HX7:=Qh hx7;have HX3:=Qh hx3;have HXZ:=Qh hxz;have HBX:=Qh bx;have HZX:=Qh hczx;have HSX:=Qh (show∀i,Sx i→colj i≠0 from fun i e=>by rw[hSx]at e;omega);have HSB:=Qh (show∀i,Sx i→colj i≠1 from fun i e=>by rw[hSx]at e;omega);have hz7:Upd No wx wx.drew:=(Upd.refl No wx).drew;have hS7:Upd Sx wx wx.drew:=(Upd.refl _ wx).drew;clear hmR hA8 hO8 h78 hRput hs8 hl8 hf8 hll hSx hx7 hx3 hxz h7 hnk hkey ux bx hczx;go_wp2;clear q0 q1 q2 hzx hwx;refine wp_region_noPanic ?_;refine wp_region_held_drew (S:=(fun W'=>Upd Sx wx W')) (by kernel_rfl) ?_ (fun hHeld=> ?_)
      ·(first|exact hS7|exact hHeld|exact hU9|exact hU10)
      refine wpK 0 rfl ?_;refine wpK 1 rfl ?_;refine wpK 2 rfl ?_;refine wpK 3 rfl ?_;refine wpK 4 rfl ?_;refine wpK 5 rfl ?_;refine wpK 6 rfl ?_;refine wpK 7 rfl ?_;refine wpK 8 rfl ?_;refine wpK 9 rfl ?_;refine wpK 11 rfl ?_;refine wpR [10] ?_;refine wpC rfl (fun K hK=> ?_) AllReadyH.nil;go_simp;refine hK.out _ _ ?_ (fun hHeld=> ?_)
      ·(first|exact hS7|exact hHeld|exact hU9|exact hU10)
      clear hK K
      try simp only[Act.put,sT,sS,sZ]
      refine wpR [12] ?_;refine wpC rfl (fun K hK=> ?_) AllReadyH.nil;go_simp
      (first
  |(go_at_call 64;refine(CW.out _ hz7).mono ?_;rintro e w9 ⟨A9,c9,rfl,hO9,hu9,hg9⟩;have hV9:Upd (Own (.slice A8 l8.length c8)) wx w9:=hu9.of_drew;have hU9:Upd Sx wx w9:=hV9.mono (fun i _ e=>HX7.out i e)))
      try (go_wp2_with fail)
      refine hK.out _ _ ?_ (fun hHeld=> ?_)
      ·(first|exact hS7|exact hHeld|exact hU9|exact hU10)
      clear hK K
      try simp only[Act.put,sT,sS,sZ]
      refine wpR [13] ?_;refine wpC rfl (fun K hK=> ?_) AllReadyH.nil
      (first
  |(refine ZY (by rfl) (by rfl) Zaa Try.underlying95 (a:=⟨vt,vk,vn⟩) (val:= .slice A9 (ZV l8 di).length c9) (by rfl) (by rfl) (by rfl) (HMW.out _ hV9) ?_;intro w10 hm10 hu10;have hU10:Upd Sx wx w10:=hU9.trans (hu10.mono (fun i _ e=>by rw[e];exact HX3.out))))
      refine hK.out _ _ ?_ (fun hHeld=> ?_)
      ·(first|exact hS7|exact hHeld|exact hU9|exact hU10)
      clear hK K
      try simp only[Act.put,sT,sS,sZ]
      refine wpD (NoPanic.normal ?_);have h10:=HWP.out w9 w10 A9 c9 _ hO9 hV9 hg9 hm10 hu10;have HH10:=Qh h10;have HM10:=Qh hm10;have TX:=Qh (T7.out.trans (TurnX.turn (Ext.colN wx w9 colj 8) hU10 HSX.out));have HEX:=Qh (Ext.colN wx w9 colj 8);have HB10:=Qh (HBX.out.upd hU10 HXZ.out);obtain⟨c10,hc10⟩:∃c,colN wx w9 colj 8=c:=⟨_,rfl⟩;rw[hc10]at HH10 TX HEX;have HZ10:=Qh (show c10 zx=0 by rw[HEX.out zx HBX.out.lt];exact HZX.out);have i2:∀W,Upd No w10 W→W.cell? ⟨g,2,none⟩=some (.map (some bR)):=fun W u=>(((HXX.out.blk.upd hU10 (fun e=>HSB.out _ e HXX.out.cg)).upd u id)).cell 2
      have i3:∀W,Upd No w10 W→W.cell? ⟨zx,0,none⟩=some (.int .i64 vt):=fun W u=>(HB10.out.upd u id).cell 0
      have i4:∀W,Upd No w10 W→W.cell? ⟨zx,1,none⟩=some (.int .i64 vk):=fun W u=>(HB10.out.upd u id).cell 1
      have i5:∀W,Upd No w10 W→W.cell? ⟨zx,2,none⟩=some (.int .i64 vn):=fun W u=>(HB10.out.upd u id).cell 2
      have i6:∀W,Upd No w10 W→(Instr.lookup 95 (.map (some bR)) (.agg #[.int .i64 vt,.int .i64 vk,.int .i64 vn]) false).run Try.prog W= .ok (.slice A9 (ZV l8 di).length c9) W:=fun W u=>by
       have:=Zw Zaa Try.underlying95 Zaq (HM10.out.upd u id).is ⟨vt,vk,vn⟩
       rwa [Zr]at this
      have hd10:Upd No w10 w10.drew:=(Upd.refl _ _).drew;clear d1 v0 v1 v2 e3 hm10 hu10 hU10 hU9 hO9 hu9 hV9 hg9 h10 hc10 hz7 hS7 hHeld;go_wp2
      by_cases hem:ZV l8 di=[]
      ·have hn0:(((ZV l8 di).length:Int)==0)=true:=by rw[hem];rfl
       have HEM:=Qh (HH10.out.2 hem);rw[hem]at HFW;clear hem;refine wp_region_noPanic ?_;refine wp_region_held_drew (S:=(fun W'=>Upd No w10 W')) (by kernel_rfl) ?_ (fun hHeld=> ?_)
       ·(first|exact hd10|exact hHeld)
       refine wpK 0 rfl ?_;refine wpK 1 rfl ?_;refine wpK 2 rfl ?_;refine wpK 3 rfl ?_;refine wpK 4 rfl ?_;refine wpK 5 rfl ?_;refine wpK 6 rfl ?_;refine wpK 7 rfl ?_;refine wpD (NoPanic.normal ?_);rw[HFW.out]at HEM;have HMX:=Qh (HM10.out.upd hd10 id);have hbr:c10 bR=4:=by rw[HEX.out bR (HXX.out.lt bR (by rw[HXX.out.cR];decide))];exact HXX.out.cR
       have d2:∀W,Upd (One bR) w10.drew W→W.cell? ⟨g,2,none⟩=some (.map (some bR)):=fun W u=>by
        rw[u.cell (p:=⟨g,2,none⟩) (block_lt_of_cell (i2 _ hd10)) (fun e=>by have h9:=HXX.out.cg;have h8:=HXX.out.cR;rw[show g=bR from e]at h9;omega)];exact i2 _ hd10
       have hzr:¬One bR zx:=fun e=>by have h8:=HZ10.out;rw[show zx=bR from e]at h8;omega
       have x0:∀W,Upd (One bR) w10.drew W→W.cell? ⟨zx,0,none⟩=some (.int .i64 vt):=fun W u=>((HB10.out.upd hd10 id).upd u hzr).cell 0
       have x1:∀W,Upd (One bR) w10.drew W→W.cell? ⟨zx,1,none⟩=some (.int .i64 vk):=fun W u=>((HB10.out.upd hd10 id).upd u hzr).cell 1
       have x2:∀W,Upd (One bR) w10.drew W→W.cell? ⟨zx,2,none⟩=some (.int .i64 vn):=fun W u=>((HB10.out.upd hd10 id).upd u hzr).cell 2
       have HBB:=Qh (HB10.out.upd hd10 id);clear i2 i3 i4 i5 i6 hHeld;obtain⟨w12,hw12⟩:∃W,w10.drew=W:=⟨_,rfl⟩;rw[hw12]at d2 x0 x1 x2 HBB HMX hd10 ⊢;have hS12:Upd (One bR) w12 w12.drew:=(Upd.refl _ w12).drew;have HMY:=Qh (show MapE w12.drew bR ZL _ from HMX.out);have HZR:=Qh hzr;clear hw12 hzr;go_wp2;refine wp_region_noPanic ?_;refine wp_region_held_drew (S:=(fun W'=>Upd (One bR) w12 W')) (by kernel_rfl) ?_ (fun hHeld=> ?_)
       ·(first|exact hS12|exact hHeld|exact hU13)
       refine wpK 0 rfl ?_;refine wpK 1 rfl ?_;refine wpK 2 rfl ?_;refine wpK 3 rfl ?_;refine wpK 4 rfl ?_;refine wpR [5] ?_;refine wpC rfl (fun K hK=> ?_) AllReadyH.nil
       (first
  |(refine ZaS (by rfl) (by rfl) Zaa Try.underlying95 (a:=⟨vt,vk,vn⟩) (by rfl) (by rfl) HMY.out ?_;intro w13 hm13 hu13;have hU13:Upd (One bR) w12 w13:=hu13.of_drew))
       refine hK.out _ _ ?_ (fun hHeld=> ?_)
       ·(first|exact hS12|exact hHeld|exact hU13)
       clear hK K
       try simp only[Act.put,sT,sS,sZ]
       refine wpD (NoPanic.normal ?_);have U13:=(hd10.mono (T:=One bR) (fun _ _ e=>e.elim)).trans hU13;have H13:=Qh (HEM.out w13 hm13 U13);have TXX:=Qh (TX.out.trans (TurnX.turn (Ext.refl w10 c10) U13 (fun i e=>by rw[show i=bR from e,hbr];decide)));have HBC:=Qh (HBB.out.upd hU13 HZR.out);clear hm13 hu13 hU13 U13 d2 x0 x1 x2 hS12 hHeld hd10;go_wp2;obtain⟨mU,hmU,hcU,hUput⟩:=H13.out.ulook;have HUP:=Qh hUput;have HCU:=Qh (hcU.del (di,vt));have u3:=H13.out.c3 (S:=One bU) (fun i e=>by rw[e,H13.out.cU];decide);have hcz:¬One bU zx:=fun e=>by have h9:=H13.out.cU;rw[←e,HZ10.out]at h9;cases h9
       have hb0:∀W,Upd (One bU) w13 W→W.cell? ⟨zx,0,none⟩=some (.int .i64 vt):=fun W u=>(HBC.out.upd u hcz).cell 0
       have HMU:=Qh (show MapE w13.drew bU ZQ mU from hmU);have hS14:Upd (One bU) w13 w13.drew:=(Upd.refl _ w13).drew;have hcu:colj bU≠0:=by rw[HXX.out.cU];decide
       clear hmU hcU hUput hcz;refine wp_region_noPanic ?_;refine wp_region_held_drew (S:=(fun W'=>Upd (One bU) w13 W')) (by kernel_rfl) ?_ (fun hHeld=> ?_)
       ·(first|exact hS14|exact hHeld|exact hU14)
       refine wpK 0 rfl ?_;refine wpK 1 rfl ?_;refine wpK 2 rfl ?_;refine wpK 3 rfl ?_;refine wpK 4 rfl ?_;refine wpK 5 rfl ?_;refine wpK 6 rfl ?_;refine wpK 7 rfl ?_;refine wpR [8] ?_;refine wpC rfl (fun K hK=> ?_) AllReadyH.nil
       (first
  |(refine ZaS (by rfl) (by rfl) Zbl Try.underlying96 (a:=(di,vt)) (by rfl) (by rfl) HMU.out ?_;intro w14 hm14 hu14;have hU14:Upd (One bU) w13 w14:=hu14.of_drew))
       refine hK.out _ _ ?_ (fun hHeld=> ?_)
       ·(first|exact hS14|exact hHeld|exact hU14)
       clear hK K
       try simp only[Act.put,sT,sS,sZ]
       refine wpD (NoPanic.normal ?_);have h14:=HUP.out w14 _ _ hm14 HCU.out hU14;rw[HNU.out]at h14;have H14:=Qh h14;have T14:=Qh (TXX.out.trans (TurnX.turn (Ext.refl w13 _) hU14 (fun i e=>by rw[e,H13.out.cU];decide)));clear hHeld h14 hm14 hu14 hU14 u3 hb0 hS14;go_wp2
       go_roundg (gk-1)
       case measure=>omega
       case rel=>exact⟨j+1,_,by omega,by go_num,H14,T14⟩
      ·have hn0:(((ZV l8 di).length:Int)==0)=false:=by
        rw[beq_eq_false_iff_ne];intro e;exact hem (List.eq_nil_of_length_eq_zero (by omega))
       have H12:=Qh ((HH10.out.1 hem));clear hem;refine wp_region_noPanic ?_;refine wp_region_held_drew (S:=(fun W'=>Upd No w10 W')) (by kernel_rfl) ?_ (fun hHeld=> ?_)
       ·(first|exact hd10|exact hHeld)
       refine wpK 0 rfl ?_;refine wpK 1 rfl ?_;refine wpK 2 rfl ?_;refine wpK 3 rfl ?_;refine wpK 4 rfl ?_;refine wpK 5 rfl ?_;refine wpK 6 rfl ?_;refine wpK 7 rfl ?_;refine wpD (NoPanic.normal ?_);rw[HFW.out]at H12;have H12:=Qh (H12.out.no hd10);have TXX:=Qh (TX.out.no hd10);have HBB:=Qh (HB10.out.upd hd10 id);clear i2 i3 i4 i5 i6 hHeld;obtain⟨w12,hw12⟩:∃W,w10.drew=W:=⟨_,rfl⟩;rw[hw12]at H12 TXX HBB ⊢;clear hd10 hw12;go_wp2;obtain⟨mU,hmU,hcU,hUput⟩:=H12.out.ulook;have HUP:=Qh hUput;have HCU:=Qh (hcU.del (di,vt));have u3:=H12.out.c3 (S:=One bU) (fun i e=>by rw[e,H12.out.cU];decide);have hcz:¬One bU zx:=fun e=>by have h9:=H12.out.cU;rw[←e,HZ10.out]at h9;cases h9
       have hb0:∀W,Upd (One bU) w12 W→W.cell? ⟨zx,0,none⟩=some (.int .i64 vt):=fun W u=>(HBB.out.upd u hcz).cell 0
       have HMU:=Qh (show MapE w12.drew bU ZQ mU from hmU);have hS14:Upd (One bU) w12 w12.drew:=(Upd.refl _ w12).drew;have hcu:colj bU≠0:=by rw[HXX.out.cU];decide
       clear hmU hcU hUput hcz;refine wp_region_noPanic ?_;refine wp_region_held_drew (S:=(fun W'=>Upd (One bU) w12 W')) (by kernel_rfl) ?_ (fun hHeld=> ?_)
       ·(first|exact hS14|exact hHeld|exact hU14)
       refine wpK 0 rfl ?_;refine wpK 1 rfl ?_;refine wpK 2 rfl ?_;refine wpK 3 rfl ?_;refine wpK 4 rfl ?_;refine wpK 5 rfl ?_;refine wpK 6 rfl ?_;refine wpK 7 rfl ?_;refine wpR [8] ?_;refine wpC rfl (fun K hK=> ?_) AllReadyH.nil
       (first
  |(refine ZaS (by rfl) (by rfl) Zbl Try.underlying96 (a:=(di,vt)) (by rfl) (by rfl) HMU.out ?_;intro w14 hm14 hu14;have hU14:Upd (One bU) w12 w14:=hu14.of_drew))
       refine hK.out _ _ ?_ (fun hHeld=> ?_)
       ·(first|exact hS14|exact hHeld|exact hU14)
       clear hK K
       try simp only[Act.put,sT,sS,sZ]
       refine wpD (NoPanic.normal ?_);have h14:=HUP.out w14 _ _ hm14 HCU.out hU14;rw[HNU.out]at h14;have H14:=Qh h14;have T14:=Qh (TXX.out.trans (TurnX.turn (Ext.refl w12 _) hU14 (fun i e=>by rw[e,H12.out.cU];decide)));clear hHeld h14 hm14 hu14 hU14 u3 hb0 hS14;go_wp2
       go_roundg (gk-1)
       case measure=>omega
       case rel=>exact⟨j+1,_,by omega,by go_num,H14,T14⟩
     ·obtain rfl:j=vs.length:=by omega
      have H13:=Qh (show IXm wr colj g bT bW bR bU bS (wt-((tl.length:Int)+1)) (fun k=>if k=di then none else eT k) (fWd fW di ks) (fRd fR di vs) (nSd nU di (vs.map (·.tx))) (nSd nS di ks) by have:=hm.out;rwa [List.take_length]at this);have T13:=Qh (T11.out.trans hT.out);clear hm hT;go_wp2
      go_ret
      refine⟨rfl,colj,?_,T13.out⟩;rw[HKD.out,show Zy ⟨ti,td,tl,tA,tc⟩=vs from HVS.out];exact H13.out
end
end
end Go.Proofs.Ytblplapkdmhikaa
