/- An index: a transaction comes. -/
import Derived.Test.YtblplapkdmhikaaDxak
import Derived.Test.YtblplapkdmhikaaDxaw
import Derived.Test.YtblplapkdmhikaaDxbp
import Derived.Test.YtblplapkdmhikaaDxbq
namespace Go.Proofs.Ytblplapkdmhikaa
set_option linter.unusedVariables false
set_option linter.unusedSimpArgs false
section
open Go.RowKit
def fWp (fW:Int→List Int) (ti:Int) (td:Bool) (ks:List Int) (k:Int):List Int:=if td=true∧k∈ks then ZK (fW k) ti else fW k
def fRp (fR:Ver→List Int) (ti:Int) (vs:List Ver) (v:Ver):List Int:=if v∈vs then ZK (fR v) ti else fR v
def nSp (nS:Int×Int→Nat) (ti:Int) (F:Int→Nat) (ks:List Int) (p:Int×Int):Nat:=if p.1=ti∧p.2∈ks then F p.2 else nS p
def nUp (nU:Int×Int→Nat) (ti:Int) (vs:List Ver) (p:Int×Int):Nat:=if p.1=ti then nU p+vs.countP (fun v=>v.tx==p.2) else nU p
theorem Zgl (fW:Int→List Int) (ti:Int) (td:Bool):fWp fW ti td []=fW:=by funext k;unfold fWp;simp
theorem Zgp (fR:Ver→List Int) (ti:Int):fRp fR ti []=fR:=by funext k;unfold fRp;simp
theorem Zf9 (nS:Int×Int→Nat) (ti:Int) (F:Int→Nat):nSp nS ti F []=nS:=by funext p;unfold nSp;simp
theorem Zf7 (nU:Int×Int→Nat) (ti:Int):nUp nU ti []=nU:=by funext p;unfold nUp;simp
theorem Zgk (fW:Int→List Int) (ti key:Int) (ks:List Int) (hn:key∉ks) (u:Int):fWp fW ti true (ks++[key]) u=if u=key then ZK (fWp fW ti true ks key) ti else fWp fW ti true ks u:=by
 unfold fWp
 by_cases e:u=key
 ·subst e;simp[hn]
 ·simp[e]
theorem Ze6 (fW:Int→List Int) (ti:Int) (ks:List Int):fWp fW ti false ks=fW:=by funext k;unfold fWp;simp
theorem Zgo (fR:Ver→List Int) (ti:Int) (key:Ver) (ks:List Ver) (hn:key∉ks) (u:Ver):fRp fR ti (ks++[key]) u=if u=key then ZK (fRp fR ti ks key) ti else fRp fR ti ks u:=by
 unfold fRp
 by_cases e:u=key
 ·subst e;simp[hn]
 ·simp[e]
theorem Zf8 (nS:Int×Int→Nat) (ti key:Int) (F:Int→Nat) (ks:List Int) (p:Int×Int):nSp nS ti F (ks++[key]) p=if p=(ti,key) then F key else nSp nS ti F ks p:=by
 obtain⟨a,b⟩:=p;unfold nSp;simp only[Prod.mk.injEq,List.mem_append,List.mem_singleton]
 by_cases e1:a=ti<;>by_cases e2:b=key<;>simp[e1,e2]
theorem Zf6 (nU:Int×Int→Nat) (ti:Int) (v:Ver) (vs:List Ver) (p:Int×Int):nUp nU ti (vs++[v]) p=if p=(ti,v.tx) then nUp nU ti vs (ti,v.tx)+1 else nUp nU ti vs p:=by
 obtain⟨a,b⟩:=p;unfold nUp;simp only[Prod.mk.injEq,List.countP_append,List.countP_cons,List.countP_nil,Nat.zero_add]
 by_cases e1:a=ti
 ·by_cases e2:b=v.tx
  ·simp[e1,e2];omega
  ·have:(v.tx==b)=false:=by rw[beq_eq_false_iff_ne];exact fun e=>e2 e.symm
   simp[e1,e2,this]
 ·simp[e1]
def Turn8 (w:World) (col:Nat→Nat) (w':World) (col':Nat→Nat):Prop:=Ext w col col'∧Upd (fun i=>3≤col i∧col i≤8) w w'
theorem Turn8.refl (w:World) (col:Nat→Nat):Turn8 w col w col:=⟨Ext.refl _ _,Upd.refl _ _⟩
theorem Turn8.trans {w w' w'':World} {a b c:Nat→Nat} (h:Turn8 w a w' b) (k:Turn8 w' b w'' c):Turn8 w a w'' c:=
 ⟨h.1.trans k.1 h.2.size,h.2.trans_ k.2 fun i hi e=>by rw[←h.1 i hi];exact e⟩
theorem Turn8.no {w w' w'':World} {a b:Nat→Nat} (h:Turn8 w a w' b) (k:Upd No w' w''):Turn8 w a w'' b:=⟨h.1,h.2.trans_ k fun _ _ e=>e.elim⟩
theorem Turn8.turn {w w':World} {a b:Nat→Nat} {S:Nat→Prop} (he:Ext w a b) (k:Upd S w w') (hS:∀i,S i→3≤a i∧a i≤8):Turn8 w a w' b:=⟨he,k.mono fun i _ e=>hS i e⟩
theorem Turn8.turned {w w':World} {a b:Nat→Nat} (h:Turn8 w a w' b):TurnX w a w' b:=⟨h.1,h.2.mono fun i _ e=>by omega⟩
section
variable {w:World} {col:Nat→Nat} {g bT bW bR bU bS:Nat} {wt:Int} {eT:Int→Option HTx} {fW:Int→List Int} {fR:Ver→List Int} {nU nS:Int×Int→Nat}
set_option maxRecDepth 100000 in
theorem ZeX (F:Nat→Prop) (w:World) (p:Option Addr) (ti:Int) (td:Bool) (A:Option Addr) (c:Nat) (tl:List HOp) (ho:HOps F w A tl) (hl:Zd tl.length) (he:Zn ti tl≠0):
  Calls Try.prog 23 #[.pointer p,.agg #[.int .i64 ti,.bool td,.slice A tl.length c]] w fun e w'=>e= .returned (.int .i64 (Zn ti tl))∧Upd No w w':=by
 obtain⟨z,hz⟩:∃z,w.heap.size=z:=⟨_,rfl⟩;obtain⟨wb,hwb⟩:∃wb,w.alloc (.cells #[.int .i64 ti,.bool td,.slice A tl.length c] 35)=wb:=⟨_,rfl⟩;have ub:Upd No w wb:=by rw[←hwb];exact(Upd.refl No w).alloc _
 have bb:Blk wb z 35 [.int .i64 ti,.bool td,.slice A tl.length c]:=by rw[←hwb,←hz];exact Blk.new w _ _
 have q0:=bb.cell 0;have q1:=bb.cell 1;have q2:=bb.cell 2;simp only[Qz,Qs]at q0 q1 q2;have HR:=Qh (Zdc F wb ti td A c tl (HOps.upd ho ub (fun _ _=>id)) hl);obtain⟨er,her⟩:∃er,Zn ti tl=er:=⟨_,rfl⟩;rw[her]at HR he ⊢;have hb:(er != 0)=true:=by rw[bne_iff_ne];exact he
 have UB:=Qh ub;clear bb ub her he ho
 go_enter Try.func23,Try.ntmps23
 go_wp2_with fail
 refine(HR.out).mono ?_;rintro e w1 ⟨rfl,hu1⟩;go_wp2
 go_ret
 exact⟨rfl,UB.out.trans hu1⟩
set_option maxRecDepth 100000 in
set_option maxHeartbeats 8000000 in
theorem ZgE (F:Nat→Prop) (w:World) (ti:Int) (td:Bool) (A:Option Addr) (c:Nat) (tl:List HOp) (ho:HOps F w A tl) (he:Zn ti tl=0)
  (hg:∀i,w.heap.size≤i→col i=0) (hF:∀i,F i→col i=0)
  (HD:Hid (∀W,Upd No w W→Calls Try.prog 27 #[.pointer (some ⟨g,0,none⟩),.int .i64 ti] W fun e w'=>(∃n,e= .returned (.int .i64 n))∧∃col',IXm w' col' g bT bW bR bU bS wt eT fW fR nU nS∧TurnX W col w' col'))
  (hwt:0≤wt∧wt≤1000000000000) (hW:∀k,(fW k).Pairwise (·<·)∧(fW k).length≤100000) (hR:∀v,(fR v).Pairwise (·<·)∧(fR v).length≤100000) (hU:∀p,nU p≤1000000):
  Calls Try.prog 23 #[.pointer (some ⟨g,0,none⟩),.agg #[.int .i64 ti,.bool td,.slice A tl.length c]] w fun e w'=>e= .returned (.int .i64 0)∧∃col',IXm w' col' g bT bW bR bU bS (wt+((tl.length:Int)+1))
   (fun k=>if k=ti then some ⟨ti,td,tl,A,c⟩ else eT k) (fWp fW ti td (ZS tl)) (fRp fR ti (Z9 ti tl)) (nUp nU ti (Z9 ti tl)) (nSp nS ti (Zv tl) (ZS tl))∧TurnX w col w' col':=by
 obtain⟨_,hlo,_⟩:=Zaw he;obtain⟨z,hz⟩:∃z,w.heap.size=z:=⟨_,rfl⟩;obtain⟨wb,hwb⟩:∃wb,w.alloc (.cells #[.int .i64 ti,.bool td,.slice A tl.length c] 35)=wb:=⟨_,rfl⟩;have ub:Upd No w wb:=by rw[←hwb];exact(Upd.refl No w).alloc _
 have bb:Blk wb z 35 [.int .i64 ti,.bool td,.slice A tl.length c]:=by rw[←hwb,←hz];exact Blk.new w _ _
 have q0:=bb.cell 0;have q1:=bb.cell 1;have q2:=bb.cell 2;simp only[Qz,Qs]at q0 q1 q2;have HRi:=Qh (Zdc F wb ti td A c tl (HOps.upd ho ub (fun _ _=>id)) (by unfold Zd;omega));rw[he]at HRi;have UB:=Qh ub;have BB:=Qh bb;have HO:=Qh ho;have HHW:=Qh hW;have HHR:=Qh hR;have HHU:=Qh hU;have HG:=Qh hg;have HF:=Qh hF;have HWT:=Qh hwt;clear bb ub he ho hW hR hU hg hwt hF
 go_enter Try.func23,Try.ntmps23
 go_wp2_with fail
 refine(HRi.out).mono ?_;rintro e w1 ⟨rfl,hu1⟩;have B1:=Qh (BB.out.upd hu1 id);have CD:=Qh (HD.out w1 (UB.out.trans hu1));have U1:=Qh (UB.out.trans hu1);have HZ:=Qh hz;have hcz:col z=0:=HG.out z (by omega);clear hu1 q0 q1 q2;have hb3:=B1.out;have t0:=hb3.cell 0;have t1:=hb3.cell 1;have t2:=hb3.cell 2;simp only[Qz,Qs]at t0 t1 t2;clear hb3
 go_wp2_with fail
 refine(CD.out).mono ?_;rintro e wD ⟨⟨n0,rfl⟩,colD,hD,hTD⟩;have BD:=Qh (B1.out.upd hTD.2 (fun e=>e hcz));have hczD:colD z=0:=by rw[hTD.1 z B1.out.lt];exact hcz
 have TD:=Qh (TurnX.ahead U1.out hTD);have HOD:=HOps.upd HO.out TD.out.2 (fun i hi e=>e (HF.out i hi));have HC:=Qh (ZeK F wD A c tl HOD (by unfold Zd;omega));have HDD:=Qh hD;clear t0 t1 t2 hTD HOD hD;have hb3:=BD.out;have t0:=hb3.cell 0;have t1:=hb3.cell 1;have t2:=hb3.cell 2;simp only[Qz,Qs]at t0 t1 t2;clear hb3
 go_wp2_with fail
 refine(HC.out).mono ?_;rintro e wC ⟨A2,c2,rfl,hc2,hh2,hu2⟩;clear t0 t1 t2;have BC:=Qh (BD.out.upd hu2 id);have hb3:=BC.out;have t0:=hb3.cell 0;have t1:=hb3.cell 1;have t2:=hb3.cell 2;simp only[Qz,Qs]at t0 t1 t2;clear hb3;have f2:=BC.out.free 2;obtain⟨wE,hwE⟩:∃wE,wC.setCell ⟨z,2,none⟩ (.slice A2 tl.length c2)=wE:=⟨_,rfl⟩;have uE:Upd (One z) wC wE:=by rw[←hwE];exact(Upd.refl _ wC).setOne 2 _
 have bE:Blk wE z 35 [.int .i64 ti,.bool td,.slice A2 tl.length c2]:=by rw[←hwE];have:=BC.out.set_ 2 (.slice A2 tl.length c2);simpa using this
 have hzD:z<wD.heap.size:=BD.out.lt;have hh9:HOps (fun i=>wD.heap.size≤i∧i<wC.heap.size) wC A2 tl:=(Recs.lt' hh2).weak (fun i _ e=>⟨e.2,e.1⟩);have HH9:=Qh hh9;have HU2:=Qh hu2;have UE:=Qh uE;have BE:=Qh bE;have HC2:=Qh hc2;clear hh2 hh9 hu2 uE bE hc2;go_wp2;clear t0 t1 t2 f2 hwE;obtain⟨mT,hmT,hTput⟩:=HDD.out.tput ⟨ti,td,tl,A,c⟩;have HTP:=Qh hTput;have hbz:bT≠z:=fun e=>by have:=HDD.out.cT;rw[e]at this;omega
 have hME:MapE wE bT (fun n:Int=>Value.int .i64 n) mT:=(hmT.upd HU2.out id).upd UE.out (fun e=>hbz e);have HMT:=Qh (show MapE wE.drew bT (fun n:Int=>Value.int .i64 n) mT from hME);have bgE:=(HDD.out.blk.upd HU2.out id).upd UE.out (fun e=>by have:=HDD.out.cg;rw[show g=z from e]at this;omega);have e0:∀W,Upd (One bT) wE W→W.cell? ⟨g,0,none⟩=some (.map (some bT)):=fun W u=>(bgE.upd u (fun e=>by have h1:=HDD.out.cg;have h2:=HDD.out.cT;rw[show g=bT from e]at h1;omega)).cell 0
 have e1:∀W,Upd (One bT) wE W→W.cell? ⟨z,0,none⟩=some (.int .i64 ti):=fun W u=>(BE.out.upd u (fun e=>hbz e.symm)).cell 0
 have e2:∀W,Upd (One bT) wE W→W.cell? ⟨z,1,none⟩=some (.bool td):=fun W u=>(BE.out.upd u (fun e=>hbz e.symm)).cell 1
 have e3:∀W,Upd (One bT) wE W→W.cell? ⟨z,2,none⟩=some (.slice A2 tl.length c2):=fun W u=>(BE.out.upd u (fun e=>hbz e.symm)).cell 2
 have hSE:Upd (One bT) wE wE.drew:=(Upd.refl _ wE).drew;have hbD:bT<wD.heap.size:=HDD.out.lt bT (by rw[HDD.out.cT];decide);clear hmT hTput bgE hME;refine wp_region_noPanic ?_;refine wp_region_held_drew (S:=(fun W'=>Upd (One bT) wE W')) (by kernel_rfl) ?_ (fun hHeld=> ?_)
 ·(first|exact hSE|exact hHeld|exact hU8)
 refine wpK 0 rfl ?_;refine wpK 1 rfl ?_;refine wpK 2 rfl ?_;refine wpK 3 rfl ?_;refine wpK 4 rfl ?_;refine wpK 5 rfl ?_;refine wpK 6 rfl ?_;refine wpR [7] ?_;refine wpC rfl (fun K hK=> ?_) AllReadyH.nil
 (first
  |(refine ZY (by rfl) (by rfl) ZaD Try.underlying93 (a:=ti) (val:= .agg #[.int .i64 ti,.bool td,.slice A2 tl.length c2]) (by rfl) (by rfl) (by rfl) HMT.out ?_;intro w8 hm8 hu8;have hU8:Upd (One bT) wE w8:=hu8.of_drew))
 refine hK.out _ _ ?_ (fun hHeld=> ?_)
 ·(first|exact hSE|exact hHeld|exact hU8)
 clear hK K
 try simp only[Act.put,sT,sS,sZ]
 refine wpD (NoPanic.normal ?_);have US:Upd (fun i=>i=bT∨i=z) wD w8:=((HU2.out.mono (T:=fun i=>i=bT∨i=z) (fun _ _ e=>e.elim)).trans_ UE.out (fun i _ e=> .inr e)).trans_ hU8 (fun i _ e=> .inl e)
 have h8:=HTP.out A2 c2 w8 (colN wD wC colD 9) (fun i=>i=bT∨i=z) (fun i e=>by rcases e with e|e<;>rw[e];exact .inl HDD.out.cT;exact .inr hczD) US
  (by
   have h9:=HOps.upd (HOps.upd HH9.out UE.out (fun i hi e=>by rw[show i=z from e]at hi;omega)) hU8 (fun i hi e=>by rw[show i=bT from e]at hi;omega);exact Recs.weak h9 (fun i _ e=>ZbC i e.1 e.2))
  HC2.out (Ext.colN _ _ _ _) (fun i hi=>Nat.lt_of_lt_of_le (ZbZ HU2.out.size i hi) (Nat.le_trans UE.out.size hU8.size)) hm8
 have HOP8:=Qh (show HOps (fun i=>colN wD wC colD 9 i=9) w8 A2 tl by
   have h9:=HOps.upd (HOps.upd HH9.out UE.out (fun i hi e=>by rw[show i=z from e]at hi;omega)) hU8 (fun i hi e=>by rw[show i=bT from e]at hi;omega);exact Recs.weak h9 (fun i _ e=>ZbC i e.1 e.2))
 have hcz8:colN wD wC colD 9 z=0:=by rw[Ext.colN wD wC colD 9 z hzD];exact hczD
 have T8:=Qh (show TurnX w col w8 (colN wD wC colD 9) from⟨TD.out.1.trans (Ext.colN wD wC colD 9) TD.out.2.size,TD.out.2.trans_ US (fun i hi e=>by
  rcases e with e|e
  ·rw[←TD.out.1 i hi,e,HDD.out.cT];decide
  ·have:=HZ.out;omega)⟩)
 have B8:=Qh (BE.out.upd hU8 (fun e=>hbz e.symm));have H8:=Qh h8;obtain⟨col8,hcol8⟩:∃cl,colN wD wC colD 9=cl:=⟨_,rfl⟩;rw[hcol8]at HOP8 hcz8 T8 H8;clear hm8 hu8 hU8 US h8 e0 e1 e2 e3 hSE hHeld hbz hbD hzD hcol8;go_wp2
 try simp only[Act.put]
 go_cut [] (fun wx=>Blk wx g 99 [.map (some bT),.map (some bW),.map (some bR),.map (some bU),.map (some bS),.int .i64 (wt+((tl.length:Int)+1))]∧Upd (One g) w8 wx)
 case first=>
  have hb3:=H8.out.blk;have hgz:¬One g z:=fun e=>by have h9:=H8.out.cg;rw[show g=z from e.symm]at h9;omega
  have e5:∀W,Upd No w8 W→W.cell? ⟨g,5,none⟩=some (.int .i64 wt):=fun W u=>(hb3.upd u id).cell 5
  have f5:∀W,Upd No w8 W→W.frozen? ⟨g,5,none⟩=false:=fun W u=>(hb3.upd u id).free 5
  have q0:∀W,Upd (One g) w8 W→W.cell? ⟨z,0,none⟩=some (.int .i64 ti):=fun W u=>(B8.out.upd u hgz).cell 0
  have q1:∀W,Upd (One g) w8 W→W.cell? ⟨z,1,none⟩=some (.bool td):=fun W u=>(B8.out.upd u hgz).cell 1
  have q2:∀W,Upd (One g) w8 W→W.cell? ⟨z,2,none⟩=some (.slice A2 tl.length c2):=fun W u=>(B8.out.upd u hgz).cell 2
  have CWt:=Qh (fun W=>ZdY W ti td A2 tl.length c2 (by omega));have hw5:IntKind.i64.wrap (wt+((tl.length:Int)+1))=wt+((tl.length:Int)+1):=IntWalk.i64_in _ (by have:=HWT.out;omega);have hN3:Upd No w8 w8.drew:=(Upd.refl No w8).drew;have hS3:Upd (One g) w8 w8.drew:=(Upd.refl _ w8).drew;have HB3:=Qh hb3;clear hb3;refine wp_region_noPanic ?_;refine wp_region_held_drew (S:=(fun W'=>Upd (One g) w8 W')) (by kernel_rfl) ?_ (fun hHeld=> ?_)
  ·(first|exact hS3|exact hHeld|exact hS4|exact hS5)
  refine wpK 0 rfl ?_;refine wpK 1 rfl ?_;refine wpK 2 rfl ?_;refine wpK 4 rfl ?_;refine wpR [3,5] ?_;refine wpC rfl (fun K hK=> ?_) ?_
  ·go_simp;refine hK.out _ _ ?_ (fun hHeld=> ?_)
   ·(first|exact hS3|exact hHeld|exact hS4|exact hS5)
   clear hK K
   try simp only[Act.put,sT,sS,sZ]
   refine wpR [5] ?_;refine wpC rfl (fun K hK=> ?_) AllReadyH.nil;go_simp
   (first
   |(go_at_call 57;refine(CWt.out _).mono ?_;rintro e w4 ⟨rfl,hu4⟩;have hN4:Upd No w8 w4:=hu4.of_drew;have hS4:Upd (One g) w8 w4:=hN4.mono (fun _ _ e=>e.elim);have hS5:Upd (One g) w8 (w4.setCell ⟨g,5,none⟩ (.int .i64 (wt+((tl.length:Int)+1)))):=hS4.setOne 5 _))
   try (go_wp2_with fail)
   refine hK.out _ _ ?_ (fun hHeld=> ?_)
   ·(first|exact hS3|exact hHeld|exact hS4|exact hS5)
   clear hK K
   try simp only[Act.put,sT,sS,sZ]
   refine wpK 6 rfl ?_;refine wpK 7 rfl ?_;refine wpK 8 rfl ?_;refine wpR [9] ?_;refine wpC rfl (fun K hK=> ?_) AllReadyH.nil;go_simp;refine hK.out _ _ ?_ (fun hHeld=> ?_)
   ·(first|exact hS3|exact hHeld|exact hS4|exact hS5)
   clear hK K
   try simp only[Act.put,sT,sS,sZ]
   refine wpD (NoPanic.normal ?_);have hb5:=(HB3.out.upd hN4 id).set_ 5 (.int .i64 (wt+((tl.length:Int)+1)));simp only[List.set_cons_zero,List.set_cons_succ]at hb5
   go_wp2_with fail
   go_meet
   exact⟨hb5,hS5⟩
  refine wpC rfl (fun K hK=> ?_) AllReadyH.nil;go_simp
  (first
  |(go_at_call 57;refine(CWt.out _).mono ?_;rintro e w4 ⟨rfl,hu4⟩;have hN4:Upd No w8 w4:=hu4.of_drew;have hS4:Upd (One g) w8 w4:=hN4.mono (fun _ _ e=>e.elim);have hS5:Upd (One g) w8 (w4.setCell ⟨g,5,none⟩ (.int .i64 (wt+((tl.length:Int)+1)))):=hS4.setOne 5 _))
  try (go_wp2_with fail)
  refine hK.out _ _ ?_ (fun hHeld=> ?_)
  ·(first|exact hS3|exact hHeld|exact hS4|exact hS5)
  clear hK K
  try simp only[Act.put,sT,sS,sZ]
  refine wpR [3] ?_;refine wpC rfl (fun K hK=> ?_) AllReadyH.nil;go_simp;refine hK.out _ _ ?_ (fun hHeld=> ?_)
  ·(first|exact hS3|exact hHeld|exact hS4|exact hS5)
  clear hK K
  try simp only[Act.put,sT,sS,sZ]
  refine wpK 6 rfl ?_;refine wpK 7 rfl ?_;refine wpK 8 rfl ?_;refine wpR [9] ?_;refine wpC rfl (fun K hK=> ?_) AllReadyH.nil;go_simp;refine hK.out _ _ ?_ (fun hHeld=> ?_)
  ·(first|exact hS3|exact hHeld|exact hS4|exact hS5)
  clear hK K
  try simp only[Act.put,sT,sS,sZ]
  refine wpD (NoPanic.normal ?_);have hb5:=(HB3.out.upd hN4 id).set_ 5 (.int .i64 (wt+((tl.length:Int)+1)));simp only[List.set_cons_zero,List.set_cons_succ]at hb5
  go_wp2_with fail
  go_meet
  exact⟨hb5,hS5⟩
 case rest=>
  obtain⟨hb5,hu5⟩:=hcut;obtain⟨w5,hw5⟩:∃w5,w5=wc:=⟨_,rfl⟩;subst hw5;have h5:=H8.out.weigh _ hb5 hu5;have hgz:¬One g z:=fun e=>by have h9:=H8.out.cg;rw[show g=z from e.symm]at h9;omega
  have T5:=Qh (T8.out.trans (TurnX.turn (Ext.refl w8 col8) hu5 (fun i e=>by rw[show i=g from e,H8.out.cg];decide)));have B5:=Qh (B8.out.upd hu5 hgz);have HOP5:=Qh (HOps.upd HOP8.out hu5 (fun i hi e=>by rw[show i=g from e,H8.out.cg]at hi;cases hi));have H5:=Qh h5;have hb3:=B5.out;have t0:=hb3.cell 0;have t1:=hb3.cell 1;have t2:=hb3.cell 2;simp only[Qz,Qs]at t0 t1 t2;clear hb3;have HK:=Qh (ZfK _ w5 ti td A2 c2 tl HOP5.out (by unfold Zd;omega));have hks:=Qh (ZdZ (ZF tl fun o=> !o.read));have hkl:=Nat.le_trans (Zdf (ZF tl fun o=> !o.read)) (ZcU tl _);have hkw:=Qh (ZbP tl);obtain⟨ks,hksd⟩:∃ks,ZS tl=ks:=⟨_,rfl⟩;rw[show Zbp (ZF tl fun o=> !o.read)=ks from hksd]at hks hkl;rw[hksd]at HK hkw;have HKD:=Qh hksd;clear hb5 hu5 h5 hksd hgz
  go_wp2_with fail
  refine(HK.out).mono ?_;rintro e w6 ⟨A6,c6,rfl,ho6,hu6⟩;clear t0 t1 t2;have hi6:Ints (fun i=>w5.heap.size≤i∧i<w6.heap.size) w6 A6 ks:=Ints.weak ((Ints.of_own ho6).lt' (fun _ e=>e)) (fun i _ (e:i<w6.heap.size∧w5.heap.size≤i)=>⟨e.2,e.1⟩);have HI6:=Qh hi6;have H6:=Qh (H5.out.no hu6);have T6:=Qh (T5.out.no hu6);have B6:=Qh (B5.out.upd hu6 id);have HOP6:=Qh (HOps.upd HOP5.out hu6 (fun _ _=>id))
  have HC8:=Qh (show∀i,w5.heap.size≤i→col8 i=0 from fun i hi=>by
   rcases Classical.em (col8 i=0)with e|e
   ·exact e
   ·have:=H5.out.lt i e;omega)
  clear ho6 hu6 hi6;go_wp2
  go_loopg [44] ks.length (fun gj i wj=>∃(j:Nat) (colj:Nat→Nat),j+gj=ks.length∧i= .int .i64 (j:Int)∧
   Hid (IXm wj colj g bT bW bR bU bS (wt+((tl.length:Int)+1)) (fun k=>if k=ti then some ⟨ti,td,tl,A,c⟩ else eT k) (fWp fW ti td (ks.take j)) fR nU (nSp nS ti (Zv tl) (ks.take j)))∧Hid (Turn8 w6 col8 wj colj))
  case atStart=>exact⟨0,col8,by omega,rfl,Qh (by rw[List.take_zero,Zgl,Zf9];exact H6.out),Qh (Turn8.refl _ _)⟩
  case round=>
   obtain⟨j,colj,hgj,rfl,hm,hT⟩:=hrel
   by_cases hlt:j<ks.length
   ·obtain⟨ad,hA6,_,_,q0⟩:=(HI6.out.upd hT.out.2 (fun i hi e=>by have:=HC8.out i hi.1;omega)).at_ hlt;obtain⟨key,hkey⟩:∃key,ks[j]=key:=⟨_,rfl⟩;rw[hkey]at q0;subst hA6;have b1:(0:Int)≤(j:Int):=Qn _;have b2:(j:Int)<(ks.length:Int):=by omega
    have hnk:key∉ks.take j:=Zdm hks.out hlt hkey;have hpos:0<Zv tl key:=(hkw.out key).1 (by rw[←hkey];exact List.getElem_mem hlt);have HMJ:=Qh hm.out;obtain⟨mS,hmS,hcS,hSput⟩:=hm.out.slook;have KT:=Qh (show ks.take (j+1)=ks.take j++[key] by rw[List.take_succ_eq_append_getElem hlt,hkey]);have HNS:=Qh (show(fun x=>if x=(ti,key) then Zv tl key else nSp nS ti (Zv tl) (ks.take j) x)=nSp nS ti (Zv tl) (ks.take (j+1)) by rw[KT.out];funext x;exact(Zf8 nS ti key (Zv tl) _ x).symm);have HSP:=Qh hSput;have HCD:=Qh (hcS.put (ti,key) (Zv tl key) hpos);have HNK:=Qh hnk;have hczj:colj z=0:=by rw[hT.out.1 z B6.out.lt];exact hcz8
    have BJ:=Qh (B6.out.upd hT.out.2 (fun e=>by omega));have HOPJ:=Qh (HOps.upd HOP6.out hT.out.2 (fun i hi e=>by omega));have hbz:¬One bS z:=fun e=>by have h9:=HMJ.out.cS;rw[show bS=z from e.symm]at h9;omega
    have d4:=HMJ.out.c4 (S:=One bS) (fun i e=>by rw[show i=bS from e,HMJ.out.cS];decide);have v0:∀W,Upd (One bS) wr W→W.cell? ⟨z,0,none⟩=some (.int .i64 ti):=fun W u=>(BJ.out.upd u hbz).cell 0
    have v1:∀W,Upd (One bS) wr W→W.cell? ⟨z,1,none⟩=some (.bool td):=fun W u=>(BJ.out.upd u hbz).cell 1
    have v2:∀W,Upd (One bS) wr W→W.cell? ⟨z,2,none⟩=some (.slice A2 tl.length c2):=fun W u=>(BJ.out.upd u hbz).cell 2
    obtain⟨nk,hnk2⟩:∃n,Zv tl key=n:=⟨_,rfl⟩;rw[hnk2]at HNS HCD;have CWr:=Qh (fun W (u:Upd No wr W)=>ZfZ _ W ti td A2 c2 tl key (HOps.upd HOPJ.out u (fun _ _=>id)) (by unfold Zd;omega));rw[hnk2]at CWr;have HMS:=Qh (show∀W,Upd No wr W→MapE W bS ZQ mS from fun W u=>hmS.upd u id);have hz7:Upd No wr wr.drew:=(Upd.refl No wr).drew;have hS7:Upd (One bS) wr wr.drew:=(Upd.refl _ wr).drew;have HBZ:=Qh hbz;have T6J:=Qh hT.out;clear hm hcS hSput hkey hnk hmS hnk2 hpos hbz hT;go_wp2;clear q0;refine wp_region_noPanic ?_;refine wp_region_held_drew (S:=(fun W'=>Upd (One bS) wr W')) (by kernel_rfl) ?_ (fun hHeld=> ?_)
    ·(first|exact hS7|exact hHeld|exact hS9|exact hU10)
    refine wpK 0 rfl ?_;refine wpK 1 rfl ?_;refine wpK 2 rfl ?_;refine wpK 3 rfl ?_;refine wpK 4 rfl ?_;refine wpK 5 rfl ?_;refine wpK 6 rfl ?_;refine wpK 7 rfl ?_;refine wpK 8 rfl ?_;refine wpK 9 rfl ?_;refine wpR [10] ?_;refine wpC rfl (fun K hK=> ?_) AllReadyH.nil;go_simp
    (first
  |(go_at_call 59;refine(CWr.out _ hz7).mono ?_;rintro e w9 ⟨rfl,hu9⟩;have hN9:Upd No wr w9:=hu9.of_drew;have hS9:Upd (One bS) wr w9:=hN9.mono (fun _ _ e=>e.elim)))
    try (go_wp2_with fail)
    refine hK.out _ _ ?_ (fun hHeld=> ?_)
    ·(first|exact hS7|exact hHeld|exact hS9|exact hU10)
    clear hK K
    try simp only[Act.put,sT,sS,sZ]
    refine wpR [11] ?_;refine wpC rfl (fun K hK=> ?_) AllReadyH.nil
    (first
  |(refine ZY (by rfl) (by rfl) ZcB Try.underlying97 (a:=(ti,key)) (val:= .int .i64 (nk:Int)) (by rfl) (by rfl) (by rfl) (HMS.out _ hN9) ?_;intro w10 hm10 hu10;have hU10:Upd (One bS) wr w10:=hS9.trans hu10))
    refine hK.out _ _ ?_ (fun hHeld=> ?_)
    ·(first|exact hS7|exact hHeld|exact hS9|exact hU10)
    clear hK K
    try simp only[Act.put,sT,sS,sZ]
    refine wpD (NoPanic.normal ?_);have h7:=HSP.out w10 _ _ hm10 HCD.out hU10;rw[HNS.out]at h7;have T7:=Qh (T6J.out.trans (Turn8.turn (Ext.refl wr colj) hU10 (fun i e=>by rw[show i=bS from e,HMJ.out.cS];omega)));have BK:=Qh (BJ.out.upd hU10 HBZ.out);have HK7:=Qh h7;have hb3:=BK.out;have t0:=hb3.cell 0;have t1:=hb3.cell 1;have t2:=hb3.cell 2;simp only[Qz,Qs]at t0 t1 t2;clear hb3;clear hm10 hu10 hU10 hu9 hN9 hS9 d4 v0 v1 v2 hz7 hS7 hHeld h7
    cases td with
    |false=>
     have HJ:=HK7.out;rw[Ze6,←Ze6 fW ti (ks.take (j+1))]at HJ;have HJJ:=Qh HJ;clear HJ;go_wp2
     go_roundg (gk-1)
     case measure=>omega
     case rel=>exact⟨j+1,colj,by omega,by go_num,HJJ,T7⟩
    |true=>
     obtain⟨mW,A8,c8,hmW,hA8,hO8,h78,hWput⟩:=HK7.out.wlook key;have hs8:=(HHW.out key).1;have hl8:=(HHW.out key).2;have hf8:fWp fW ti true (ks.take j) key=fW key:=by unfold fWp;rw[if_neg (fun h=>HNK.out h.2)]
     rw[hf8]at hA8 hO8 h78 hWput;obtain⟨l8,hll⟩:∃l,fW key=l:=⟨_,rfl⟩;rw[hll]at hA8 hO8 h78 hWput hs8 hl8
     have HFW:=Qh (show(fun k=>if k=key then ZK l8 ti else fWp fW ti true (ks.take j) k)=fWp fW ti true (ks.take (j+1)) by
      rw[KT.out];funext x;rw[Zgk fW ti key _ HNK.out,hf8,hll])
     obtain⟨Sx,hSx⟩:∃S:Nat→Prop,S=fun i=>colj i=7∨colj i=3:=⟨_,rfl⟩
     have hx7:∀i,Own (.slice A8 l8.length c8) i→Sx i:=fun i hi=>by rw[hSx];exact .inl (h78 i hi)
     have hx3:Sx bW:=by rw[hSx];exact .inr HK7.out.cW
     have hxz:¬Sx z:=by rw[hSx];omega
     have d1:=HK7.out.c1 (S:=Sx) (fun i e=>by rw[hSx]at e;omega);have v0:∀W,Upd Sx w10 W→W.cell? ⟨z,0,none⟩=some (.int .i64 ti):=fun W u=>(BK.out.upd u hxz).cell 0
     have e3:∀W,Upd No w10 W→(Instr.lookup 94 (.map (some bW)) (.int .i64 key) false).run Try.prog W= .ok (.slice A8 l8.length c8) W:=fun W u=>by
      have:=Zw ZaD Try.underlying94 Zaq (hmW.upd u id).is key;rw[show(Zm mW key).getD (.slice none 0 0)= .slice A8 l8.length c8 from hA8]at this;exact this
     have CW:=Qh (fun W (u:Upd No w10 W)=>ZfN W A8 c8 l8 ti (Zj hO8 u (fun _ _=>id)) hs8 hl8);have HWP:=Qh hWput;have HMW:=Qh (show∀W,Upd (Own (.slice A8 l8.length c8)) w10 W→MapE W bW (fun n:Int=>Value.int .i64 n) mW from fun W u=>hmW.upd u (fun e=>by have h9:=h78 _ e;have h10:=HK7.out.cW;omega));have HX7:=Qh hx7;have HX3:=Qh hx3;have HSX:=Qh (show∀i,Sx i→3≤colj i∧colj i≤8 from fun i e=>by rw[hSx]at e;omega);have hz7:Upd No w10 w10.drew:=(Upd.refl No w10).drew;have hS7:Upd Sx w10 w10.drew:=(Upd.refl _ w10).drew;clear hmW hA8 hO8 h78 hWput hs8 hl8 hf8 hll hSx hx7 hx3 hxz;go_wp2;clear t0 t1 t2;refine wp_region_noPanic ?_;refine wp_region_held_drew (S:=(fun W'=>Upd Sx w10 W')) (by kernel_rfl) ?_ (fun hHeld=> ?_)
     ·(first|exact hS7|exact hHeld|exact hU9|exact hU10)
     refine wpK 0 rfl ?_;refine wpK 1 rfl ?_;refine wpK 2 rfl ?_;refine wpK 3 rfl ?_;refine wpK 4 rfl ?_;refine wpK 5 rfl ?_;refine wpK 6 rfl ?_;refine wpK 7 rfl ?_;refine wpK 8 rfl ?_;refine wpK 9 rfl ?_;refine wpK 11 rfl ?_;refine wpK 12 rfl ?_;refine wpR [10] ?_;refine wpC rfl (fun K hK=> ?_) AllReadyH.nil;go_simp;refine hK.out _ _ ?_ (fun hHeld=> ?_)
     ·(first|exact hS7|exact hHeld|exact hU9|exact hU10)
     clear hK K
     try simp only[Act.put,sT,sS,sZ]
     refine wpR [13] ?_;refine wpC rfl (fun K hK=> ?_) AllReadyH.nil;go_simp
     (first
  |(go_at_call 60;refine(CW.out _ hz7).mono ?_;rintro e w9 ⟨A9,c9,rfl,hO9,hu9,hg9⟩;have hV9:Upd (Own (.slice A8 l8.length c8)) w10 w9:=hu9.of_drew;have hU9:Upd Sx w10 w9:=hV9.mono (fun i _ e=>HX7.out i e)))
     try (go_wp2_with fail)
     refine hK.out _ _ ?_ (fun hHeld=> ?_)
     ·(first|exact hS7|exact hHeld|exact hU9|exact hU10)
     clear hK K
     try simp only[Act.put,sT,sS,sZ]
     refine wpR [14] ?_;refine wpC rfl (fun K hK=> ?_) AllReadyH.nil
     (first
  |(refine ZY (by rfl) (by rfl) ZaD Try.underlying94 (a:=key) (val:= .slice A9 (ZK l8 ti).length c9) (by rfl) (by rfl) (by rfl) (HMW.out _ hV9) ?_;intro w11 hm11 hu11;have hU10:Upd Sx w10 w11:=hU9.trans (hu11.mono (fun i _ e=>by rw[e];exact HX3.out))))
     refine hK.out _ _ ?_ (fun hHeld=> ?_)
     ·(first|exact hS7|exact hHeld|exact hU9|exact hU10)
     clear hK K
     try simp only[Act.put,sT,sS,sZ]
     refine wpD (NoPanic.normal ?_);have h10:=HWP.out w9 w11 A9 c9 _ hO9 hV9 hg9 hm11 hu11;rw[HFW.out]at h10;have H10:=Qh h10;have T10:=Qh (T7.out.trans (Turn8.turn (Ext.colN w10 w9 colj 7) hU10 HSX.out));clear hHeld h10 hm11 hu11 hU10 hU9 hO9 hu9 hV9 hg9 d1 v0 e3 hz7 hS7;go_wp2
     go_roundg (gk-1)
     case measure=>omega
     case rel=>exact⟨j+1,_,by omega,by go_num,H10,T10⟩
   ·obtain rfl:j=ks.length:=by omega
    have HF':=Qh (show IXm wr colj g bT bW bR bU bS (wt+((tl.length:Int)+1)) (fun k=>if k=ti then some ⟨ti,td,tl,A,c⟩ else eT k) (fWp fW ti td ks) fR nU (nSp nS ti (Zv tl) ks) by have:=hm.out;rwa [List.take_length]at this);have TF:=Qh hT.out;have BF:=Qh (B6.out.upd hT.out.2 (fun e=>by omega));have HOPF:=Qh (HOps.upd HOP6.out hT.out.2 (fun i hi e=>by omega));obtain⟨wo,hwo⟩:∃wo,wo=wr:=⟨_,rfl⟩;subst hwo
    generalize gk=GK at*
    have hb3:=BF.out;have t0:=hb3.cell 0;have t1:=hb3.cell 1;have t2:=hb3.cell 2;simp only[Qz,Qs]at t0 t1 t2;clear hb3;have HN:=Qh (ZeA _ wo ti td A2 c2 tl HOPF.out (by unfold Zd;omega));have hvl:(Z9 ti tl).length≤tl.length:=Zaj ti tl _;obtain⟨vs,hvs⟩:∃vs,Z9 ti tl=vs:=⟨_,rfl⟩;rw[hvs]at HN hvl;have HVS:=Qh hvs;clear hm hT hvs
    go_wp2_with fail
    refine(HN.out).mono ?_;rintro e w11 ⟨A11,c11,rfl,ho11,hu11⟩;clear t0 t1 t2;have hv11:VersR (fun i=>wo.heap.size≤i∧i<w11.heap.size) w11 A11 vs:=(Recs.lt' (Zav ho11)).weak (fun i _ e=>⟨e.2,e.1⟩);have HV11:=Qh hv11;have H11:=Qh (HF'.out.no hu11);have T11:=Qh (TF.out.no hu11);have B11:=Qh (BF.out.upd hu11 id);have hnd:=Qh (show vs.Nodup by rw[←HVS.out];exact ZaB ti tl _);obtain⟨colq,hcq⟩:∃c,c=colj:=⟨_,rfl⟩;subst hcq;have hczq:colq z=0:=by rw[TF.out.1 z B6.out.lt];exact hcz8
    have HCQ:=Qh (show∀i,wo.heap.size≤i→colq i=0 from fun i hi=>by
     rcases Classical.em (colq i=0)with e|e
     ·exact e
     ·have:=HF'.out.lt i e;omega)
    clear ho11 hu11 hv11;go_wp2
    go_loopg [79] vs.length (fun gj i wj=>∃(j:Nat) (colj:Nat→Nat),j+gj=vs.length∧i= .int .i64 (j:Int)∧
     Hid (IXm wj colj g bT bW bR bU bS (wt+((tl.length:Int)+1)) (fun k=>if k=ti then some ⟨ti,td,tl,A,c⟩ else eT k) (fWp fW ti td ks) (fRp fR ti (vs.take j)) (nUp nU ti (vs.take j)) (nSp nS ti (Zv tl) ks))∧Hid (Turn8 w11 colq wj colj))
    case atStart=>exact⟨0,colq,by omega,rfl,Qh (by rw[List.take_zero,Zgp,Zf7];exact H11.out),Qh (Turn8.refl _ _)⟩
    case round=>
     obtain⟨j,colj,hgj,rfl,hm,hT⟩:=hrel
     by_cases hlt:j<vs.length
     ·obtain⟨ad,hA6,q0,q1,q2⟩:=VersR.at_ (VersR.upd HV11.out hT.out.2 (fun i hi e=>by have:=HCQ.out i hi.1;omega)) hlt;obtain⟨⟨vt,vk,vn⟩,hkey⟩:∃v,vs[j]=v:=⟨_,rfl⟩;rw[hkey]at q0 q1 q2;simp only at q0 q1 q2;subst hA6;have b1:(0:Int)≤(j:Int):=Qn _;have b2:(j:Int)<(vs.length:Int):=by omega
      have hnk:=ZeM hnd.out hlt hkey;have HNK:=Qh hnk;have KT:=Qh (show vs.take (j+1)=vs.take j++[⟨vt,vk,vn⟩] by rw[List.take_succ_eq_append_getElem hlt,hkey]);have HNU:=Qh (show(fun x=>if x=(ti,vt) then nUp nU ti (vs.take j) (ti,vt)+1 else nUp nU ti (vs.take j) x)=nUp nU ti (vs.take (j+1)) by rw[KT.out];funext x;exact(Zf6 nU ti ⟨vt,vk,vn⟩ _ x).symm)
      have hnl:nUp nU ti (vs.take j) (ti,vt)≤2000000:=by
       unfold nUp;have h1:=HHU.out (ti,vt);have h2:=List.countP_le_length (p:=fun v:Ver=>v.tx==vt) (l:=vs.take j);have h3:=List.length_take_le j vs;rw[if_pos rfl];exact Nat.le_trans (Nat.add_le_add h1 (Nat.le_trans h2 h3)) (by omega)
      obtain⟨zx,hzx⟩:∃z,wr.heap.size=z:=⟨_,rfl⟩;obtain⟨wx,hwx⟩:∃wx,wr.alloc (.cells #[.int .i64 vt,.int .i64 vk,.int .i64 vn] 28)=wx:=⟨_,rfl⟩;have ux:Upd No wr wx:=by rw[←hwx];exact(Upd.refl No wr).alloc _
      have bx:Blk wx zx 28 [.int .i64 vt,.int .i64 vk,.int .i64 vn]:=by rw[←hwx,←hzx];exact Blk.new wr _ _
      have hczx:colj zx=0:=by
       rcases Classical.em (colj zx=0)with e|e
       ·exact e
       ·have:=hm.out.lt zx e;omega
      have hczj:colj z=0:=by rw[hT.out.1 z B11.out.lt];exact hczq
      have BJ:=Qh ((B11.out.upd hT.out.2 (fun e=>by omega)).upd ux id);have h7:=hm.out.no ux;have HXX:=Qh h7;have T7:=Qh (hT.out.no ux);obtain⟨mR,A8,c8,hmR,hA8,hO8,h78,hRput⟩:=h7.rlook ⟨vt,vk,vn⟩;have hs8:=(HHR.out ⟨vt,vk,vn⟩).1;have hl8:=(HHR.out ⟨vt,vk,vn⟩).2;have hf8:fRp fR ti (vs.take j) ⟨vt,vk,vn⟩=fR ⟨vt,vk,vn⟩:=by unfold fRp;rw[if_neg HNK.out]
      rw[hf8]at hA8 hO8 h78 hRput;obtain⟨l8,hll⟩:∃l,fR ⟨vt,vk,vn⟩=l:=⟨_,rfl⟩;rw[hll]at hA8 hO8 h78 hRput hs8 hl8
      have HFW:=Qh (show(fun k=>if k=⟨vt,vk,vn⟩ then ZK l8 ti else fRp fR ti (vs.take j) k)=fRp fR ti (vs.take (j+1)) by
       rw[KT.out];funext x;rw[Zgo fR ti ⟨vt,vk,vn⟩ _ HNK.out,hf8,hll])
      have HNE:=Qh (show ZK l8 ti≠[] from fun e=>by have:=(ZcO l8 ti ti).2 (.inl rfl);rw[e]at this;cases this);obtain⟨Sx,hSx⟩:∃S:Nat→Prop,S=fun i=>colj i=8∨colj i=4:=⟨_,rfl⟩
      have hx7:∀i,Own (.slice A8 l8.length c8) i→Sx i:=fun i hi=>by rw[hSx];exact .inl (h78 i hi)
      have hx3:Sx bR:=by rw[hSx];exact .inr h7.cR
      have hxz:¬Sx zx:=by rw[hSx];omega
      have hxz2:¬Sx z:=by rw[hSx];omega
      have d1:=h7.c2 (S:=Sx) (fun i e=>by rw[hSx]at e;omega);have v0:∀W,Upd Sx wx W→W.cell? ⟨zx,0,none⟩=some (.int .i64 vt):=fun W u=>(bx.upd u hxz).cell 0
      have v1:∀W,Upd Sx wx W→W.cell? ⟨zx,1,none⟩=some (.int .i64 vk):=fun W u=>(bx.upd u hxz).cell 1
      have v2:∀W,Upd Sx wx W→W.cell? ⟨zx,2,none⟩=some (.int .i64 vn):=fun W u=>(bx.upd u hxz).cell 2
      have v3:∀W,Upd Sx wx W→W.cell? ⟨z,0,none⟩=some (.int .i64 ti):=fun W u=>(BJ.out.upd u hxz2).cell 0
      have e3:∀W,Upd No wx W→(Instr.lookup 95 (.map (some bR)) (.agg #[.int .i64 vt,.int .i64 vk,.int .i64 vn]) false).run Try.prog W= .ok (.slice A8 l8.length c8) W:=fun W u=>by
       have:=Zw Zaa Try.underlying95 Zaq (hmR.upd u id).is ⟨vt,vk,vn⟩;rw[show(Zm mR ⟨vt,vk,vn⟩).getD (.slice none 0 0)= .slice A8 l8.length c8 from hA8]at this;exact this
      have CW:=Qh (fun W (u:Upd No wx W)=>ZfN W A8 c8 l8 ti (Zj hO8 u (fun _ _=>id)) hs8 hl8);have HWP:=Qh hRput;have HMW:=Qh (show∀W,Upd (Own (.slice A8 l8.length c8)) wx W→MapE W bR ZL mR from fun W u=>hmR.upd u (fun e=>by have h9:=h78 _ e;have h10:=h7.cR;omega));have HX7:=Qh hx7;have HX3:=Qh hx3;have HXZ:=Qh hxz;have HXZ2:=Qh hxz2;have HBX:=Qh bx;have HZX:=Qh hczx;have HZJ:=Qh hczj;have HSX:=Qh (show∀i,Sx i→3≤colj i∧colj i≤8 from fun i e=>by rw[hSx]at e;omega);have hz7:Upd No wx wx.drew:=(Upd.refl No wx).drew;have hS7:Upd Sx wx wx.drew:=(Upd.refl _ wx).drew;clear hmR hA8 hO8 h78 hRput hs8 hl8 hf8 hll hSx hx7 hx3 hxz hxz2 h7 hnk hkey ux bx hczx hczj;go_wp2;clear q0 q1 q2 hzx hwx;refine wp_region_noPanic ?_;refine wp_region_held_drew (S:=(fun W'=>Upd Sx wx W')) (by kernel_rfl) ?_ (fun hHeld=> ?_)
      ·(first|exact hS7|exact hHeld|exact hU9|exact hU10)
      refine wpK 0 rfl ?_;refine wpK 1 rfl ?_;refine wpK 2 rfl ?_;refine wpK 3 rfl ?_;refine wpK 4 rfl ?_;refine wpK 5 rfl ?_;refine wpK 6 rfl ?_;refine wpK 7 rfl ?_;refine wpK 8 rfl ?_;refine wpK 9 rfl ?_;refine wpK 11 rfl ?_;refine wpK 12 rfl ?_;refine wpR [10] ?_;refine wpC rfl (fun K hK=> ?_) AllReadyH.nil;go_simp;refine hK.out _ _ ?_ (fun hHeld=> ?_)
      ·(first|exact hS7|exact hHeld|exact hU9|exact hU10)
      clear hK K
      try simp only[Act.put,sT,sS,sZ]
      refine wpR [13] ?_;refine wpC rfl (fun K hK=> ?_) AllReadyH.nil;go_simp
      (first
  |(go_at_call 60;refine(CW.out _ hz7).mono ?_;rintro e w9 ⟨A9,c9,rfl,hO9,hu9,hg9⟩;have hV9:Upd (Own (.slice A8 l8.length c8)) wx w9:=hu9.of_drew;have hU9:Upd Sx wx w9:=hV9.mono (fun i _ e=>HX7.out i e)))
      try (go_wp2_with fail)
      refine hK.out _ _ ?_ (fun hHeld=> ?_)
      ·(first|exact hS7|exact hHeld|exact hU9|exact hU10)
      clear hK K
      try simp only[Act.put,sT,sS,sZ]
      refine wpR [14] ?_;refine wpC rfl (fun K hK=> ?_) AllReadyH.nil
      (first
  |(refine ZY (by rfl) (by rfl) Zaa Try.underlying95 (a:=⟨vt,vk,vn⟩) (val:= .slice A9 (ZK l8 ti).length c9) (by rfl) (by rfl) (by rfl) (HMW.out _ hV9) ?_;intro w10 hm10 hu10;have hU10:Upd Sx wx w10:=hU9.trans (hu10.mono (fun i _ e=>by rw[e];exact HX3.out))))
      refine hK.out _ _ ?_ (fun hHeld=> ?_)
      ·(first|exact hS7|exact hHeld|exact hU9|exact hU10)
      clear hK K
      try simp only[Act.put,sT,sS,sZ]
      refine wpD (NoPanic.normal ?_);have h10:=(HWP.out w9 w10 A9 c9 _ hO9 hV9 hg9 hm10 hu10).1 HNE.out;rw[HFW.out]at h10;have TX:=Qh (T7.out.trans (Turn8.turn (Ext.colN wx w9 colj 8) hU10 HSX.out));have hex:Ext wx colj (colN wx w9 colj 8):=Ext.colN wx w9 colj 8;obtain⟨c10,hc10⟩:∃c,colN wx w9 colj 8=c:=⟨_,rfl⟩;rw[hc10]at h10 TX hex;have H10:=Qh h10;have HZ10:=Qh (show c10 zx=0 by rw[hex zx HBX.out.lt];exact HZX.out);have HZ11:=Qh (show c10 z=0 by rw[hex z BJ.out.lt];exact HZJ.out);have B10:=Qh (HBX.out.upd hU10 HXZ.out);have B12:=Qh (BJ.out.upd hU10 HXZ2.out);clear d1 v0 v1 v2 v3 e3 hm10 hu10 hU10 hU9 hO9 hu9 hV9 hg9 h10 hc10 hz7 hS7 hHeld hex;obtain⟨mU,hmU,hcU,hUput⟩:=H10.out.ulook;have hbx:¬One bU zx:=fun e=>by have h9:=H10.out.cU;rw[show bU=zx from e.symm,HZ10.out]at h9;cases h9
      have hbz:¬One bU z:=fun e=>by have h9:=H10.out.cU;rw[show bU=z from e.symm,HZ11.out]at h9;cases h9
      have i3:=H10.out.c3 (S:=One bU) (fun i e=>by rw[show i=bU from e,H10.out.cU];decide);have i4:∀W,Upd (One bU) w10 W→W.cell? ⟨zx,0,none⟩=some (.int .i64 vt):=fun W u=>(B10.out.upd u hbx).cell 0
      have i5:∀W,Upd (One bU) w10 W→W.cell? ⟨z,0,none⟩=some (.int .i64 ti):=fun W u=>(B12.out.upd u hbz).cell 0
      have hmd:MapE w10.drew bU ZQ mU:=hmU;have hval:=hcU.val (ti,vt);have hputc:=hcU.put (ti,vt) (nUp nU ti (vs.take j) (ti,vt)+1) (by omega);obtain⟨nv,hnv⟩:∃n,nUp nU ti (vs.take j) (ti,vt)=n:=⟨_,rfl⟩;rw[hnv]at hval hputc HNU hnl;obtain⟨st,w12,x2,hm12,hu12,hst⟩:=ZbI Zbl Try.underlying96 ZbF hmd (ti,vt);have x1:=Zw Zbl Try.underlying96 ZbF hmd.is (ti,vt);have x3:=Zw Zbl Try.underlying96 ZbF hm12.is (ti,vt);rw[Zr,Option.getD_some]at x3;rw[hval]at x1 x2 x3;obtain⟨w13,x4,hm13,hu13⟩:=hst (.int .i64 ((nv:Int)+1));change (Instr.lookup 96 (.map (some bU)) (.agg #[.int .i64 ti,.int .i64 vt]) false).run Try.prog w10.drew= .ok (.int .i64 (nv:Int)) w10.drew at x1;change (Instr.lookup 96 (.map (some bU)) (.agg #[.int .i64 ti,.int .i64 vt]) false).run Try.prog w12= .ok (.int .i64 (nv:Int)) w12 at x3;change (Instr.mapEntry 96 (.map (some bU)) (.agg #[.int .i64 ti,.int .i64 vt])).run Try.prog w10.drew= .ok (.tuple #[.int .i64 (nv:Int),.int .i64 st]) w12 at x2;change (Instr.entryStore 96 (.map (some bU)) (.int .i64 st) (.int .i64 ((nv:Int)+1))).run Try.prog w12= .ok () w13 at x4;have hwr:IntKind.i64.wrap ((nv:Int)+1)=(nv:Int)+1:=IntWalk.i64_in _ (by omega);have hU12:Upd (One bU) w10 w12:=hu12.of_drew;have hU13:Upd (One bU) w10 w13:=hu13.of_drew;have h13:=hUput w13 _ _ hm13 hputc hU13;rw[HNU.out]at h13;have H13:=Qh h13;have T13:=Qh (TX.out.trans (Turn8.turn (Ext.refl w10 c10) hU13 (fun i e=>by rw[show i=bU from e,H10.out.cU];omega)));have hxz:Upd (One bU) w10 w10:=Upd.refl _ _;clear hmU hcU hUput hmd hval hputc hnv hst hm12 hm13 hu12 hu13 h13 hbx hbz
      go_wp2
      go_region_held3 (fun W'=>Upd (One bU) w10 W') (first|exact hxz.drew|exact hU12|exact hU13) (fail)
      all_goals
       clear x1 x2 x3 x4 hwr i3 i4 i5;go_wp2
       go_roundg (gk-1)
       case measure=>omega
       case rel=>exact⟨j+1,c10,by omega,by go_num,H13,T13⟩
     ·obtain rfl:j=vs.length:=by omega
      have H13:=Qh (show IXm wr colj g bT bW bR bU bS (wt+((tl.length:Int)+1)) (fun k=>if k=ti then some ⟨ti,td,tl,A,c⟩ else eT k) (fWp fW ti td ks) (fRp fR ti vs) (nUp nU ti vs) (nSp nS ti (Zv tl) ks) by have:=hm.out;rwa [List.take_length]at this);have T13:=Qh (T6.out.trans (T11.out.turned.trans hT.out.turned));clear hm hT;go_wp2
      go_ret
      refine⟨rfl,colj,?_,T13.out⟩;rw[HKD.out,HVS.out];exact H13.out
end
end
end Go.Proofs.Ytblplapkdmhikaa
