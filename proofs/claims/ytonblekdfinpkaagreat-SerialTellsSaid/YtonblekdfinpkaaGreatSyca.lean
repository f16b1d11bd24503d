/- Orders as if one by one: the document's answers. -/
import Derived.Test.YtonblekdfinpkaaGreatSyai
import Derived.Test.YtonblekdfinpkaaGreatSyao
import Derived.Test.YtonblekdfinpkaaGreatSybj
import Derived.Test.YtonblekdfinpkaaGreatSybz
namespace Go.Proofs.YtonblekdfinpkaaGreat
set_option linter.unusedVariables false
set_option linter.unusedSimpArgs false
section
open Go.RowKit
theorem ZkM {w:World} {A:Option Addr} {c:Nat} {l:List Hvy} {k:List Edge} (hx:HvX w A l) (hl:l.length≤1000000) (he:ZW l=k):
  Calls Tryz.prog 71 #[.slice A l.length c] w fun e w'=>∃A' c',e= .returned (.slice A' k.length c')∧EdX w' A' k∧Upd No w w':=by subst he;exact Zmi hx hl
set_option maxRecDepth 100000 in
set_option maxHeartbeats 4000000 in
theorem Zk3 (F:Nat→Prop) (w:World) (txs:List HTx) (ords:List HOrd) (A:Option Addr) (c:Nat) (B:Option Addr) (d:Nat) (H:Hist.lies F w ⟨txs,ords,A,c,B,d⟩) (hl:Zv ⟨txs,ords,A,c,B,d⟩=true):
  Calls Tryz.prog 32 #[.agg #[.slice A txs.length c,.slice B ords.length d]] w (ZgR w (ZbU ⟨txs,ords,A,c,B,d⟩)):=by
 obtain⟨wb,hwb⟩:∃wb,w.alloc (.cells #[.slice A txs.length c,.slice B ords.length d] 50)=wb:=⟨_,rfl⟩;have ub:Upd No w wb:=by rw[←hwb];exact(Upd.refl No w).alloc _
 have bH:Blk wb w.heap.size 50 [.slice A txs.length c,.slice B ords.length d]:=by rw[←hwb];exact Blk.new w _ _
 have h0:∀W,Upd No wb W→W.cell? ⟨w.heap.size,0,none⟩=some (.slice A txs.length c):=fun W u=>(bH.upd u id).cell 0
 have h1:∀W,Upd No wb W→W.cell? ⟨w.heap.size,1,none⟩=some (.slice B ords.length d):=fun W u=>(bH.upd u id).cell 1
 have hr:Upd No wb wb:=Upd.refl _ _;have U0:=Qh ub;have GH:=Qh (H.upd ub (fun _ _=>id));obtain⟨r,hrr⟩:∃r,Za ⟨txs,ords,A,c,B,d⟩=r:=⟨_,rfl⟩;obtain⟨D,hD⟩:∃D,Zd txs=D:=⟨_,rfl⟩;obtain⟨ED,hED⟩:∃ED,ZD ⟨txs,ords,A,c,B,d⟩=ED:=⟨_,rfl⟩;obtain⟨PL,hPL⟩:∃PL,ZW ED=PL:=⟨_,rfl⟩;have hfew:=ZgD hl;rw[hED]at hfew;have hll:=hl;unfold Zv at hll;simp only[Bool.and_eq_true,decide_eq_true_eq,List.all_eq_true]at hll;have hn1:txs.length≤12:=hll.1.1.1;have hn2:∀t∈txs,t.ops.length≤24:=hll.1.2;have hdl:D.length≤12:=by rw[←hD];unfold Zd;rw[List.length_map];exact Nat.le_trans (List.length_filter_le _ _) hn1
 have hpl:PL.length=ED.length:=by rw[←hPL];unfold ZW;rw[List.length_map]
 have CR:=Qh (fun W (u:Upd No wb W)=>Zie (GH.out.upd u (fun _ _=>id)) hrr);have CD:=Qh (fun W (u:Upd No wb W)=>ZfI _ W txs ords A c B d (GH.out.upd u (fun _ _=>id)));have CE:=Qh (fun W (u:Upd No wb W)=>Zmj (GH.out.upd u (fun _ _=>id)) hn1 hn2 hED);rw[hD]at CD;unfold ZbU;rw[hrr];simp only[hD,hED,hPL];obtain⟨T,hT⟩:∃T,Ze0 (Zbk D PL) 16=T:=⟨_,rfl⟩;rw[hT];have HT:=Qh hT;obtain⟨Q,hQ⟩:∃Q,(if r=true then T else (([]:List Int),(5:Int)))=Q:=⟨_,rfl⟩;rw[hQ];have HQ:=Qh hQ;have HPL:=Qh hPL;have HDL:=Qh hdl;have HFEW:=Qh hfew;have HPLL:=Qh hpl;clear bH H hl hrr hD hED hPL hfew hll hn1 hn2 hdl hpl ub hT hQ
 go_enter Tryz.func32,Tryz.ntmps32
 go_wp2_with fail
 refine(CR.out _ hr).mono ?_;rintro e w1 ⟨rfl,hu1⟩
 cases r
 ·obtain rfl:Q=([],5):=by rw[←HQ.out];rfl
  go_wp2
  go_ret2
  exact⟨none,0,rfl,World.ownsRow_nil _ _ _ _,U0.out.trans hu1⟩
 ·obtain rfl:Q=T:=by rw[←HQ.out];rfl
  go_wp2;refine wp_region_noPanic ?_;refine wp_region_held_drew (S:=(fun W'=>Upd No wb W')) (by kernel_rfl) ?_ (fun hHeld=> ?_)
  ·(first|exact hu1.drew|(with_reducible exact hHeld)|(with_reducible exact hq2)|(with_reducible exact hq3)|(with_reducible exact hq4)|(with_reducible exact hq5))
  refine wpK 0 rfl ?_;refine wpK 2 rfl ?_;refine wpR [1] ?_;refine wpC rfl (fun K hK=> ?_) AllReadyH.nil;go_simp
  (first
  |(go_at_call 35;refine(CD.out _ hHeld).mono ?_;rintro e w2 ⟨A2,c2,rfl,ho2,hu2⟩;have hq2:Upd No wb w2:=hHeld.trans hu2;(try have HE:=Qh (HvX.upd HE.out hu2));(try have HP:=Qh (EdX.upd HP.out hu2));have HD:=Qh (show Ints (fun _=>True) w2 A2 D from Ints.weak (Ints.of_owned ho2) (fun _ _ _=>trivial));clear ho2 hu2))
  try (go_wp2_with fail)
  refine hK.out _ _ ?_ (fun hHeld=> ?_)
  ·(first|exact hu1.drew|(with_reducible exact hHeld)|(with_reducible exact hq2)|(with_reducible exact hq3)|(with_reducible exact hq4)|(with_reducible exact hq5))
  clear hK K
  try simp only[Act.put,sT,sS,sZ]
  refine wpR [3] ?_;refine wpC rfl (fun K hK=> ?_) AllReadyH.nil;go_simp
  (first
  |(go_at_call 72;refine(CE.out _ hHeld).mono ?_;rintro e w3 ⟨A3,c3,rfl,hx3,hu3⟩;have hq3:Upd No wb w3:=hHeld.trans hu3;(try have HD:=Qh (HD.out.upd hu3 (fun _ _=>id)));have HE:=Qh hx3;clear hx3 hu3))
  try (go_wp2_with fail)
  refine hK.out _ _ ?_ (fun hHeld=> ?_)
  ·(first|exact hu1.drew|(with_reducible exact hHeld)|(with_reducible exact hq2)|(with_reducible exact hq3)|(with_reducible exact hq4)|(with_reducible exact hq5))
  clear hK K
  try simp only[Act.put,sT,sS,sZ]
  refine wpR [4] ?_;refine wpC rfl (fun K hK=> ?_) AllReadyH.nil;go_simp
  (first
  |(go_at_call 71;refine(ZkM HE.out (by have:=HFEW.out;omega) HPL.out).mono ?_;rintro e w4 ⟨A4,c4,rfl,hx4,hu4⟩;have hq4:Upd No wb w4:=hHeld.trans hu4;(try have HD:=Qh (HD.out.upd hu4 (fun _ _=>id)));have HP:=Qh hx4;clear hx4 hu4))
  try (go_wp2_with fail)
  refine hK.out _ _ ?_ (fun hHeld=> ?_)
  ·(first|exact hu1.drew|(with_reducible exact hHeld)|(with_reducible exact hq2)|(with_reducible exact hq3)|(with_reducible exact hq4)|(with_reducible exact hq5))
  clear hK K
  try simp only[Act.put,sT,sS,sZ]
  refine wpR [5] ?_;refine wpC rfl (fun K hK=> ?_) AllReadyH.nil;go_simp
  (first
  |(go_at_call 70;obtain⟨GP,hGP⟩:=HP.out;refine(Zk4 _ GP _ A2 A4 c2 c4 D PL HD.out hGP (by have:=HDL.out;omega) (by have:=HPLL.out;have:=HFEW.out;omega)).mono ?_;rw[HT.out];rintro e w5 ⟨A5,c5,rfl,ho5,hu5⟩;have hq5:Upd No wb w5:=hHeld.trans hu5;have HO5:=Qh (ZB (b2:=w.heap.size) ho5 (Nat.le_trans U0.out.size hHeld.size));clear ho5 hu5))
  try (go_wp2_with fail)
  refine hK.out _ _ ?_ (fun hHeld=> ?_)
  ·(first|exact hu1.drew|(with_reducible exact hHeld)|(with_reducible exact hq2)|(with_reducible exact hq3)|(with_reducible exact hq4)|(with_reducible exact hq5))
  clear hK K
  try simp only[Act.put,sT,sS,sZ]
  refine wpK 6 rfl ?_;refine wpK 7 rfl ?_;refine wpK 8 rfl ?_;refine wpK 9 rfl ?_;refine wpD (NoPanic.normal ?_);have HL:=Qh hHeld;clear hHeld;go_wp2
  go_ret2
  exact⟨A5,c5,rfl,HO5.out,U0.out.trans HL.out⟩
def Zdm (txs:List HTx) (key:Int) (a:Int) (l:List Int):Int:=l.foldl (fun a id=>if wrT txs id key then id else a) a
theorem Zi5 (txs:List HTx) (key a id:Int) (l:List Int):Zdm txs key a (id::l)=Zdm txs key (if wrT txs id key then id else a) l:=rfl
theorem Zm3 (txs:List HTx) (id key:Int):wrT txs id key=((Ze txs id).isSome&&decide (0<Zc (ZJ txs id) key)):=by
 unfold wrT ZJ
 cases Ze txs id<;>rfl
set_option maxRecDepth 100000 in
set_option maxHeartbeats 4000000 in
theorem Zig (F G:Nat→Prop) (w:World) (txs:List HTx) (ords:List HOrd) (A:Option Addr) (c:Nat) (B:Option Addr) (d:Nat) (E:Option Addr) (ec:Nat) (l:List Int) (key:Int) (H:Hist.lies F w ⟨txs,ords,A,c,B,d⟩) (HE:Ints G w E l) (hl:l.length≤100000) {v:Int} (hv:Zae txs l key=v):
  Calls Tryz.prog 89 #[.agg #[.slice A txs.length c,.slice B ords.length d],.slice E l.length ec,.int .i64 key] w fun e w'=>e= .returned (.int .i64 v)∧Upd No w w':=by
 obtain⟨wb,hwb⟩:∃wb,w.alloc (.cells #[.slice A txs.length c,.slice B ords.length d] 50)=wb:=⟨_,rfl⟩;have ub:Upd No w wb:=by rw[←hwb];exact(Upd.refl No w).alloc _
 have bH:Blk wb w.heap.size 50 [.slice A txs.length c,.slice B ords.length d]:=by rw[←hwb];exact Blk.new w _ _
 have h0:∀W,Upd No wb W→W.cell? ⟨w.heap.size,0,none⟩=some (.slice A txs.length c):=fun W u=>(bH.upd u id).cell 0
 have h1:∀W,Upd No wb W→W.cell? ⟨w.heap.size,1,none⟩=some (.slice B ords.length d):=fun W u=>(bH.upd u id).cell 1
 have hr:Upd No wb wb:=Upd.refl _ _;have U0:=Qh ub;have GH:=Qh (H.upd ub (fun _ _=>id));have GE:=Qh (HE.upd ub (fun _ _=>id));have HV:=Qh (show Zdm txs key 0 (l.drop 0)=v from hv);clear bH H HE ub hv
 go_enter Tryz.func89,Tryz.ntmps89
 go_wp2
 go_loopg [7,14] l.length (fun gk s i wr=>∃(k:Nat) (a:Int),k+gk=l.length∧i= .int .i64 (k:Int)∧s= .int .i64 a∧Hid (Zdm txs key a (l.drop k)=v)∧Upd No wb wr)
 case atStart=>exact⟨0,0,by omega,rfl,rfl,HV,hr⟩
 case round=>
  clear HV hr;obtain⟨k,a,hgk,rfl,rfl,hs,hu⟩:=hrel
  by_cases hlt:k<l.length
  ·obtain⟨ad,rfl,_,_,q0⟩:=(GE.out.upd hu (fun _ _=>id)).at_ hlt;obtain⟨id,hid⟩:∃id,l[k]=id:=⟨_,rfl⟩;rw[hid]at q0;have hst:=hs.out;rw[show l.drop k=id::l.drop (k+1) by rw[←hid];exact List.drop_eq_getElem_cons hlt,Zi5,Zm3]at hst;have i1:(0:Int)≤(k:Int):=Qn _;have i2:(k:Int)<(l.length:Int):=by omega
   have jw:IntKind.i64.wrap ((k:Int)+1)=(k:Int)+1:=IntWalk.i64_in _ (by omega);have CF:=Qh (Zc0 F wr txs ords A c B d id (GH.out.upd hu (fun _ _ e=>e)));obtain⟨ui,hui⟩:∃ui,uid txs id=ui:=⟨_,rfl⟩;obtain⟨ud,hud⟩:∃ud,Zas txs id=ud:=⟨_,rfl⟩;obtain⟨us,hus⟩:∃us,ZJ txs id=us:=⟨_,rfl⟩;obtain⟨fi,hfi⟩:∃fi,(Ze txs id).isSome=fi:=⟨_,rfl⟩;rw[hui,hud,hus,hfi]at CF;rw[hus,hfi]at hst;have HST:=Qh hst;clear hid hui hud hus hfi hst hs
   go_wp2_with fail
   refine(CF.out).mono ?_;rintro e w5 ⟨A5,c5,rfl,hfew,hop,hu5⟩;obtain⟨wt,hwt⟩:∃wt,w5.alloc (.cells #[.int .i64 ui,.bool ud,.slice A5 us.length c5] 85)=wt:=⟨_,rfl⟩;have ut:Upd No w5 wt:=by rw[←hwt];exact(Upd.refl No w5).alloc _
   have bT:Blk wt w5.heap.size 85 [.int .i64 ui,.bool ud,.slice A5 us.length c5]:=by rw[←hwt];exact Blk.new w5 _ _
   have t0:=bT.cell 0;have t1:=bT.cell 1;have t2:=bT.cell 2;simp only[Qz,Qs]at t0 t1 t2;have HUT:=Qh (hu.trans (hu5.trans ut));have CW:=Qh (ZaT F wt A5 c5 us key (HOps.upd hop ut (fun _ _ e=>e)) hfew);obtain⟨n,hn⟩:∃n,Zc us key=n:=⟨_,rfl⟩;rw[hn]at CW HST;clear hfew hop hu5 ut bT CF hn
   cases fi
   ·have HS:=Qh (show Zdm txs key a (l.drop (k+1))=v from HST.out);go_wp2
    go_roundg (gk-1)
    case measure=>omega
    case rel=>exact⟨k+1,a,by omega,by go_num,rfl,HS,HUT.out⟩
   ·go_wp2_with fail
    refine(CW.out).mono ?_;rintro e w7 ⟨rfl,hu7⟩
    by_cases h0n:0<n
    ·have hd:decide ((0:Int)<(n:Int))=true:=decide_eq_true (by omega);have HS:=Qh (show Zdm txs key id (l.drop (k+1))=v by have:=HST.out;rwa [decide_eq_true h0n]at this);have HU:=Qh (HUT.out.trans hu7);clear HST;go_wp2
     go_roundg (gk-1)
     case measure=>omega
     case rel=>exact⟨k+1,id,by omega,by go_num,rfl,HS,HU.out⟩
    ·have hd:decide ((0:Int)<(n:Int))=false:=decide_eq_false (by omega);have HS:=Qh (show Zdm txs key a (l.drop (k+1))=v by have:=HST.out;rwa [decide_eq_false h0n]at this);have HU:=Qh (HUT.out.trans hu7);clear HST;go_wp2
     go_roundg (gk-1)
     case measure=>omega
     case rel=>exact⟨k+1,a,by omega,by go_num,rfl,HS,HU.out⟩
  ·obtain rfl:k=l.length:=by omega
   have hva:a=v:=by have:=hs.out;rw[List.drop_length]at this;exact this
   subst hva;go_wp2
   go_ret
   exact⟨rfl,U0.out.trans hu⟩
def ZaI (txs:List HTx) (ahead:List Int) (id:Int) (o:HOp):Bool:= !o.read||(o.tx==id||(o.tx==Zae txs ahead o.key&&(o.tx==0||o.nth==(Zc (ZQ txs o.tx).ops o.key:Int))))
theorem ZiJ (txs:List HTx) (l:List Int) (t:HTx):ZbL txs l t=t.ops.all (ZaI txs l t.id):=rfl
set_option maxRecDepth 100000 in
set_option maxHeartbeats 8000000 in
theorem Zk1 (F G K:Nat→Prop) (w:World) (txs:List HTx) (ords:List HOrd) (A:Option Addr) (c:Nat) (B:Option Addr) (d:Nat) (i0:Int) (dn:Bool) (C:Option Addr) (cc:Nat) (l:List HOp) (E:Option Addr) (ec n:Nat) (O:List Int)
  (H:Hist.lies F w ⟨txs,ords,A,c,B,d⟩) (hop:HOps K w C l) (hl:Zh l.length) (HE:Ints G w E O) (hn:O.length=n) (hlO:n≤100000) {v:Bool} (hv:l.all (ZaI txs O i0)=v):
  Calls Tryz.prog 84 #[.agg #[.slice A txs.length c,.slice B ords.length d],.agg #[.int .i64 i0,.bool dn,.slice C l.length cc],.slice E n ec] w fun e w'=>e= .returned (.bool v)∧Upd No w w':=by
 subst hn;unfold Zh at hl;obtain⟨z,hz⟩:∃z,w.heap.size=z:=⟨_,rfl⟩;obtain⟨w1,hw1⟩:∃w1,w.alloc (.cells #[.slice A txs.length c,.slice B ords.length d] 50)=w1:=⟨_,rfl⟩;have s1:w1.heap.size=z+1:=by rw[←hw1,←hz];simp
 obtain⟨wb,hwb⟩:∃wb,w1.alloc (.cells #[.int .i64 i0,.bool dn,.slice C l.length cc] 85)=wb:=⟨_,rfl⟩;have u1:Upd No w w1:=by rw[←hw1];exact(Upd.refl No w).alloc _
 have u2:Upd No w1 wb:=by rw[←hwb];exact(Upd.refl No w1).alloc _
 have b1:Blk w1 z 50 [.slice A txs.length c,.slice B ords.length d]:=by rw[←hw1,←hz];exact Blk.new w _ _
 have b2:Blk wb (z+1) 85 [.int .i64 i0,.bool dn,.slice C l.length cc]:=by rw[←hwb,←s1];exact Blk.new w1 _ _
 have h0:∀W,Upd No wb W→W.cell? ⟨z,0,none⟩=some (.slice A txs.length c):=fun W u=>(b1.upd (u2.trans u) id).cell 0
 have h1:∀W,Upd No wb W→W.cell? ⟨z,1,none⟩=some (.slice B ords.length d):=fun W u=>(b1.upd (u2.trans u) id).cell 1
 have x0:∀W,Upd No wb W→W.cell? ⟨z+1,0,none⟩=some (.int .i64 i0):=fun W u=>(b2.upd u id).cell 0
 have x2:∀W,Upd No wb W→W.cell? ⟨z+1,2,none⟩=some (.slice C l.length cc):=fun W u=>(b2.upd u id).cell 2
 have hr:Upd No wb wb:=Upd.refl _ _;have U0:=Qh (u1.trans u2);have GH:=Qh (H.upd (u1.trans u2) (fun _ _=>id));have GE:=Qh (HE.upd (u1.trans u2) (fun _ _=>id));have HOP:=Qh (HOps.upd hop (u1.trans u2) (fun _ _=>id));have HV:=Qh (show(l.drop 0).all (ZaI txs O i0)=v from hv);clear b1 b2 H HE hop u1 u2 hv
 go_enter Tryz.func84,Tryz.ntmps84
 go_wp2
 go_loopg [14] l.length (fun gk i wr=>∃(k:Nat),k+gk=l.length∧i= .int .i64 (k:Int)∧Hid ((l.drop k).all (ZaI txs O i0)=v)∧Upd No wb wr)
 case atStart=>exact⟨0,by omega,rfl,HV,hr⟩
 case round=>
  clear HV hr;obtain⟨k,hgk,rfl,hs,hu⟩:=hrel
  by_cases hlt:k<l.length
  ·obtain⟨ad,rfl,q0,q1,q2,q3⟩:=(HOps.upd HOP.out hu (fun _ _=>id)).at_ hlt;obtain⟨x,hx⟩:∃x,l[k]=x:=⟨_,rfl⟩;rw[hx]at q0 q1 q2 q3;have hst:=hs.out;rw[show l.drop k=x::l.drop (k+1) by rw[←hx];exact List.drop_eq_getElem_cons hlt,List.all_cons]at hst;obtain⟨r,ky,tx,nt⟩:=x;simp only at q0 q1 q2 q3;have i1:(0:Int)≤(k:Int):=Qn _;have i2:(k:Int)<(l.length:Int):=by omega
   have jw:IntKind.i64.wrap ((k:Int)+1)=(k:Int)+1:=IntWalk.i64_in _ (by omega);obtain⟨wz,hwz⟩:∃wz,wr.alloc (.cells #[.bool r,.int .i64 ky,.int .i64 tx,.int .i64 nt] 82)=wz:=⟨_,rfl⟩;have uz:Upd No wr wz:=by rw[←hwz];exact(Upd.refl No wr).alloc _
   have bo:Blk wz wr.heap.size 82 [.bool r,.int .i64 ky,.int .i64 tx,.int .i64 nt]:=by rw[←hwz];exact Blk.new wr _ _
   have g0:∀W,Upd No wz W→W.cell? ⟨wr.heap.size,0,none⟩=some (.bool r):=fun W u=>(bo.upd u id).cell 0
   have g1:∀W,Upd No wz W→W.cell? ⟨wr.heap.size,1,none⟩=some (.int .i64 ky):=fun W u=>(bo.upd u id).cell 1
   have g2:∀W,Upd No wz W→W.cell? ⟨wr.heap.size,2,none⟩=some (.int .i64 tx):=fun W u=>(bo.upd u id).cell 2
   have g3:∀W,Upd No wz W→W.cell? ⟨wr.heap.size,3,none⟩=some (.int .i64 nt):=fun W u=>(bo.upd u id).cell 3
   have hz2:Upd No wb wz:=hu.trans uz;have hzz:Upd No wz wz:=Upd.refl _ _;have HZ:=Qh hz2;clear hx bo uz hs
   cases r
   ·have HS:=Qh (show(l.drop (k+1)).all (ZaI txs O i0)=v by rw[show ZaI txs O i0 ⟨false,ky,tx,nt⟩=true from rfl,Bool.true_and]at hst;exact hst);clear hst;go_wp2
    go_roundg (gk-1)
    case measure=>omega
    case rel=>exact⟨k+1,by omega,by go_num,HS,HZ.out⟩
   ·by_cases he:tx=i0
    ·have heb:(tx==i0)=true:=by simpa using he
     have HS:=Qh (show(l.drop (k+1)).all (ZaI txs O i0)=v by rw[show ZaI txs O i0 ⟨true,ky,tx,nt⟩=true by unfold ZaI;simp[he],Bool.true_and]at hst;exact hst);clear hst he;go_wp2
     go_roundg (gk-1)
     case measure=>omega
     case rel=>exact⟨k+1,by omega,by go_num,HS,HZ.out⟩
    ·have heb:(tx==i0)=false:=by simpa using he
     obtain⟨lv,hlv⟩:∃lv,Zae txs O ky=lv:=⟨_,rfl⟩;have CF:=Qh (Zc0 F wz txs ords A c B d tx (GH.out.upd hz2 (fun _ _ e=>e)));obtain⟨ui,hui⟩:∃ui,uid txs tx=ui:=⟨_,rfl⟩;obtain⟨ud,hud⟩:∃ud,Zas txs tx=ud:=⟨_,rfl⟩;obtain⟨us,hus⟩:∃us,ZJ txs tx=us:=⟨_,rfl⟩;obtain⟨fi,hfi⟩:∃fi,(Ze txs tx).isSome=fi:=⟨_,rfl⟩;rw[hui,hud,hus,hfi]at CF;obtain⟨nw,hnw⟩:∃nw,Zc us ky=nw:=⟨_,rfl⟩;rw[show ZaI txs O i0 ⟨true,ky,tx,nt⟩=(tx==lv&&(tx==0||nt==(nw:Int))) by unfold ZaI;rw[ZaZ,heb,hlv,hus,hnw];rfl]at hst;have HST:=Qh hst;have HLV:=Qh hlv;have HNW:=Qh hnw;clear hst he hui hud hus hfi hlv hnw
     go_wp2_with fail
     refine(CF.out).mono ?_;rintro e w5 ⟨A5,c5,rfl,hfew,hop5,hu5⟩;obtain⟨y,hy⟩:∃y,w5.heap.size=y:=⟨_,rfl⟩;obtain⟨wt,hwt⟩:∃wt,w5.alloc (.cells #[.int .i64 ui,.bool ud,.slice A5 us.length c5] 85)=wt:=⟨_,rfl⟩;have ut:Upd No w5 wt:=by rw[←hwt];exact(Upd.refl No w5).alloc _
     have bT:Blk wt y 85 [.int .i64 ui,.bool ud,.slice A5 us.length c5]:=by rw[←hwt,←hy];exact Blk.new w5 _ _
     have t2:∀W,Upd No wt W→W.cell? ⟨y,2,none⟩=some (.slice A5 us.length c5):=fun W u=>(bT.upd u (fun e=>e)).cell 2
     have htt:Upd No wt wt:=Upd.refl _ _;have huzt:=hu5.trans ut;have o1:∀W,Upd No wt W→W.cell? ⟨wr.heap.size,1,none⟩=some (.int .i64 ky):=fun W u=>g1 W (huzt.trans u)
     have o2:∀W,Upd No wt W→W.cell? ⟨wr.heap.size,2,none⟩=some (.int .i64 tx):=fun W u=>g2 W (huzt.trans u)
     have o3:∀W,Upd No wt W→W.cell? ⟨wr.heap.size,3,none⟩=some (.int .i64 nt):=fun W u=>g3 W (huzt.trans u)
     have HUT:=Qh (hz2.trans huzt);have k0:∀W,Upd No wt W→W.cell? ⟨z,0,none⟩=some (.slice A txs.length c):=fun W u=>h0 W (HUT.out.trans u)
     have k1:∀W,Upd No wt W→W.cell? ⟨z,1,none⟩=some (.slice B ords.length d):=fun W u=>h1 W (HUT.out.trans u)
     have HOT:=Qh (HOps.upd hop5 ut (fun _ _ e=>e));have HFW:=Qh hfew;have CL:=Qh (fun W (u:Upd No wt W)=>Zig F G W txs ords A c B d E ec O ky (GH.out.upd (HUT.out.trans u) (fun _ _ e=>e)) (GE.out.upd (HUT.out.trans u) (fun _ _ e=>e)) hlO HLV.out);have CW:=Qh (fun W (u:Upd No wt W)=>ZaT F W A5 c5 us ky (HOps.upd HOT.out u (fun _ _ e=>e)) HFW.out);rw[HNW.out]at CW;clear hfew hop5 hu5 ut bT CF g0 g1 g2 g3 hzz huzt hz2
     by_cases ha:tx=lv
     ·have n1:(tx != lv)=false:=by rw[ha];simp
      by_cases hb:tx=0
      ·have n2:(tx != 0)=false:=by rw[hb];simp
       have HS:=Qh (show(l.drop (k+1)).all (ZaI txs O i0)=v by have:=HST.out;rwa [show(tx==lv)=true by simpa using ha,show(tx==0)=true by simpa using hb]at this);clear ha hb;go_wp2;refine wp_region_noPanic ?_;refine wp_region_held_drew (S:=(fun W'=>Upd No wt W')) (by kernel_rfl) ?_ (fun hHeld=> ?_)
       ·(first|exact htt.drew|(with_reducible exact hHeld)|(with_reducible exact hHeld.trans hu6)|(with_reducible exact hHeld.trans hu7))
       refine wpK 0 rfl ?_;refine wpK 1 rfl ?_;refine wpK 2 rfl ?_;refine wpK 3 rfl ?_;refine wpK 4 rfl ?_;refine wpK 5 rfl ?_;refine wpR [6] ?_;refine wpC rfl (fun K hK=> ?_) AllReadyH.nil;go_simp
       (first
  |(go_at_call 89;refine(CL.out _ hHeld).mono ?_;rintro e w6 ⟨rfl,hu6⟩))
       try (go_wp2_with fail)
       refine hK.out _ _ ?_ (fun hHeld=> ?_)
       ·(first|exact htt.drew|(with_reducible exact hHeld)|(with_reducible exact hHeld.trans hu6)|(with_reducible exact hHeld.trans hu7))
       clear hK K
       try simp only[Act.put,sT,sS,sZ]
       refine wpK 7 rfl ?_;refine wpK 8 rfl ?_;refine wpK 9 rfl ?_;refine wpK 10 rfl ?_;refine wpK 11 rfl ?_;refine wpK 12 rfl ?_;refine wpN 13 rfl ?_;refine wpN 14 rfl ?_;refine wpN 15 rfl ?_;refine wpN 16 rfl ?_;refine wpN 17 rfl ?_;refine wpN 18 rfl ?_;refine wpR [19] ?_;refine wpC rfl (fun K hK=> ?_) AllReadyH.nil;go_simp;refine hK.out _ _ ?_ (fun hHeld=> ?_)
       ·exact hHeld
       clear hK K
       try simp only[Act.put,sT,sS,sZ]
       refine wpN 20 rfl ?_;refine wpK 21 rfl ?_;refine wpK 22 rfl ?_;refine wpD (NoPanic.normal ?_);have HL:=Qh (HUT.out.trans hHeld);clear hHeld;go_wp2
       go_roundg (gk-1)
       case measure=>omega
       case rel=>exact⟨k+1,by omega,by go_num,HS,HL.out⟩
      ·have n2:(tx != 0)=true:=by rw[bne_iff_ne];exact hb
       by_cases hc:nt=(nw:Int)
       ·have n3:(nt != (nw:Int))=false:=by rw[hc];simp
        have HS:=Qh (show(l.drop (k+1)).all (ZaI txs O i0)=v by have:=HST.out;rwa [show(tx==lv)=true by simpa using ha,show(tx==0)=false by simpa using hb,show(nt==(nw:Int))=true by simpa using hc]at this);clear ha hb hc;go_wp2;refine wp_region_noPanic ?_;refine wp_region_held_drew (S:=(fun W'=>Upd No wt W')) (by kernel_rfl) ?_ (fun hHeld=> ?_)
        ·(first|exact htt.drew|(with_reducible exact hHeld)|(with_reducible exact hHeld.trans hu6)|(with_reducible exact hHeld.trans hu7))
        refine wpK 0 rfl ?_;refine wpK 1 rfl ?_;refine wpK 2 rfl ?_;refine wpK 3 rfl ?_;refine wpK 4 rfl ?_;refine wpK 5 rfl ?_;refine wpR [6] ?_;refine wpC rfl (fun K hK=> ?_) AllReadyH.nil;go_simp
        (first
  |(go_at_call 89;refine(CL.out _ hHeld).mono ?_;rintro e w6 ⟨rfl,hu6⟩))
        try (go_wp2_with fail)
        refine hK.out _ _ ?_ (fun hHeld=> ?_)
        ·(first|exact htt.drew|(with_reducible exact hHeld)|(with_reducible exact hHeld.trans hu6)|(with_reducible exact hHeld.trans hu7))
        clear hK K
        try simp only[Act.put,sT,sS,sZ]
        refine wpK 7 rfl ?_;refine wpK 8 rfl ?_;refine wpK 9 rfl ?_;refine wpK 10 rfl ?_;refine wpK 11 rfl ?_;refine wpK 12 rfl ?_;refine wpK 13 rfl ?_;refine wpK 14 rfl ?_;refine wpK 15 rfl ?_;refine wpK 16 rfl ?_;refine wpK 17 rfl ?_;refine wpK 18 rfl ?_;refine wpR [19] ?_;refine wpC rfl (fun K hK=> ?_) AllReadyH.nil;go_simp
        (first
  |(go_at_call 160;refine(CW.out _ hHeld).mono ?_;rintro e w7 ⟨rfl,hu7⟩))
        try (go_wp2_with fail)
        refine hK.out _ _ ?_ (fun hHeld=> ?_)
        ·(first|exact htt.drew|(with_reducible exact hHeld)|(with_reducible exact hHeld.trans hu6)|(with_reducible exact hHeld.trans hu7))
        clear hK K
        try simp only[Act.put,sT,sS,sZ]
        refine wpK 20 rfl ?_;refine wpK 21 rfl ?_;refine wpK 22 rfl ?_;refine wpD (NoPanic.normal ?_);have HL:=Qh (HUT.out.trans hHeld);clear hHeld;go_wp2
        go_roundg (gk-1)
        case measure=>omega
        case rel=>exact⟨k+1,by omega,by go_num,HS,HL.out⟩
       ·have n3:(nt != (nw:Int))=true:=by rw[bne_iff_ne];exact hc
        have HS:=Qh (show v=false by have:=HST.out;rw[show(tx==lv)=true by simpa using ha,show(tx==0)=false by simpa using hb,show(nt==(nw:Int))=false by simpa using hc]at this;exact this.symm);clear ha hb hc;go_wp2;refine wp_region_noPanic ?_;refine wp_region_held_drew (S:=(fun W'=>Upd No wt W')) (by kernel_rfl) ?_ (fun hHeld=> ?_)
        ·(first|exact htt.drew|(with_reducible exact hHeld)|(with_reducible exact hHeld.trans hu6)|(with_reducible exact hHeld.trans hu7))
        refine wpK 0 rfl ?_;refine wpK 1 rfl ?_;refine wpK 2 rfl ?_;refine wpK 3 rfl ?_;refine wpK 4 rfl ?_;refine wpK 5 rfl ?_;refine wpR [6] ?_;refine wpC rfl (fun K hK=> ?_) AllReadyH.nil;go_simp
        (first
  |(go_at_call 89;refine(CL.out _ hHeld).mono ?_;rintro e w6 ⟨rfl,hu6⟩))
        try (go_wp2_with fail)
        refine hK.out _ _ ?_ (fun hHeld=> ?_)
        ·(first|exact htt.drew|(with_reducible exact hHeld)|(with_reducible exact hHeld.trans hu6)|(with_reducible exact hHeld.trans hu7))
        clear hK K
        try simp only[Act.put,sT,sS,sZ]
        refine wpK 7 rfl ?_;refine wpK 8 rfl ?_;refine wpK 9 rfl ?_;refine wpK 10 rfl ?_;refine wpK 11 rfl ?_;refine wpK 12 rfl ?_;refine wpK 13 rfl ?_;refine wpK 14 rfl ?_;refine wpK 15 rfl ?_;refine wpK 16 rfl ?_;refine wpK 17 rfl ?_;refine wpK 18 rfl ?_;refine wpR [19] ?_;refine wpC rfl (fun K hK=> ?_) AllReadyH.nil;go_simp
        (first
  |(go_at_call 160;refine(CW.out _ hHeld).mono ?_;rintro e w7 ⟨rfl,hu7⟩))
        try (go_wp2_with fail)
        refine hK.out _ _ ?_ (fun hHeld=> ?_)
        ·(first|exact htt.drew|(with_reducible exact hHeld)|(with_reducible exact hHeld.trans hu6)|(with_reducible exact hHeld.trans hu7))
        clear hK K
        try simp only[Act.put,sT,sS,sZ]
        refine wpK 20 rfl ?_;refine wpK 21 rfl ?_;refine wpK 22 rfl ?_;refine wpD (NoPanic.normal ?_);have HL:=Qh (HUT.out.trans hHeld);clear hHeld;go_wp2
        go_ret
        exact⟨by rw[HS.out];rfl,U0.out.trans HL.out⟩
     ·have n1:(tx != lv)=true:=by rw[bne_iff_ne];exact ha
      have HS:=Qh (show v=false by have:=HST.out;rw[show(tx==lv)=false by simpa using ha]at this;exact this.symm);clear ha;go_wp2;refine wp_region_noPanic ?_;refine wp_region_held_drew (S:=(fun W'=>Upd No wt W')) (by kernel_rfl) ?_ (fun hHeld=> ?_)
      ·(first|exact htt.drew|(with_reducible exact hHeld)|(with_reducible exact hHeld.trans hu6)|(with_reducible exact hHeld.trans hu7))
      refine wpK 0 rfl ?_;refine wpK 1 rfl ?_;refine wpK 2 rfl ?_;refine wpK 3 rfl ?_;refine wpK 4 rfl ?_;refine wpK 5 rfl ?_;refine wpR [6] ?_;refine wpC rfl (fun K hK=> ?_) AllReadyH.nil;go_simp
      (first
  |(go_at_call 89;refine(CL.out _ hHeld).mono ?_;rintro e w6 ⟨rfl,hu6⟩))
      try (go_wp2_with fail)
      refine hK.out _ _ ?_ (fun hHeld=> ?_)
      ·(first|exact htt.drew|(with_reducible exact hHeld)|(with_reducible exact hHeld.trans hu6)|(with_reducible exact hHeld.trans hu7))
      clear hK K
      try simp only[Act.put,sT,sS,sZ]
      refine wpK 7 rfl ?_;refine wpK 8 rfl ?_;refine wpN 9 rfl ?_;refine wpN 10 rfl ?_;refine wpN 11 rfl ?_;refine wpN 12 rfl ?_;refine wpN 13 rfl ?_;refine wpN 14 rfl ?_;refine wpN 15 rfl ?_;refine wpN 16 rfl ?_;refine wpN 17 rfl ?_;refine wpN 18 rfl ?_;refine wpR [19] ?_;refine wpC rfl (fun K hK=> ?_) AllReadyH.nil;go_simp;refine hK.out _ _ ?_ (fun hHeld=> ?_)
      ·exact hHeld
      clear hK K
      try simp only[Act.put,sT,sS,sZ]
      refine wpN 20 rfl ?_;refine wpN 21 rfl ?_;refine wpK 22 rfl ?_;refine wpD (NoPanic.normal ?_);have HL:=Qh (HUT.out.trans hHeld);clear hHeld;go_wp2
      go_ret
      exact⟨by rw[HS.out];rfl,U0.out.trans HL.out⟩
  ·obtain rfl:k=l.length:=by omega
   have hvt:v=true:=by have:=hs.out;rw[List.drop_length]at this;exact this.symm
   subst hvt;go_wp2
   go_ret
   exact⟨rfl,U0.out.trans hu⟩
end
end Go.Proofs.YtonblekdfinpkaaGreat
