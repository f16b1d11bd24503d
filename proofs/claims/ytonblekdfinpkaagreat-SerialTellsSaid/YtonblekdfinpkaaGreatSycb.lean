/- Orders as if one by one, the document's: whether one agrees, and who wrote last. -/
import Derived.Laws.StructEq
import Derived.Test.YtonblekdfinpkaaGreatSyak
import Derived.Test.YtonblekdfinpkaaGreatSyau
import Derived.Test.YtonblekdfinpkaaGreatSybe
import Derived.Test.YtonblekdfinpkaaGreatSybi
import Derived.Test.YtonblekdfinpkaaGreatSybm
import Derived.Test.YtonblekdfinpkaaGreatSybn
import Derived.Test.YtonblekdfinpkaaGreatSybp
import Derived.Test.YtonblekdfinpkaaGreatSybq
import Derived.Test.YtonblekdfinpkaaGreatSybx
import Derived.Test.YtonblekdfinpkaaGreatSyca
namespace Go.Proofs.YtonblekdfinpkaaGreat
set_option linter.unusedVariables false
set_option linter.unusedSimpArgs false
section
open Go.RowKit
theorem Zg5:SlT Tryz.prog 24 3 1 8:=SlT.mk_ Tryz.underlying24 (z:= .int .i64 0) (by kernel_rfl) rfl (by omega)
set_option maxRecDepth 100000 in
set_option maxHeartbeats 1000000 in
theorem Zny (F G:Nat→Prop) (w:World) (A B:Option Addr) (c d:Nat) (a b:List Int) (ha:Ints F w A a) (hb:Ints G w B b) (hl:a.length≤1000000) (hl2:b.length≤4398046511103):
  Calls Tryz.prog 82 #[.slice A a.length c,.slice B b.length d] w (Zf2 w (ZaW a b)):=by
 have HA:=Qh ha;have HB:=Qh hb;obtain⟨D,hD⟩:∃D,ZaW a b=D:=⟨_,rfl⟩;have HS0:=Qh (show[]++ZaW (a.drop 0) b=D from hD);rw[hD];clear ha hb hD
 go_enter Tryz.func82,Tryz.ntmps82
 go_wp2
 go_loopg [5,10] a.length (fun gk s i wr=>∃(k:Nat) (A5:Option Addr) (c5:Nat) (xs:List Int),k+gk=a.length∧i= .int .i64 (k:Int)∧s= .slice A5 xs.length c5∧Hid (xs++ZaW (a.drop k) b=D)∧xs.length≤k∧
  Hid (wr.ownsRow w.heap.size 3 1 (.slice A5 xs.length c5) xs.length (xs.map (Value.int .i64)))∧Hid (Upd No w wr))
 case atStart=>exact⟨0,none,0,[],by omega,rfl,rfl,HS0,Nat.zero_le _,Qh (World.ownsRow_nil _ _ _ _),Qh (Upd.refl _ _)⟩
 case round=>
  clear HS0;obtain⟨k,A5,c5,xs,hgk,rfl,rfl,hs,hxl,hown,hu⟩:=hrel
  by_cases hlt:k<a.length
  ·obtain⟨ad,rfl,_,_,q0⟩:=(HA.out.upd hu.out (fun _ _=>id)).at_ hlt;obtain⟨x,hx⟩:∃x,a[k]=x:=⟨_,rfl⟩;rw[hx]at q0;have hst:=hs.out;rw[show a.drop k=x::a.drop (k+1) by rw[←hx];exact List.drop_eq_getElem_cons hlt]at hst;unfold ZaW at hst;rw[List.filter_cons]at hst;have i1:(0:Int)≤(k:Int):=Qn _;have i2:(k:Int)<(a.length:Int):=by omega
   have jw:IntKind.i64.wrap ((k:Int)+1)=(k:Int)+1:=IntWalk.i64_in _ (by omega);obtain⟨v,hv⟩:∃v,decide (x∈b)=v:=⟨_,rfl⟩;rw[hv]at hst;have HST:=Qh hst;have CN:=Qh (ZoZ wr G B d b x (HB.out.upd hu.out (fun _ _=>id)) hl2 hv);have hownx:=hown.out;have hsz:=hu.out.size;clear hx hst hv hs hown
   go_wp2_with fail
   refine(CN.out).mono ?_;rintro e w5 ⟨rfl,rfl⟩
   cases v
   ·have HS:=Qh (show xs++ZaW (a.drop (k+1)) b=D from HST.out);have HO:=Qh hownx;clear hownx;go_wp2
    go_roundg (gk-1)
    case measure=>omega
    case rel=>exact⟨k+1,A5,c5,xs,by omega,by go_num,rfl,HS,by omega,HO,hu⟩
   ·have HS:=Qh (show(xs++[x])++ZaW (a.drop (k+1)) b=D by have:=HST.out;simpa[ZaW]using this)
    go_wp2_with (at_builtin;refine Z8 rfl rfl Zg5 (v:= .slice A5 xs.length c5) (n:=xs.length) (xs:=xs.map (Value.int .i64)) (cells:=[.int .i64 x]) (by rfl) rfl hownx rfl rfl (by omega) (by omega) (by omega) ?_;intro g8 c8 w8 hown8 hu8 hg8 hlt8)
    go_roundg (gk-1)
    case measure=>omega
    case rel=>exact⟨k+1,some ⟨g8,0,none⟩,c8,xs++[x],by omega,by go_num,by simp,HS,by simp;omega,Qh (by simpa using hown8),Qh (hu.out.then_ hu8 fun i e=>Or.inr (hownx.lt i e).1)⟩
  ·obtain rfl:k=a.length:=by omega
   have hx:xs=D:=by have:=hs.out;rw[List.drop_length]at this;simpa[ZaW]using this
   subst hx;go_wp2
   go_ret
   exact⟨A5,c5,rfl,hown.out,hu.out⟩
set_option maxRecDepth 100000 in
set_option maxHeartbeats 8000000 in
theorem Zj2 (F G:Nat→Prop) (w:World) (txs:List HTx) (ords:List HOrd) (A:Option Addr) (c:Nat) (B:Option Addr) (d:Nat) (E:Option Addr) (ec:Nat) (O:List Int) (H:Hist.lies F w ⟨txs,ords,A,c,B,d⟩) (HE:Ints G w E O) (hlO:O.length≤100000) (hec:O.length≤ec)
  (hords:∀o∈ords,o.txs.length≤1000000) (hdl:(Zd txs).length≤1000000) {v:Bool} (hv:Zeg ⟨txs,ords,A,c,B,d⟩ O=v):
  Calls Tryz.prog 37 #[.agg #[.slice A txs.length c,.slice B ords.length d],.slice E O.length ec] w fun e w'=>e= .returned (.bool v)∧Upd No w w':=by
 obtain⟨wb,hwb⟩:∃wb,w.alloc (.cells #[.slice A txs.length c,.slice B ords.length d] 50)=wb:=⟨_,rfl⟩;have ub:Upd No w wb:=by rw[←hwb];exact(Upd.refl No w).alloc _
 have bH:Blk wb w.heap.size 50 [.slice A txs.length c,.slice B ords.length d]:=by rw[←hwb];exact Blk.new w _ _
 have h0:∀W,Upd No wb W→W.cell? ⟨w.heap.size,0,none⟩=some (.slice A txs.length c):=fun W u=>(bH.upd u id).cell 0
 have h1:∀W,Upd No wb W→W.cell? ⟨w.heap.size,1,none⟩=some (.slice B ords.length d):=fun W u=>(bH.upd u id).cell 1
 have hr:Upd No wb wb:=Upd.refl _ _;have U0:=Qh ub;have GH:=Qh (H.upd ub (fun _ _=>id));have GE:=Qh (HE.upd ub (fun _ _=>id));obtain⟨r,hrr⟩:∃r,Za ⟨txs,ords,A,c,B,d⟩=r:=⟨_,rfl⟩;obtain⟨pb,hpb⟩:∃pb,ZaP O (Zd txs)=pb:=⟨_,rfl⟩;obtain⟨av,hav⟩:∃av,(ords.all fun o=>ZaW O o.txs==o.txs)=av:=⟨_,rfl⟩;obtain⟨sv,hsv⟩:∃sv,((List.range O.length).all fun i=>ZbL txs (O.take i) (ZQ txs (O.getD i 0)))=sv:=⟨_,rfl⟩;have HVV:=Qh (show(r&&(pb&&(av&&sv)))=v by rw[←hv];unfold Zeg;rw[hrr];simp only[hpb,hsv,hav]);have HAV:=Qh (show((ords.drop 0).all fun o=>ZaW O o.txs==o.txs)=av from hav);have HSV:=Qh hsv;have CR:=Qh (fun W (u:Upd No wb W)=>Zie (GH.out.upd u (fun _ _=>id)) hrr);have CD:=Qh (fun W (u:Upd No wb W)=>ZfI _ W txs ords A c B d (GH.out.upd u (fun _ _=>id)));obtain⟨D,hD⟩:∃D,Zd txs=D:=⟨_,rfl⟩;have HPB:=Qh (show ZaP O D=pb by rw[←hD];exact hpb);have HDL:=Qh (show D.length≤1000000 by rw[←hD];exact hdl);have HOL:=Qh hords;have HFO:=Qh (show ords.length≤4398046511103 from H.fewo);have HLO:=Qh hlO;have HEC:=Qh hec;rw[hD]at CD;clear bH H HE ub hv hrr hpb hav hsv hD hords hdl hec
 go_enter Tryz.func37,Tryz.ntmps37
 go_wp2_with fail
 refine(CR.out _ hr).mono ?_;rintro e w1 ⟨rfl,hu1⟩
 cases r
 ·have HVF:=Qh (show v=false by rw[←HVV.out];rfl);go_wp2
  go_ret
  exact⟨by rw[HVF.out];rfl,U0.out.trans hu1⟩
 go_wp2_with fail
 refine(CD.out _ hu1).mono ?_;rintro e w2 ⟨A2,c2,rfl,ho2,hu2⟩;have hu12:=hu1.trans hu2;have CP:=Qh (ZjO (c:=ec) (d:=c2) (GE.out.upd hu12 (fun _ _=>id)) (Ints.of_owned ho2) (Nat.le_trans HLO.out (by decide)) (Nat.le_trans HDL.out (by decide)) HPB.out);clear ho2 hu1 hu2
 go_wp2_with fail
 refine(CP.out).mono ?_;rintro e w3 ⟨rfl,hu3⟩;have hu13:=hu12.trans hu3
 cases pb
 ·have HVF:=Qh (show v=false by rw[←HVV.out];rfl);go_wp2
  go_ret
  exact⟨by rw[HVF.out];rfl,U0.out.trans hu13⟩
 clear hu12 hu3 hr;go_wp2
 go_loopg [24] ords.length (fun gk i wr=>∃(k:Nat),k+gk=ords.length∧i= .int .i64 (k:Int)∧Hid (((ords.drop k).all fun o=>ZaW O o.txs==o.txs)=av)∧Upd No wb wr)
 case atStart=>exact⟨0,by omega,rfl,HAV,hu13⟩
 case round=>
  clear HAV hu13;obtain⟨k,hgk,rfl,hs,hu⟩:=hrel;have hfo:=HFO.out
  by_cases hlt:k<ords.length
  ·obtain⟨ad,hAd,q0,q1⟩:=(GH.out.upd hu (fun _ _=>id)).ord_at hlt;simp only at hAd q0 q1;subst hAd;have hom:=List.getElem_mem hlt;have hol:=(GH.out.upd hu (fun _ _=>id)).ord _ hom;have hob:=HOL.out _ hom;obtain⟨x,hx⟩:∃x,ords[k]=x:=⟨_,rfl⟩;rw[hx]at q0 q1 hol hob;have hst:=hs.out;rw[show ords.drop k=x::ords.drop (k+1) by rw[←hx];exact List.drop_eq_getElem_cons hlt,List.all_cons]at hst;obtain⟨oy,ox,oA,oc⟩:=x;simp only at q0 q1 hst hob;have hoi:Ints F wr oA ox:=hol.1;obtain⟨AN,hAN⟩:∃AN,ZaW O ox=AN:=⟨_,rfl⟩;obtain⟨eb,heb⟩:∃eb,(AN==ox)=eb:=⟨_,rfl⟩;rw[hAN,heb]at hst;have HST:=Qh hst;have HEB:=Qh heb;have i1:(0:Int)≤(k:Int):=Qn _;have i2:(k:Int)<(ords.length:Int):=by omega
   have jw:IntKind.i64.wrap ((k:Int)+1)=(k:Int)+1:=IntWalk.i64_in _ (by omega);obtain⟨wz,hwz⟩:∃wz,wr.alloc (.cells #[.int .i64 oy,.slice oA ox.length oc] 102)=wz:=⟨_,rfl⟩;have uz:Upd No wr wz:=by rw[←hwz];exact(Upd.refl No wr).alloc _
   have bo:Blk wz wr.heap.size 102 [.int .i64 oy,.slice oA ox.length oc]:=by rw[←hwz];exact Blk.new wr _ _
   have g1:∀W,Upd No wz W→W.cell? ⟨wr.heap.size,1,none⟩=some (.slice oA ox.length oc):=fun W u=>(bo.upd u id).cell 1
   have hzz:Upd No wz wz:=Upd.refl _ _;have HUZ:=Qh (hu.trans uz);have HOI:=Qh (hoi.upd uz (fun _ _=>id));have HOB:=Qh hob;have hanl:AN.length≤100000:=by rw[←hAN];exact Nat.le_trans (List.length_filter_le _ _) HLO.out
   have HANL:=Qh hanl;have CA:=Qh (fun W (u:Upd No wz W)=>Zny G F W E oA ec oc O ox (GE.out.upd (HUZ.out.trans u) (fun _ _=>id)) (HOI.out.upd u (fun _ _=>id)) (Nat.le_trans HLO.out (by decide)) (Nat.le_trans HOB.out (by decide)));rw[hAN]at CA;clear hx hom hol hob hst hoi hAN heb uz bo hs hanl
   cases eb
   ·have HVF:=Qh (show v=false by have h2:=HST.out;rw[←HVV.out,←h2];rfl);go_wp2;refine wp_region_noPanic ?_;refine wp_region_held_drew (S:=(fun W'=>Upd No wz W')) (by kernel_rfl) ?_ (fun hHeld=> ?_)
    ·(first|exact hzz.drew|(with_reducible exact hHeld)|(with_reducible exact hq5)|(with_reducible exact hq6))
    refine wpK 0 rfl ?_;refine wpK 1 rfl ?_;refine wpK 2 rfl ?_;refine wpK 4 rfl ?_;refine wpK 5 rfl ?_;refine wpR [3] ?_;refine wpC rfl (fun K hK=> ?_) AllReadyH.nil;go_simp
    (first
  |(go_at_call 82;refine(CA.out _ hHeld).mono ?_;rintro e w5 ⟨A5,c5,rfl,ho5,hu5⟩;have hq5:Upd No wz w5:=hHeld.trans hu5;have CS:=Qh (ZiI w5 _ F A5 oA c5 oc AN ox (Ints.of_owned ho5) (HOI.out.upd hq5 (fun _ _=>id)) (Nat.le_trans HANL.out (by decide)) (Nat.le_trans HOB.out (by decide)));rw[HEB.out]at CS;clear ho5 hu5))
    try (go_wp2_with fail)
    refine hK.out _ _ ?_ (fun hHeld=> ?_)
    ·(first|exact hzz.drew|(with_reducible exact hHeld)|(with_reducible exact hq5)|(with_reducible exact hq6))
    clear hK K
    try simp only[Act.put,sT,sS,sZ]
    refine wpR [6] ?_;refine wpC rfl (fun K hK=> ?_) AllReadyH.nil;go_simp
    (first
  |(go_at_call 33;refine CS.out.mono ?_;rintro e w6 ⟨rfl,hu6⟩;have hq6:Upd No wz w6:=hHeld.trans hu6))
    try (go_wp2_with fail)
    refine hK.out _ _ ?_ (fun hHeld=> ?_)
    ·(first|exact hzz.drew|(with_reducible exact hHeld)|(with_reducible exact hq5)|(with_reducible exact hq6))
    clear hK K
    try simp only[Act.put,sT,sS,sZ]
    refine wpK 7 rfl ?_;refine wpD (NoPanic.normal ?_);have HL:=Qh (HUZ.out.trans hHeld);clear hHeld;go_wp2
    go_ret
    exact⟨by rw[HVF.out];rfl,U0.out.trans HL.out⟩
   ·have HS:=Qh (show((ords.drop (k+1)).all fun o=>ZaW O o.txs==o.txs)=av by have:=HST.out;rwa [Bool.true_and]at this);go_wp2;refine wp_region_noPanic ?_;refine wp_region_held_drew (S:=(fun W'=>Upd No wz W')) (by kernel_rfl) ?_ (fun hHeld=> ?_)
    ·(first|exact hzz.drew|(with_reducible exact hHeld)|(with_reducible exact hq5)|(with_reducible exact hq6))
    refine wpK 0 rfl ?_;refine wpK 1 rfl ?_;refine wpK 2 rfl ?_;refine wpK 4 rfl ?_;refine wpK 5 rfl ?_;refine wpR [3] ?_;refine wpC rfl (fun K hK=> ?_) AllReadyH.nil;go_simp
    (first
  |(go_at_call 82;refine(CA.out _ hHeld).mono ?_;rintro e w5 ⟨A5,c5,rfl,ho5,hu5⟩;have hq5:Upd No wz w5:=hHeld.trans hu5;have CS:=Qh (ZiI w5 _ F A5 oA c5 oc AN ox (Ints.of_owned ho5) (HOI.out.upd hq5 (fun _ _=>id)) (Nat.le_trans HANL.out (by decide)) (Nat.le_trans HOB.out (by decide)));rw[HEB.out]at CS;clear ho5 hu5))
    try (go_wp2_with fail)
    refine hK.out _ _ ?_ (fun hHeld=> ?_)
    ·(first|exact hzz.drew|(with_reducible exact hHeld)|(with_reducible exact hq5)|(with_reducible exact hq6))
    clear hK K
    try simp only[Act.put,sT,sS,sZ]
    refine wpR [6] ?_;refine wpC rfl (fun K hK=> ?_) AllReadyH.nil;go_simp
    (first
  |(go_at_call 33;refine CS.out.mono ?_;rintro e w6 ⟨rfl,hu6⟩;have hq6:Upd No wz w6:=hHeld.trans hu6))
    try (go_wp2_with fail)
    refine hK.out _ _ ?_ (fun hHeld=> ?_)
    ·(first|exact hzz.drew|(with_reducible exact hHeld)|(with_reducible exact hq5)|(with_reducible exact hq6))
    clear hK K
    try simp only[Act.put,sT,sS,sZ]
    refine wpK 7 rfl ?_;refine wpD (NoPanic.normal ?_);have HL:=Qh (HUZ.out.trans hHeld);clear hHeld;go_wp2
    go_roundg (gk-1)
    case measure=>omega
    case rel=>exact⟨k+1,by omega,by go_num,HS,HL.out⟩
  ·obtain rfl:k=ords.length:=by omega
   have hav:av=true:=by have:=hs.out;rw[List.drop_length]at this;exact this.symm
   subst hav;have HVS:=Qh (show sv=v by have:=HVV.out;rwa [Bool.true_and,Bool.true_and,Bool.true_and]at this);clear hs;go_wp2
   generalize gk=GK at*
   go_loopg [39] O.length (fun gk i wr=>∃(k:Nat),k+gk=O.length∧i= .int .i64 (k:Int)∧Hid (∀j,j<k→ZbL txs (O.take j) (ZQ txs (O.getD j 0))=true)∧Upd No wb wr)
   case atStart=>exact⟨0,by omega,rfl,Qh (fun j hj=>by omega),hu⟩
   case round=>
    clear hu;obtain⟨k,hgk,rfl,hall,hu⟩:=hrel;have hlo:=HLO.out
    by_cases hlt:k<O.length
    ·obtain⟨ad,rfl,_,_,q0⟩:=(GE.out.upd hu (fun _ _=>id)).at_ hlt;obtain⟨id,hid⟩:∃id,O[k]=id:=⟨_,rfl⟩;rw[hid]at q0;have hgd:O.getD k 0=id:=by rw[List.getD_eq_getElem?_getD,Qg hlt,hid];rfl
     have i1:(0:Int)≤(k:Int):=Qn _;have i2:(k:Int)<(O.length:Int):=by omega
     have jw:IntKind.i64.wrap ((k:Int)+1)=(k:Int)+1:=IntWalk.i64_in _ (by omega);have CF:=Qh (Zc0 F wr txs ords A c B d id (GH.out.upd hu (fun _ _ e=>e)));obtain⟨sb,hsb⟩:∃sb,ZbL txs (O.take k) (ZQ txs (O.getD k 0))=sb:=⟨_,rfl⟩;have HSB:=Qh hsb;rw[hgd,ZiJ,ZaZ,Zc7]at hsb;have HKT:=Qh (show k=(O.take k).length by rw[List.length_take];omega);obtain⟨ui,hui⟩:∃ui,uid txs id=ui:=⟨_,rfl⟩;obtain⟨ud,hud⟩:∃ud,Zas txs id=ud:=⟨_,rfl⟩;obtain⟨us,hus⟩:∃us,ZJ txs id=us:=⟨_,rfl⟩;obtain⟨fi,hfi⟩:∃fi,(Ze txs id).isSome=fi:=⟨_,rfl⟩;rw[hui,hud,hus,hfi]at CF;rw[hui,hus]at hsb;have HSB2:=Qh hsb;have hcut:=fun W=>ZdI W Zg5 (some ad) O.length ec k (Nat.le_trans (Nat.le_of_lt hlt) HEC.out)
     obtain⟨CA,hCA⟩:∃CA,Zby (some ad) ec 0 1=CA:=⟨_,rfl⟩;rw[hCA]at hcut
     have HCI:=Qh (fun W (u:Upd No wb W)=>(show Ints G W CA (O.take k) from by
      rw[←hCA];have h2:=(GE.out.upd u (fun _ _ e=>e)).cut (i:=0) (c:=ec) HEC.out;rw[List.drop_zero]at h2;exact h2.take))
     clear hid hui hud hus hfi hsb hgd hCA
     go_wp2_with fail
     refine(CF.out).mono ?_;rintro e w5 ⟨A5,c5,rfl,hfew,hop,hu5⟩;obtain⟨y,hy⟩:∃y,w5.heap.size=y:=⟨_,rfl⟩;obtain⟨wt,hwt⟩:∃wt,w5.alloc (.cells #[.int .i64 ui,.bool ud,.slice A5 us.length c5] 85)=wt:=⟨_,rfl⟩;have ut:Upd No w5 wt:=by rw[←hwt];exact(Upd.refl No w5).alloc _
     have bT:Blk wt y 85 [.int .i64 ui,.bool ud,.slice A5 us.length c5]:=by rw[←hwt,←hy];exact Blk.new w5 _ _
     have t0:∀W,Upd No wt W→W.cell? ⟨y,0,none⟩=some (.int .i64 ui):=fun W u=>(bT.upd u (fun e=>e)).cell 0
     have t1:∀W,Upd No wt W→W.cell? ⟨y,1,none⟩=some (.bool ud):=fun W u=>(bT.upd u (fun e=>e)).cell 1
     have t2:∀W,Upd No wt W→W.cell? ⟨y,2,none⟩=some (.slice A5 us.length c5):=fun W u=>(bT.upd u (fun e=>e)).cell 2
     have htt:Upd No wt wt:=Upd.refl _ _;have HUT:=Qh (hu.trans (hu5.trans ut));have k0:∀W,Upd No wt W→W.cell? ⟨w.heap.size,0,none⟩=some (.slice A txs.length c):=fun W u=>h0 W (HUT.out.trans u)
     have k1:∀W,Upd No wt W→W.cell? ⟨w.heap.size,1,none⟩=some (.slice B ords.length d):=fun W u=>h1 W (HUT.out.trans u)
     have HOT:=Qh (HOps.upd hop ut (fun _ _ e=>e));have HFW:=Qh hfew;have CX:=Qh (fun W (u:Upd No wt W)=>Zk1 F G F W txs ords A c B d ui ud A5 c5 us CA ec k (O.take k) (GH.out.upd (HUT.out.trans u) (fun _ _ e=>e)) (HOps.upd HOT.out u (fun _ _ e=>e)) HFW.out (HCI.out W (HUT.out.trans u)) HKT.out.symm (by omega) HSB2.out);clear hfew hop hu5 ut bT CF
     cases sb
     ·have HVF:=Qh (show v=false by
       rw[←HVS.out,←HSV.out,Bool.eq_false_iff];intro h;rw[List.all_eq_true]at h;have:=h k (List.mem_range.2 hlt);rw[HSB.out]at this
       cases this)
      go_wp2;refine wp_region_noPanic ?_;refine wp_region_held_drew (S:=(fun W'=>Upd No wt W')) (by kernel_rfl) ?_ (fun hHeld=> ?_)
      ·(first|exact htt.drew|(with_reducible exact hHeld)|(with_reducible exact hHeld.trans hu6))
      refine wpK 0 rfl ?_;refine wpK 1 rfl ?_;refine wpK 2 rfl ?_;refine wpK 3 rfl ?_;refine wpK 4 rfl ?_;refine wpR [5] ?_;refine wpC rfl (fun K hK=> ?_) AllReadyH.nil;go_simp
      (first
  |(go_at_call 84;refine(CX.out _ hHeld).mono ?_;rintro e w6 ⟨rfl,hu6⟩))
      try (go_wp2_with fail)
      refine hK.out _ _ ?_ (fun hHeld=> ?_)
      ·(first|exact htt.drew|(with_reducible exact hHeld)|(with_reducible exact hHeld.trans hu6))
      clear hK K
      try simp only[Act.put,sT,sS,sZ]
      refine wpK 6 rfl ?_;refine wpD (NoPanic.normal ?_);have HL:=Qh (HUT.out.trans hHeld);clear hHeld;go_wp2
      go_ret
      exact⟨by rw[HVF.out];rfl,U0.out.trans HL.out⟩
     ·go_wp2;refine wp_region_noPanic ?_;refine wp_region_held_drew (S:=(fun W'=>Upd No wt W')) (by kernel_rfl) ?_ (fun hHeld=> ?_)
      ·(first|exact htt.drew|(with_reducible exact hHeld)|(with_reducible exact hHeld.trans hu6))
      refine wpK 0 rfl ?_;refine wpK 1 rfl ?_;refine wpK 2 rfl ?_;refine wpK 3 rfl ?_;refine wpK 4 rfl ?_;refine wpR [5] ?_;refine wpC rfl (fun K hK=> ?_) AllReadyH.nil;go_simp
      (first
  |(go_at_call 84;refine(CX.out _ hHeld).mono ?_;rintro e w6 ⟨rfl,hu6⟩))
      try (go_wp2_with fail)
      refine hK.out _ _ ?_ (fun hHeld=> ?_)
      ·(first|exact htt.drew|(with_reducible exact hHeld)|(with_reducible exact hHeld.trans hu6))
      clear hK K
      try simp only[Act.put,sT,sS,sZ]
      refine wpK 6 rfl ?_;refine wpD (NoPanic.normal ?_);have HL:=Qh (HUT.out.trans hHeld);clear hHeld;go_wp2
      go_roundg (gk-1)
      case measure=>omega
      case rel=>exact⟨k+1,by omega,by go_num,Qh (fun j hj=>by
        by_cases e:j=k
        ·rw[e];exact HSB.out
        ·exact hall.out j (by omega)),HL.out⟩
    ·obtain rfl:k=O.length:=by omega
     have HVT:=Qh (show v=true by
      rw[←HVS.out,←HSV.out,List.all_eq_true];intro j hj;exact hall.out j (List.mem_range.1 hj))
     go_wp2
     go_ret
     exact⟨by rw[HVT.out];rfl,U0.out.trans hu⟩
/-! who wrote last,by the document -/
theorem ZhC (txs:List HTx) (id:Int) (l s:List Int):ZV txs (id::l) s=ZV txs l ((Zl (ZJ txs id)).foldl (fun a k=>Zp k a) s):=by
 show ZV txs l ((Zl (ZQ txs id).ops).foldl (fun a k=>Zp k a) s)=_
 rw[ZaZ]
set_option maxRecDepth 100000 in
set_option maxHeartbeats 8000000 in
theorem Zk5 (F G:Nat→Prop) (w:World) (txs:List HTx) (ords:List HOrd) (A:Option Addr) (c:Nat) (B:Option Addr) (d:Nat) (E:Option Addr) (ec:Nat) (O:List Int) (H:Hist.lies F w ⟨txs,ords,A,c,B,d⟩) (HE:Ints G w E O) (hlO:O.length≤1000) (hops:∀t∈txs,t.ops.length≤1000):
  Calls Tryz.prog 40 #[.agg #[.slice A txs.length c,.slice B ords.length d],.slice E O.length ec] w (Zl9 w (Zbm txs O)):=by
 obtain⟨wb,hwb⟩:∃wb,w.alloc (.cells #[.slice A txs.length c,.slice B ords.length d] 50)=wb:=⟨_,rfl⟩;have ub:Upd No w wb:=by rw[←hwb];exact(Upd.refl No w).alloc _
 have bH:Blk wb w.heap.size 50 [.slice A txs.length c,.slice B ords.length d]:=by rw[←hwb];exact Blk.new w _ _
 have h0:∀W,Upd No wb W→W.cell? ⟨w.heap.size,0,none⟩=some (.slice A txs.length c):=fun W u=>(bH.upd u id).cell 0
 have h1:∀W,Upd No wb W→W.cell? ⟨w.heap.size,1,none⟩=some (.slice B ords.length d):=fun W u=>(bH.upd u id).cell 1
 have hr:Upd No wb wb:=Upd.refl _ _;have U0:=Qh ub;have GH:=Qh (H.upd ub (fun _ _=>id));have GE:=Qh (HE.upd ub (fun _ _=>id))
 have HOPS:=Qh (show∀id,(ZJ txs id).length≤1000 from fun id=>by
  unfold ZJ
  cases hf:Ze txs id with
  |none=>exact Nat.zero_le _
  |some t=>exact hops t (Za8 hf))
 obtain⟨FK,hFK⟩:∃FK,ZV txs O []=FK:=⟨_,rfl⟩;obtain⟨FS,hFS⟩:∃FS,Zbm txs O=FS:=⟨_,rfl⟩;have HFS:=Qh (show FS=FK.map fun k=>(k,Zae txs O k) by rw[←hFS,←hFK];rfl);have HK0:=Qh (show ZV txs (O.drop 0) []=FK from hFK);have HLO:=Qh hlO;rw[hFS];clear bH H HE ub hops hFK hFS
 go_enter Tryz.func40,Tryz.ntmps40
 go_wp2
 go_loopg [5,17] O.length (fun gk s i wr=>∃(k:Nat) (A6:Option Addr) (c6:Nat) (xs:List Int),k+gk=O.length∧i= .int .i64 (k:Int)∧s= .slice A6 xs.length c6∧Hid (ZV txs (O.drop k) xs=FK)∧Hid (xs.length≤1000*k)∧Hid (Ints (fun i=>wb.heap.size≤i) wr A6 xs)∧Upd No wb wr)
 case atStart=>exact⟨0,none,0,[],by omega,rfl,rfl,HK0,Qh (Nat.zero_le _),Qh Ints.nil_,hr⟩
 case round=>
  clear HK0 hr;obtain⟨k,A6,c6,xs,hgk,rfl,rfl,hs,hxl,hI,hu⟩:=hrel;have hlo:=HLO.out
  by_cases hlt:k<O.length
  ·obtain⟨ad,rfl,_,_,q0⟩:=(GE.out.upd hu (fun _ _=>id)).at_ hlt;obtain⟨id,hid⟩:∃id,O[k]=id:=⟨_,rfl⟩;rw[hid]at q0;have hst:=hs.out;rw[show O.drop k=id::O.drop (k+1) by rw[←hid];exact List.drop_eq_getElem_cons hlt,ZhC]at hst;have i1:(0:Int)≤(k:Int):=Qn _;have i2:(k:Int)<(O.length:Int):=by omega
   have jw:IntKind.i64.wrap ((k:Int)+1)=(k:Int)+1:=IntWalk.i64_in _ (by omega);have CF:=Qh (Zc0 F wr txs ords A c B d id (GH.out.upd hu (fun _ _ e=>e)));have hol:=HOPS.out id;obtain⟨ui,hui⟩:∃ui,uid txs id=ui:=⟨_,rfl⟩;obtain⟨ud,hud⟩:∃ud,Zas txs id=ud:=⟨_,rfl⟩;obtain⟨us,hus⟩:∃us,ZJ txs id=us:=⟨_,rfl⟩;obtain⟨fi,hfi⟩:∃fi,(Ze txs id).isSome=fi:=⟨_,rfl⟩;rw[hui,hud,hus,hfi]at CF;rw[hus]at hst hol;obtain⟨YS,hYS⟩:∃YS,(Zl us).foldl (fun a k=>Zp k a) xs=YS:=⟨_,rfl⟩;have hyl:=ZeL (Zl us) xs;have hkl:(Zl us).length≤1000:=Nat.le_trans (Nat.le_trans (ZaB _) (Zce _ _)) hol;rw[hYS]at hst hyl;have HYL:=Qh (show YS.length≤1000*(k+1) by have:=hxl.out;omega);have HST:=Qh hst;have HXB:=Qh (show xs.length≤1000000 by have:=hxl.out;omega);have HOL:=Qh hol;have HYS:=Qh hYS;have HKL:=Qh hkl;clear hid hui hud hus hfi hst hs hyl hkl hYS hol
   go_wp2_with fail
   refine(CF.out).mono ?_;rintro e w5 ⟨A5,c5,rfl,hfew,hop,hu5⟩;obtain⟨wt,hwt⟩:∃wt,w5.alloc (.cells #[.int .i64 ui,.bool ud,.slice A5 us.length c5] 85)=wt:=⟨_,rfl⟩;have ut:Upd No w5 wt:=by rw[←hwt];exact(Upd.refl No w5).alloc _
   have bT:Blk wt w5.heap.size 85 [.int .i64 ui,.bool ud,.slice A5 us.length c5]:=by rw[←hwt];exact Blk.new w5 _ _
   have t0:=bT.cell 0;have t1:=bT.cell 1;have t2:=bT.cell 2;simp only[Qz,Qs]at t0 t1 t2;have HUT:=Qh (hu.trans (hu5.trans ut));have CK:=Qh (ZlX F wt ui ud A5 c5 us false (HOps.upd hop ut (fun _ _ e=>e)) (Nat.le_trans HOL.out (by decide)));obtain⟨ks,hks⟩:∃ks,Zl us=ks:=⟨_,rfl⟩;rw[Zim,hks]at CK;rw[hks]at HYS HKL;have HIT:=Qh (hI.out.upd (hu5.trans ut) (fun _ _ e=>e));clear hfew hop hu5 ut bT CF hks hI
   go_wp2_with fail
   refine(CK.out).mono ?_;rintro e w7 ⟨A7,c7,rfl,ho7,hu7⟩;have HK7:=Qh (show Ints (fun i=>wt.heap.size≤i) w7 A7 ks from Ints.of_owned ho7);have HI7:=Qh (HIT.out.upd hu7 (fun _ _ e=>e));have HU7:=Qh (HUT.out.trans hu7);have HF0:=Qh (show(ks.drop 0).foldl (fun a k=>Zp k a) xs=YS from HYS.out);clear ho7 hu7 CK HIT;go_wp2
   generalize gk=GK at*
   go_loopg [5,30] ks.length (fun gk s i wx=>∃(j:Nat) (A8:Option Addr) (c8:Nat) (ys:List Int),j+gk=ks.length∧i= .int .i64 (j:Int)∧s= .slice A8 ys.length c8∧Hid ((ks.drop j).foldl (fun a k=>Zp k a) ys=YS)∧Hid (ys.length≤xs.length+j)∧Hid (Ints (fun i=>wb.heap.size≤i) wx A8 ys)∧Hid (Upd No w7 wx))
   case atStart=>exact⟨0,A6,c6,xs,by omega,rfl,rfl,HF0,Qh (Nat.le_refl _),HI7,Qh (Upd.refl _ _)⟩
   case round=>
    clear HF0 HI7;obtain⟨j,A8,c8,ys,hgj,rfl,rfl,hys,hyl,hI8,hux⟩:=hrel;have hkl:=HKL.out;have hxb:=HXB.out
    by_cases hlj:j<ks.length
    ·obtain⟨ad1,rfl,_,_,q1⟩:=(HK7.out.upd hux.out (fun _ _ e=>e)).at_ hlj;obtain⟨key,hkey⟩:∃key,ks[j]=key:=⟨_,rfl⟩;rw[hkey]at q1;have hst:=hys.out;rw[show ks.drop j=key::ks.drop (j+1) by rw[←hkey];exact List.drop_eq_getElem_cons hlj,List.foldl_cons]at hst;have HST2:=Qh hst;have j0:(0:Int)≤(j:Int):=Qn _;have j1:(j:Int)<(ks.length:Int):=by omega
     have jwj:IntKind.i64.wrap ((j:Int)+1)=(j:Int)+1:=IntWalk.i64_in _ (by omega);have hpl:=Zbt key ys;have hyl2:=hyl.out;have CP:=Qh (Zog _ wb.heap.size wr A8 c8 ys key hI8.out (by omega) (HU7.out.trans hux.out).size);obtain⟨PY,hPY⟩:∃PY,Zp key ys=PY:=⟨_,rfl⟩;rw[hPY]at CP HST2 hpl;have HPL:=Qh (show PY.length≤xs.length+(j+1) by omega);clear hkey hst hys hI8 hpl hPY hyl2 hyl
     go_wp2_with fail
     refine(CP.out).mono ?_;rintro e w9 ⟨A9,c9,rfl,hI9,hu9⟩;go_wp2
     go_roundg (gk-1)
     case measure=>omega
     case rel=>exact⟨j+1,A9,c9,PY,by omega,by go_num,rfl,HST2,HPL,Qh hI9,Qh (hux.out.trans hu9)⟩
    ·obtain rfl:j=ks.length:=by omega
     have hye:ys=YS:=by have:=hys.out;rw[List.drop_length]at this;exact this
     subst hye;have HU:=Qh (HU7.out.trans hux.out);clear hys hyl hux;go_wp2
     go_roundg (GK-1)
     case measure=>omega
     case rel=>exact⟨k+1,A8,c8,ys,by omega,by go_num,rfl,HST,HYL,hI8,HU.out⟩
  ·obtain rfl:k=O.length:=by omega
   have hxe:xs=FK:=by have:=hs.out;rw[List.drop_length]at this;exact this
   subst hxe;have hxb:xs.length≤1000000:=by have:=hxl.out;omega
   have HXB:=Qh hxb;obtain⟨wo,hwo⟩:∃wo,wo=wr:=⟨_,rfl⟩;subst hwo;clear hs hxl hxb;go_wp2
   generalize gk=GK at*
   go_loopg [12,41] xs.length (fun gk s i wx=>∃(j:Nat) (A8:Option Addr) (c8:Nat) (ps:List (Int×Int)),j+gk=xs.length∧i= .int .i64 (j:Int)∧s= .slice A8 ps.length c8∧Hid (ps=(xs.take j).map fun k=>(k,Zae txs O k))∧
    Hid (wx.ownsRow wo.heap.size 121 2 (.slice A8 ps.length c8) ps.length (ZbN ps))∧Hid (Upd No wo wx))
   case atStart=>exact⟨0,none,0,[],by omega,rfl,rfl,Qh rfl,Qh (World.ownsRow_nil _ _ _ _),Qh (Upd.refl _ _)⟩
   case round=>
    obtain⟨j,A8,c8,ps,hgj,rfl,rfl,hps,hown,hux⟩:=hrel;have hxb:=HXB.out
    by_cases hlj:j<xs.length
    ·obtain⟨ad1,rfl,_,_,q1⟩:=(hI.out.upd hux.out (fun _ _ e=>e)).at_ hlj;obtain⟨key,hkey⟩:∃key,xs[j]=key:=⟨_,rfl⟩;rw[hkey]at q1;have j0:(0:Int)≤(j:Int):=Qn _;have j1:(j:Int)<(xs.length:Int):=by omega
     have jwj:IntKind.i64.wrap ((j:Int)+1)=(j:Int)+1:=IntWalk.i64_in _ (by omega);have hpl:ps.length=j:=by rw[hps.out,List.length_map,List.length_take];omega
     obtain⟨lv,hlv⟩:∃lv,Zae txs O key=lv:=⟨_,rfl⟩
     have HPS:=Qh (show ps++[(key,lv)]=(xs.take (j+1)).map fun k=>(k,Zae txs O k) by
      rw[List.take_succ_eq_append_getElem hlj,hkey,List.map_append,←hps.out,List.map_cons,List.map_nil,hlv])
     have huw:=hu.trans hux.out;have CL:=Qh (Zig F G wr txs ords A c B d E ec O key (GH.out.upd huw (fun _ _ e=>e)) (GE.out.upd huw (fun _ _ e=>e)) (Nat.le_trans HLO.out (by decide)) hlv);have hpb:ps.length≤1000000:=by omega
     clear hkey hlv hps hpl
     go_wp2_with fail
     refine(CL.out).mono ?_;rintro e w6 ⟨rfl,hu6⟩;have hownx:=Zb hown.out hu6 (fun _ _ e=>e);have hsz:wo.heap.size≤w6.heap.size:=(hux.out.trans hu6).size;have HUX:=Qh (hux.out.trans hu6);clear hown huw
     go_wp2_with (at_builtin;refine Z8 rfl rfl Zf8 (v:= .slice A8 ps.length c8) (n:=ps.length) (xs:=ZbN ps) (cells:=[.int .i64 key,.int .i64 lv]) (by rfl) rfl hownx rfl rfl (by omega) (by omega) (by omega) ?_;intro g8 c9 w8 hown8 hu8 hg8 hlt8)
     go_roundg (gk-1)
     case measure=>omega
     case rel=>exact⟨j+1,some ⟨g8,0,none⟩,c9,ps++[(key,lv)],by omega,by go_num,by simp,HPS,Qh (by rw[Zfe];simpa using hown8),Qh (HUX.out.then_ hu8 (fun i e=>Or.inr (hownx.lt i e).1))⟩
    ·obtain rfl:j=xs.length:=by omega
     have hxe:ps=FS:=by rw[hps.out,List.take_length,HFS.out]
     subst hxe;go_wp2
     go_ret
     exact⟨A8,c8,rfl,ZB hown.out (U0.out.trans hu).size,(U0.out.trans hu).trans hux.out⟩
/-! pairs compared -/
def Pairs (F:Nat→Prop) (w:World) (A:Option Addr) (l:List (Int×Int)):Prop:=Recs F w A 2 (l.map fun p=>[Value.int .i64 p.1,.int .i64 p.2])
theorem Pairs.of_own {w:World} {base c:Nat} {A:Option Addr} {l:List (Int×Int)} (h:w.ownsRow base 121 2 (.slice A l.length c) l.length (ZbN l)):Pairs (fun i=>base≤i) w A l:=
 Recs.weak (Recs.of_own (rows:=l.map fun p=>[Value.int .i64 p.1,.int .i64 p.2]) (fun r hr=>by obtain⟨p,_,rfl⟩:=List.mem_map.1 hr;rfl) (by omega) h) (fun i _ e=>(h.lt i e).1)
theorem Pairs.at_ {F:Nat→Prop} {w:World} {A:Option Addr} {l:List (Int×Int)} (h:Pairs F w A l) {k:Nat} (hk:k<l.length):∃ad,A=some ad∧
  w.cell? (ad.add (k*2))=some (.int .i64 l[k].1)∧w.cell? ⟨(ad.add (k*2)).block,(ad.add (k*2)).off+1,none⟩=some (.int .i64 l[k].2):=by
 have hk':k<(l.map fun p=>[Value.int .i64 p.1,.int .i64 p.2]).length:=by simpa using hk
 obtain⟨ad,e,_,_,hc⟩:=Recs.at_ h hk';rw[List.getElem_map]at hc;exact⟨ad,e,by simpa using hc 0 _ rfl,by simpa using hc 1 _ rfl⟩
theorem ZiM (w:World) (a b a' b':Int):(Op.equalIn 10000 121 (.agg #[.int .i64 a,.int .i64 b]) (.agg #[.int .i64 a',.int .i64 b'])).run Tryz.prog w= .ok (decide ((a,b)=(a',b'))) w:=by
 rw[run_equalIn_struct w _ _ _ _ (by kernel_rfl) (by kernel_rfl)];have hI:∀(w:World) (d:Nat) (x y:Int),(Op.equalIn (d+1) 3 (.int .i64 x) (.int .i64 y)).run Tryz.prog w= .ok (x==y) w:=fun w d x y=>run_equalIn_int w d _ _ _ x y Tryz.underlying3
 by_cases h1:a=a'<;>by_cases h2:b=b'<;>
  simp[Program.fieldsOf,Tryz.underlying121,Op.eqFields,part,hI,h1,h2,Result.andThen]
theorem Zld (w:World) (a b a' b':Int):(binOp .neq 121 (.agg #[.int .i64 a,.int .i64 b]) (.agg #[.int .i64 a',.int .i64 b'])).run Tryz.prog w= .ok (.bool ((a,b) != (a',b'))) w:=by
 have:=ZiM w a b a' b';rw[run_neq_struct,this];simp only[Result.andThen]
 by_cases h:(a,b)=(a',b')<;>simp[h]
set_option maxRecDepth 100000 in
set_option maxHeartbeats 1000000 in
theorem Zmt (F G:Nat→Prop) (w:World) (A B:Option Addr) (c d:Nat) (xs ys:List (Int×Int)) (hx:Pairs F w A xs) (hy:Pairs G w B ys) (hl:xs.length≤1000000) {v:Bool} (hv:(xs==ys)=v):
  Calls Tryz.prog 38 #[.slice A xs.length c,.slice B ys.length d] w fun e w'=>e= .returned (.bool v)∧Upd No w w':=by
 by_cases hn:xs.length=ys.length
 ·have hb:((xs.length:Int) != (ys.length:Int))=false:=by rw[hn];simp
  have HX:=Qh hx;have HY:=Qh hy;have HV:=Qh hv;have HN:=Qh hn;clear hx hy hv hn
  go_enter Tryz.func38,Tryz.ntmps38
  go_wp2
  go_loopg [13] xs.length (fun gk i wr=>∃k:Nat,k+gk=xs.length∧i= .int .i64 (k:Int)∧Hid (xs.take k=ys.take k)∧Upd No w wr)
  case atStart=>exact⟨0,by omega,rfl,Qh (by simp),Upd.refl _ _⟩
  case round=>
   obtain⟨k,hgk,rfl,hall,hu⟩:=hrel;have hnn:=HN.out
   by_cases hlt:k<xs.length
   ·have hlt2:k<ys.length:=by omega
    obtain⟨ad,rfl,q0,q1⟩:=(Pairs.at_ (Recs.upd HX.out hu (fun _ _=>id)) hlt);obtain⟨be,rfl,p0,p1⟩:=(Pairs.at_ (Recs.upd HY.out hu (fun _ _=>id)) hlt2);obtain⟨⟨xa,xb⟩,hxk⟩:∃x,xs[k]=x:=⟨_,rfl⟩;obtain⟨⟨ya,yb⟩,hyk⟩:∃y,ys[k]=y:=⟨_,rfl⟩;rw[hxk]at q0 q1;rw[hyk]at p0 p1;simp only at q0 q1 p0 p1;have i1:(0:Int)≤(k:Int):=Qn _;have i2:(k:Int)<(xs.length:Int):=by omega
    have i3:(k:Int)<(ys.length:Int):=by omega
    have jw:IntKind.i64.wrap ((k:Int)+1)=(k:Int)+1:=IntWalk.i64_in _ (by omega);have hne:=fun W=>Zld W xa xb ya yb
    by_cases e:(xa,xb)=(ya,yb)
    ·rw[show((xa,xb) != (ya,yb))=false by rw[e];simp]at hne;have HT:=Qh (show xs.take (k+1)=ys.take (k+1) by rw[List.take_succ_eq_append_getElem hlt,List.take_succ_eq_append_getElem hlt2,hall.out,hxk,hyk,e]);clear hxk hyk e hnn;go_wp2
     go_quiet (fail)
     go_wp2
     go_roundg (gk-1)
     case measure=>omega
     case rel=>exact⟨k+1,by omega,by go_num,HT,hu.drewN _⟩
    ·rw[show((xa,xb) != (ya,yb))=true by rw[bne_iff_ne];exact e]at hne
     have HF:=Qh (show v=false by
      rw[←HV.out,beq_eq_false_iff_ne];rintro rfl;rw[hxk]at hyk;exact e hyk)
     clear hxk hyk e hnn;go_wp2
     go_quiet (fail)
     go_wp2
     go_ret
     exact⟨by rw[HF.out];rfl,hu.drewN _⟩
   ·obtain rfl:k=xs.length:=by omega
    have HT:=Qh (show v=true by
     have h2:=hall.out;rw[List.take_length,show ys.take xs.length=ys by rw[hnn,List.take_length]]at h2;rw[←HV.out,h2];simp)
    go_wp2
    go_ret
    exact⟨by rw[HT.out];rfl,hu⟩
 ·have hb:((xs.length:Int) != (ys.length:Int))=true:=by rw[bne_iff_ne];omega
  have HF:=Qh (show v=false by
   rw[←hv,beq_eq_false_iff_ne];rintro rfl;exact hn rfl)
  clear hx hy hv hn
  go_enter Tryz.func38,Tryz.ntmps38
  go_wp2
  go_ret
  exact⟨by rw[HF.out];rfl,Upd.refl _ _⟩
end
/- Orders as if one by one:the answers that the document gives. -/
section
open Go.RowKit
def ZcS (n:Nat):List HTx:=[⟨1,true,[⟨false,5,0,0⟩],some ⟨n,0,none⟩,1⟩,⟨2,true,[⟨true,5,0,0⟩],some ⟨n+1,0,none⟩,1⟩,⟨3,false,[],none,0⟩]
def Zjb (n:Nat):List HOrd:=[⟨5,[1],some ⟨n+3,0,none⟩,1⟩]
def h45 (n:Nat):Hist:=⟨ZcS n,Zjb n,some ⟨n+2,0,none⟩,3,some ⟨n+4,0,none⟩,1⟩
def ZfS (n:Nat):Hist:=⟨ZcS n,[],some ⟨n+2,0,none⟩,3,none,0⟩
theorem ZlB {W:World} {n:Nat} {t1 t2 t3 t4:TypeId} (b1:Blk W n t1 [.bool false,.int .i64 5,.int .i64 0,.int .i64 0]) (b2:Blk W (n+1) t1 [.bool true,.int .i64 5,.int .i64 0,.int .i64 0])
  (b3:Blk W (n+2) t2 [.int .i64 1,.bool true,.slice (some ⟨n,0,none⟩) 1 1,.int .i64 2,.bool true,.slice (some ⟨n+1,0,none⟩) 1 1,.int .i64 3,.bool false,.slice none 0 0])
  (b4:Blk W (n+3) t3 [.int .i64 1]) (b5:Blk W (n+4) t4 [.int .i64 5,.slice (some ⟨n+3,0,none⟩) 1 1]):
  (h45 n).lies (fun _=>True) W:=by
 have h3:∀(l:List HTx),∀r∈l.map HTx.cells,r.length=3:=fun l r hr=>by
  obtain⟨e,_,rfl⟩:=List.mem_map.1 hr;rfl
 have h2:∀(l:List HOrd),∀r∈l.map HOrd.cells,r.length=2:=fun l r hr=>by
  obtain⟨e,_,rfl⟩:=List.mem_map.1 hr;rfl
 refine⟨(ZaO (h3 _) b3).weak fun _ _ _=>trivial,(ZaO (h2 _) b5).weak fun _ _ _=>trivial,?_,?_,by simp[h45,ZcS],by simp[h45,Zjb],by simp[h45,ZcS],by simp[h45,Zjb]⟩
 ·intro t ht;simp only[h45,ZcS,List.mem_cons,List.not_mem_nil,or_false]at ht;rcases ht with rfl|rfl|rfl
  ·refine⟨Recs.weak (ZaO ZbY b1) fun _ _ _=>trivial,by simp,by unfold Zh;simp,by unfold i64;simp,?_⟩;intro o ho;simp only[List.mem_cons,List.not_mem_nil,or_false]at ho;subst ho;unfold HOp.ok i64;decide
  ·refine⟨Recs.weak (ZaO ZbY b2) fun _ _ _=>trivial,by simp,by unfold Zh;simp,by unfold i64;simp,?_⟩;intro o ho;simp only[List.mem_cons,List.not_mem_nil,or_false]at ho;subst ho;unfold HOp.ok i64;decide
  ·exact⟨fun h=>absurd rfl h,by simp,by unfold Zh;simp,by unfold i64;simp,fun o ho=>by cases ho⟩
 ·intro o ho;simp only[h45,Zjb,List.mem_cons,List.not_mem_nil,or_false]at ho;subst ho;refine⟨Ints.weak (Zbw (xs:=[1]) b4) fun _ _ _=>trivial,by simp,by simp,by unfold i64;simp,?_⟩;intro m hm;simp only[List.mem_cons,List.not_mem_nil,or_false]at hm;subst hm;unfold i64;simp
theorem Zks {W:World} {n:Nat} (h:(h45 n).lies (fun _=>True) W):(ZfS n).lies (fun _=>True) W:=
 ⟨h.txs,fun h=>absurd rfl h,h.tx,(fun o ho=>by simp[ZfS]at ho),h.c,Nat.le_refl _,h.few,by simp[ZfS]⟩
section
variable {F G:Nat→Prop} {w:World} {txs:List HTx} {ords:List HOrd} {A:Option Addr} {c:Nat} {B:Option Addr} {d n m p:Nat}
theorem Zei (H:Hist.lies F w ⟨txs,ords,A,c,B,d⟩) (hl:Zv ⟨txs,ords,A,c,B,d⟩=true) (hn:txs.length=n) (hm:ords.length=m) {a:List Int} {k:Int} (ho:ZbU ⟨txs,ords,A,c,B,d⟩=(a,k)) (hp:a.length=p):
  Calls Tryz.prog 31 #[.agg #[.slice A n c,.slice B m d]] w fun e w'=>∃A' c',e= .returned (.tuple #[.slice A' p c',.int .i64 k])∧Ints (fun i=>w.heap.size≤i) w' A' a∧Upd No w w':=by
 subst hn hm hp;refine(Znh F w txs ords A c B d H hl).mono ?_;rw[ho];rintro e w' ⟨A',c',rfl,h1,h2⟩;exact⟨A',c',rfl,Ints.of_owned h1,h2⟩
theorem Zni (H:Hist.lies F w ⟨txs,ords,A,c,B,d⟩) (hn:txs.length=n) (hm:ords.length=m) {a:List Int} (ho:Zd txs=a) (hp:a.length=p):
  Calls Tryz.prog 34 #[.agg #[.slice A n c,.slice B m d]] w fun e w'=>∃A' c',e= .returned (.slice A' p c')∧Ints (fun i=>w.heap.size≤i) w' A' a∧Upd No w w':=by
 subst hn hm hp ho;refine(ZgN F w txs ords A c B d H).mono ?_;rintro e w' ⟨A',c',rfl,h1,h2⟩;exact⟨A',c',rfl,Ints.of_owned h1,h2⟩
theorem Zc8 {E:Option Addr} {ec:Nat} {O:List Int} (H:Hist.lies F w ⟨txs,ords,A,c,B,d⟩) (HE:Ints G w E O) (hlO:O.length≤100000) (hn:txs.length=n) (hm:ords.length=m) (hp:O.length=p) {v:Bool} (hv:Zbo ⟨txs,ords,A,c,B,d⟩ O=v):
  Calls Tryz.prog 36 #[.agg #[.slice A n c,.slice B m d],.slice E p ec] w fun e w'=>e= .returned (.bool v)∧Upd No w w':=by
 subst hn hm hp;exact Zia F G w txs ords A c B d E ec O H HE hlO hv
theorem Zh9 {E:Option Addr} {ec q:Nat} {O:List Int} (H:Hist.lies F w ⟨txs,ords,A,c,B,d⟩) (HE:Ints G w E O) (hlO:O.length≤1000) (hops:∀t∈txs,t.ops.length≤1000) (hn:txs.length=n) (hm:ords.length=m) (hp:O.length=p) {l:List (Int×Int)} (hv:Zbm txs O=l) (hq:l.length=q):
  Calls Tryz.prog 39 #[.agg #[.slice A n c,.slice B m d],.slice E p ec] w fun e w'=>∃A' c',e= .returned (.slice A' q c')∧Pairs (fun i=>w.heap.size≤i) w' A' l∧Upd No w w':=by
 subst hn hm hp hv hq;refine(ZjM F G w txs ords A c B d E ec O H HE hlO hops).mono ?_;rintro e w' ⟨A',c',rfl,h1,h2⟩;exact⟨A',c',rfl,Pairs.of_own h1,h2⟩
theorem Ze3 {A B:Option Addr} {c d:Nat} {xs ys:List Int} (hx:Ints F w A xs) (hy:Ints G w B ys) (hl:xs.length≤1048576) (hl2:ys.length≤1048576) (hn:xs.length=n) (hm:ys.length=m) {v:Bool} (hv:(xs==ys)=v):
  Calls Tryz.prog 33 #[.slice A n c,.slice B m d] w fun e w'=>e= .returned (.bool v)∧Upd No w w':=by
 subst hn hm hv;exact ZiI w F G A B c d xs ys hx hy hl hl2
theorem Zh8 {A B:Option Addr} {c d:Nat} {xs ys:List (Int×Int)} (hx:Pairs F w A xs) (hy:Pairs G w B ys) (hl:xs.length≤1000000) (hn:xs.length=n) (hm:ys.length=m) {v:Bool} (hv:(xs==ys)=v):
  Calls Tryz.prog 38 #[.slice A n c,.slice B m d] w fun e w'=>e= .returned (.bool v)∧Upd No w w':=by
 subst hn hm;exact Zmt F G w A B c d xs ys hx hy hl hv
end
section
variable (n:Nat)
theorem ZoW:ZbU (Zak n)=([],16):=by kernel_rfl
theorem ZoV:Zv (h45 n)=true:=by kernel_rfl
theorem ZoU:ZbU (h45 n)=([2,1],0):=by kernel_rfl
theorem ZoT:Zv (ZfS n)=true:=by kernel_rfl
theorem ZoS:ZbU (ZfS n)=([],5):=by kernel_rfl
theorem ZoR:Zd (ZcS n)=[1,2]:=by kernel_rfl
theorem ZoQ:Zbo (h45 n) [2,1]=true:=by kernel_rfl
theorem ZoP:Zbo (h45 n) [1,2]=false:=by kernel_rfl
theorem ZoO:Zbo (h45 n) [2]=false:=by kernel_rfl
theorem ZoN:Zbo (ZfS n) [2,1]=false:=by kernel_rfl
theorem ZoM:Zbm (ZcS n) [2,1]=[(5,1)]:=by kernel_rfl
theorem ZoL:Zbm (ZcS n) []=[]:=by kernel_rfl
theorem Znj:∀t∈ZcS n,t.ops.length≤1000:=by
 intro t ht;simp only[ZcS,List.mem_cons,List.not_mem_nil,or_false]at ht;rcases ht with rfl|rfl|rfl<;>simp
end
theorem Zj6 {W:World} {e:TypeId} (a b:Int):Pairs (fun _=>True) (W.alloc (.cells #[.int .i64 a,.int .i64 b] e)) (some ⟨W.heap.size,0,none⟩) [(a,b)]:=
 Recs.weak (ZaO (rows:=[[Value.int .i64 a,.int .i64 b]]) (fun r hr=>by rw[List.mem_singleton.1 hr];rfl) (Blk.new W e [.int .i64 a,.int .i64 b])) (fun _ _ _=>trivial)
set_option maxRecDepth 100000 in
set_option maxHeartbeats 8000000 in
theorem ZmH (w:World):Calls Tryz.prog 30 #[] w fun e w'=>e= .returned (.bool true)∧Upd No w w':=by
 go_enter Tryz.func30,Tryz.ntmps30
 go_wp2_with fail
 refine(Zn8 _).mono ?_;rintro e w1 ⟨N,rfl,hs1,hu1⟩;have C2:=Qh (Zei (c:=2) (d:=2) (n:=2) (m:=2) hs1 (ph0 N) rfl rfl (ZoW N) rfl);clear hs1
 go_wp2_with fail
 refine(C2.out).mono ?_;rintro e w2 ⟨A2,c2,rfl,_,hu2⟩;obtain⟨n,hn⟩:∃n,w2.heap.size=n:=⟨_,rfl⟩;obtain⟨wa,hwa⟩:∃wa,w2.alloc (.cells #[.bool false,.int .i64 5,.int .i64 0,.int .i64 0] 82)=wa:=⟨_,rfl⟩;have sa:wa.heap.size=n+1:=by rw[←hwa,←hn];simp
 obtain⟨wb,hwb⟩:∃wb,wa.alloc (.cells #[.bool true,.int .i64 5,.int .i64 0,.int .i64 0] 82)=wb:=⟨_,rfl⟩;have sb:wb.heap.size=n+2:=by rw[←hwb];simp[sa]
 obtain⟨wc,hwc⟩:∃wc,wb.alloc (.cells #[.int .i64 1,.bool true,.slice (some ⟨n,0,none⟩) 1 1,.int .i64 2,.bool true,.slice (some ⟨n+1,0,none⟩) 1 1,.int .i64 3,.bool false,.slice none 0 0] 85)=wc:=⟨_,rfl⟩;have sc:wc.heap.size=n+3:=by rw[←hwc];simp[sb]
 obtain⟨wd,hwd⟩:∃wd,wc.alloc (.cells #[.int .i64 1] 3)=wd:=⟨_,rfl⟩;have sd:wd.heap.size=n+4:=by rw[←hwd];simp[sc]
 obtain⟨we,hwe⟩:∃we,wd.alloc (.cells #[.int .i64 5,.slice (some ⟨n+3,0,none⟩) 1 1] 102)=we:=⟨_,rfl⟩;have se:we.heap.size=n+5:=by rw[←hwe];simp[sd]
 obtain⟨wf,hwf⟩:∃wf,we.alloc (.cells #[.slice (some ⟨n+2,0,none⟩) 3 3,.slice (some ⟨n+4,0,none⟩) 1 1] 50)=wf:=⟨_,rfl⟩;have ua:Upd No w2 wa:=by rw[←hwa];exact(Upd.refl No w2).alloc _
 have ub:Upd No wa wb:=by rw[←hwb];exact(Upd.refl No wa).alloc _
 have uc:Upd No wb wc:=by rw[←hwc];exact(Upd.refl No wb).alloc _
 have ud:Upd No wc wd:=by rw[←hwd];exact(Upd.refl No wc).alloc _
 have ue:Upd No wd we:=by rw[←hwe];exact(Upd.refl No wd).alloc _
 have uf:Upd No we wf:=by rw[←hwf];exact(Upd.refl No we).alloc _
 have ba:Blk wf n 82 [.bool false,.int .i64 5,.int .i64 0,.int .i64 0]:=(by rw[←hwa,←hn];exact Blk.new w2 _ _:Blk wa n _ _).upd ((((ub.trans uc).trans ud).trans ue).trans uf) id;have bb:Blk wf (n+1) 82 [.bool true,.int .i64 5,.int .i64 0,.int .i64 0]:=(by rw[←hwb,←sa];exact Blk.new wa _ _:Blk wb (n+1) _ _).upd (((uc.trans ud).trans ue).trans uf) id;have bc:Blk wf (n+2) 85 [.int .i64 1,.bool true,.slice (some ⟨n,0,none⟩) 1 1,.int .i64 2,.bool true,.slice (some ⟨n+1,0,none⟩) 1 1,.int .i64 3,.bool false,.slice none 0 0]:=(by rw[←hwc,←sb];exact Blk.new wb _ _:Blk wc (n+2) _ _).upd ((ud.trans ue).trans uf) id;have bd:Blk wf (n+3) 3 [.int .i64 1]:=(by rw[←hwd,←sc];exact Blk.new wc _ _:Blk wd (n+3) _ _).upd (ue.trans uf) id;have be:Blk wf (n+4) 102 [.int .i64 5,.slice (some ⟨n+3,0,none⟩) 1 1]:=(by rw[←hwe,←sd];exact Blk.new wd _ _:Blk we (n+4) _ _).upd uf id;have bf:Blk wf (n+5) 50 [.slice (some ⟨n+2,0,none⟩) 3 3,.slice (some ⟨n+4,0,none⟩) 1 1]:=by rw[←hwf,←se];exact Blk.new we _ _
 have HH:=Qh (ZlB ba bb bc bd be);have HN:=Qh (Zks HH.out);have h0:∀W,Upd No wf W→W.cell? ⟨n+5,0,none⟩=some (.slice (some ⟨n+2,0,none⟩) 3 3):=fun W u=>(bf.upd u id).cell 0
 have h1:∀W,Upd No wf W→W.cell? ⟨n+5,1,none⟩=some (.slice (some ⟨n+4,0,none⟩) 1 1):=fun W u=>(bf.upd u id).cell 1
 have hff:Upd No wf wf:=Upd.refl _ _;have UF:=Qh ((((((((hu1.trans hu2).trans ua).trans ub).trans uc).trans ud).trans ue).trans uf));have CO:=Qh (fun W (u:Upd No wf W)=>Zei (c:=3) (d:=1) (HH.out.upd u (fun _ _=>id)) (ZoV n) (n:=3) (m:=1) rfl rfl (ZoU n) (p:=2) rfl);have CP:=Qh (fun W (u:Upd No wf W)=>Zei (c:=3) (d:=0) (HN.out.upd u (fun _ _=>id)) (ZoT n) (n:=3) (m:=0) rfl rfl (ZoS n) (p:=0) rfl);have CD:=Qh (fun W (u:Upd No wf W)=>Zni (c:=3) (d:=1) (HH.out.upd u (fun _ _=>id)) (n:=3) (m:=1) rfl rfl (ZoR n) (p:=2) rfl);clear ba bb bc bd be bf hu1 hu2 ua ub uc ud ue uf C2
 go_wp2_with fail
 clear hwa hwb hwc hwd hwe hwf;refine(CO.out _ hff).mono ?_;rintro e w3 ⟨A3,c3,rfl,hi3,hu3⟩;have u3:=hff.trans hu3;have H3:=Qh hi3;clear hi3 hu3 CO
 go_wp2_with fail
 refine(CP.out _ u3).mono ?_;rintro e w4 ⟨A4,c4,rfl,_,hu4⟩;have H4:=Qh (H3.out.upd hu4 (fun _ _=>id));have u4:=u3.trans hu4;clear hu4 H3 CP u3;have k1:Upd No w4 (w4.alloc (.cells #[.int .i64 2,.int .i64 1] 3)):=(Upd.refl No w4).alloc _;have C5:=Qh (Ze3 (c:=c3) (d:=2) (v:=true) (H4.out.upd k1 (fun _ _=>id)) (Zbw (xs:=[2,1]) (Blk.new w4 3 [.int .i64 2,.int .i64 1])) (by decide) (by decide) (n:=2) (m:=2) rfl rfl (by decide))
 go_wp2_with fail
 refine(C5.out).mono ?_;rintro e w5 ⟨rfl,hu5⟩;have H5:=Qh (H4.out.upd (k1.trans hu5) (fun _ _=>id));have u5:=u4.trans (k1.trans hu5);clear k1 hu5 H4 u4 C5
 go_wp2_with fail
 refine(CD.out _ u5).mono ?_;rintro e w6 ⟨A6,c6,rfl,hi6,hu6⟩;have k2:Upd No w6 (w6.alloc (.cells #[.int .i64 1,.int .i64 2] 3)):=(Upd.refl No w6).alloc _;have C7:=Qh (Ze3 (c:=c6) (d:=2) (v:=true) (hi6.upd k2 (fun _ _=>id)) (Zbw (xs:=[1,2]) (Blk.new w6 3 [.int .i64 1,.int .i64 2])) (by decide) (by decide) (n:=2) (m:=2) rfl rfl (by decide))
 go_wp2_with fail
 refine(C7.out).mono ?_;rintro e w7 ⟨rfl,hu7⟩;have H7:=Qh (H5.out.upd (hu6.trans (k2.trans hu7)) (fun _ _=>id));have u7:=u5.trans (hu6.trans (k2.trans hu7));clear k2 hu6 hu7 hi6 H5 u5 C7 CD;have C8:=Qh (Zc8 (c:=3) (d:=1) (ec:=c3) (HH.out.upd u7 (fun _ _=>id)) H7.out (by decide) (n:=3) (m:=1) (p:=2) rfl rfl rfl (ZoQ n))
 go_wp2_with fail
 refine(C8.out).mono ?_;rintro e w8 ⟨rfl,hu8⟩;have H8:=Qh (H7.out.upd hu8 (fun _ _=>id));have u8:=u7.trans hu8;clear hu8 H7 u7 C8;have k3:Upd No w8 (w8.alloc (.cells #[.int .i64 1,.int .i64 2] 3)):=(Upd.refl No w8).alloc _;have k3':=u8.trans k3;have C9:=Qh (Zc8 (c:=3) (d:=1) (ec:=2) (HH.out.upd k3' (fun _ _=>id)) (Zbw (xs:=[1,2]) (Blk.new w8 3 [.int .i64 1,.int .i64 2])) (by decide) (n:=3) (m:=1) (p:=2) rfl rfl rfl (ZoP n))
 go_wp2_with fail
 refine(C9.out).mono ?_;rintro e w9 ⟨rfl,hu9⟩;have H9:=Qh (H8.out.upd (k3.trans hu9) (fun _ _=>id));have u9:=u8.trans (k3.trans hu9);clear hu9 H8 u8 C9 k3 k3';have k4:Upd No w9 (w9.alloc (.cells #[.int .i64 2] 3)):=(Upd.refl No w9).alloc _;have k4':=u9.trans k4;have C10:=Qh (Zc8 (c:=3) (d:=1) (ec:=1) (HH.out.upd k4' (fun _ _=>id)) (Zbw (xs:=[2]) (Blk.new w9 3 [.int .i64 2])) (by decide) (n:=3) (m:=1) (p:=1) rfl rfl rfl (ZoO n))
 go_wp2_with fail
 refine(C10.out).mono ?_;rintro e w10 ⟨rfl,hu10⟩;have H10:=Qh (H9.out.upd (k4.trans hu10) (fun _ _=>id));have u10:=u9.trans (k4.trans hu10);clear hu10 H9 u9 C10 k4 k4';have C11:=Qh (Zc8 (c:=3) (d:=0) (ec:=c3) (HN.out.upd u10 (fun _ _=>id)) H10.out (by decide) (n:=3) (m:=0) (p:=2) rfl rfl rfl (ZoN n))
 go_wp2_with fail
 refine(C11.out).mono ?_;rintro e w11 ⟨rfl,hu11⟩;have H11:=Qh (H10.out.upd hu11 (fun _ _=>id));have u11:=u10.trans hu11;clear hu11 H10 u10 C11;have C12:=Qh (Zh9 (c:=3) (d:=1) (ec:=c3) (HH.out.upd u11 (fun _ _=>id)) H11.out (by decide) (Znj n) (n:=3) (m:=1) (p:=2) rfl rfl rfl (ZoM n) (q:=1) rfl)
 go_wp2_with fail
 refine(C12.out).mono ?_;rintro e w12 ⟨A12,c12,rfl,hp12,hu12⟩;have k5:Upd No w12 (w12.alloc (.cells #[.int .i64 5,.int .i64 1] 121)):=(Upd.refl No w12).alloc _;have C13:=Qh (Zh8 (c:=c12) (d:=1) (v:=true) (Recs.upd hp12 k5 (fun _ _=>id)) (Zj6 (W:=w12) (e:=121) 5 1) (by decide) (n:=1) (m:=1) rfl rfl (by decide));have u12:=u11.trans hu12;clear hp12 hu12 u11 C12 H11
 go_wp2_with fail
 refine(C13.out).mono ?_;rintro e w13 ⟨rfl,hu13⟩;have u13:=u12.trans (k5.trans hu13);clear hu13 u12 k5 C13;have C14:=Qh (Zh9 (G:=fun _=>True) (c:=3) (d:=1) (E:=none) (ec:=0) (O:=[]) (HH.out.upd u13 (fun _ _=>id)) Ints.nil_ (by decide) (Znj n) (n:=3) (m:=1) (p:=0) rfl rfl rfl (ZoL n) (q:=0) rfl)
 go_wp2_with fail
 refine(C14.out).mono ?_;rintro e w14 ⟨A14,c14,rfl,_,hu14⟩;go_wp2
 go_ret
 exact⟨rfl,UF.out.trans (u13.trans hu14)⟩
end
/- Orders as if one by one:the laws:the walks. -/
section
open Go.RowKit
theorem Zgp {h:Hist} (hl:Zv h=true):(∀t∈h.txs,t.ops.length≤1000)∧(∀o∈h.ords,o.txs.length≤1000000)∧(Zd h.txs).length≤12:=by
 unfold Zv at hl;simp only[Bool.and_eq_true,decide_eq_true_eq,List.all_eq_true]at hl;refine⟨fun t ht=>Nat.le_trans (hl.1.2 t ht) (by decide),fun o ho=>Nat.le_trans (hl.2 o ho) (by decide),?_⟩;unfold Zd;rw[List.length_map];exact Nat.le_trans (List.length_filter_le _ _) hl.1.1.1
theorem ZmB {h:Hist} (hl:Zv h=true):(ZbU h).1.length≤1000:=by
 unfold ZbU
 split
 ·have h1:=(Zgp hl).2.2
  cases ho:Zbk (Zd h.txs) (ZW (ZD h))with
  |none=>exact Nat.zero_le _
  |some l=>
   have hn:=ZiN ho;have hm:=fun x=>Zlh ho x
   exact Nat.le_trans (ZdC l (Zd h.txs) hn fun x hx=>(hm x).1 hx) (Nat.le_trans h1 (by decide))
 ·exact Nat.zero_le _
section
variable {F G:Nat→Prop} {w:World} {txs:List HTx} {ords:List HOrd} {A:Option Addr} {c:Nat} {B:Option Addr} {d:Nat}
theorem ZnC (H:Hist.lies F w ⟨txs,ords,A,c,B,d⟩) (hl:Zv ⟨txs,ords,A,c,B,d⟩=true) {a:List Int} {k:Int} (ho:ZbU ⟨txs,ords,A,c,B,d⟩=(a,k)):
  Calls Tryz.prog 31 #[.agg #[.slice A txs.length c,.slice B ords.length d]] w fun e w'=>∃A' c',e= .returned (.tuple #[.slice A' a.length c',.int .i64 k])∧Ints (fun i=>w.heap.size≤i) w' A' a∧Upd No w w':=Zei H hl rfl rfl ho rfl
theorem ZnD (H:Hist.lies F w ⟨txs,ords,A,c,B,d⟩) (hl:Zv ⟨txs,ords,A,c,B,d⟩=true) {a:List Int} {k:Int} (ho:ZbU ⟨txs,ords,A,c,B,d⟩=(a,k)):
  Calls Tryz.prog 32 #[.agg #[.slice A txs.length c,.slice B ords.length d]] w fun e w'=>∃A' c',e= .returned (.tuple #[.slice A' a.length c',.int .i64 k])∧Ints (fun i=>w.heap.size≤i) w' A' a∧Upd No w w':=by
 refine(Zk3 F w txs ords A c B d H hl).mono ?_;rw[ho];rintro e w' ⟨A',c',rfl,h1,h2⟩;exact⟨A',c',rfl,Ints.of_owned h1,h2⟩
end
set_option maxRecDepth 100000 in
set_option maxHeartbeats 16000000 in
theorem Zmm (F G:Nat→Prop) (w:World) (txs:List HTx) (ords:List HOrd) (A:Option Addr) (c:Nat) (B:Option Addr) (d:Nat) (E:Option Addr) (ec:Nat) (O:List Int) (H:Hist.lies F w ⟨txs,ords,A,c,B,d⟩) (HE:Ints G w E O) (hec:O.length≤ec)
  (L:Hid (∀w,Calls Tryz.prog 30 #[] w fun e w'=>e= .returned (.bool true)∧Upd No w w')):
  Calls Tryz.prog 6 #[.agg #[.slice A txs.length c,.slice B ords.length d],.slice E O.length ec] w fun e w'=>e= .returned (.bool true)∧Upd No w w':=by
 obtain⟨wb,hwb⟩:∃wb,w.alloc (.cells #[.slice A txs.length c,.slice B ords.length d] 50)=wb:=⟨_,rfl⟩;have ub:Upd No w wb:=by rw[←hwb];exact(Upd.refl No w).alloc _
 have bH:Blk wb w.heap.size 50 [.slice A txs.length c,.slice B ords.length d]:=by rw[←hwb];exact Blk.new w _ _
 have h0:∀W,Upd No wb W→W.cell? ⟨w.heap.size,0,none⟩=some (.slice A txs.length c):=fun W u=>(bH.upd u id).cell 0
 have h1:∀W,Upd No wb W→W.cell? ⟨w.heap.size,1,none⟩=some (.slice B ords.length d):=fun W u=>(bH.upd u id).cell 1
 have hr:Upd No wb wb:=Upd.refl _ _;have U0:=Qh ub;have GH:=Qh (H.upd ub (fun _ _=>id));obtain⟨lv,hlv⟩:∃lv,Zv ⟨txs,ords,A,c,B,d⟩=lv:=⟨_,rfl⟩;have HV:=Qh hlv;have CL:=Qh (fun W (u:Upd No wb W)=>ZmJ (GH.out.upd u (fun _ _=>id)) hlv);clear bH ub hlv;have GE:=Qh (HE.upd U0.out (fun _ _=>id));have HEC:=Qh hec;clear H HE hec
 go_enter Tryz.func6,Tryz.ntmps6
 go_wp2_with fail
 refine(CL.out _ hr).mono ?_;rintro e w2 ⟨rfl,hu2⟩;have u2:=hr.trans hu2
 cases lv
 ·go_wp2_with fail
  refine(L.out _).mono ?_;rintro e w3 ⟨rfl,hu3⟩;go_wp2
  go_ret
  exact⟨rfl,U0.out.trans (u2.trans hu3)⟩
 by_cases g2:24<O.length
 ·have e2:decide ((24:Int)<(O.length:Int))=true:=decide_eq_true (by omega)
  go_wp2_with fail
  refine(L.out _).mono ?_;rintro e w3 ⟨rfl,hu3⟩;go_wp2
  go_ret
  exact⟨rfl,U0.out.trans (u2.trans hu3)⟩
 have e2:decide ((24:Int)<(O.length:Int))=false:=decide_eq_false (by omega);have G2:=Qh (show O.length≤24 by omega);obtain⟨⟨P,k⟩,hO⟩:∃o,ZbU ⟨txs,ords,A,c,B,d⟩=o:=⟨_,rfl⟩;have HOL:=Qh (show P.length≤1000 by have:=ZmB HV.out;rwa [hO]at this);have CO:=Qh (fun W (u:Upd No wb W)=>ZnC (GH.out.upd u (fun _ _=>id)) HV.out hO);have CQ:=Qh (fun W (u:Upd No wb W)=>ZnD (GH.out.upd u (fun _ _=>id)) HV.out hO);have hop:=Zgp HV.out;obtain⟨D,hD⟩:∃D,Zd txs=D:=⟨_,rfl⟩;obtain⟨FS,hFS⟩:∃FS,Zbm txs O=FS:=⟨_,rfl⟩;obtain⟨av,hav⟩:∃av,Zbo ⟨txs,ords,A,c,B,d⟩ O=av:=⟨_,rfl⟩;have CD1:=Qh (fun W (u:Upd No wb W)=>ZgN _ W txs ords A c B d (GH.out.upd u (fun _ _=>id)));have CD2:=Qh (fun W (u:Upd No wb W)=>ZfI _ W txs ords A c B d (GH.out.upd u (fun _ _=>id)));have CA1:=Qh (fun W (u:Upd No wb W)=>Zia _ _ W txs ords A c B d E ec O (GH.out.upd u (fun _ _=>id)) (GE.out.upd u (fun _ _=>id)) (Nat.le_trans G2.out (by decide)) hav);have CA2:=Qh (fun W (u:Upd No wb W)=>Zj2 _ _ W txs ords A c B d E ec O (GH.out.upd u (fun _ _=>id)) (GE.out.upd u (fun _ _=>id)) (Nat.le_trans G2.out (by decide)) HEC.out hop.2.1 (Nat.le_trans hop.2.2 (by decide)) (show Zeg ⟨txs,ords,A,c,B,d⟩ O=av by rw[←ZkG];exact hav));have CF1:=Qh (fun W (u:Upd No wb W)=>ZjM _ _ W txs ords A c B d E ec O (GH.out.upd u (fun _ _=>id)) (GE.out.upd u (fun _ _=>id)) (Nat.le_trans G2.out (by decide)) hop.1);have CF2:=Qh (fun W (u:Upd No wb W)=>Zk5 _ _ W txs ords A c B d E ec O (GH.out.upd u (fun _ _=>id)) (GE.out.upd u (fun _ _=>id)) (Nat.le_trans G2.out (by decide)) hop.1)
 have HDL:=Qh (show D.length≤12 by rw[←hD];exact hop.2.2)
 have HFL:=Qh (show FS.length≤1000000 by
  rw[←hFS];unfold Zbm;rw[List.length_map]
  have h3:=Zb5 txs O [] (n:=1000) (fun id _=>by
   unfold ZJ
   cases hf:Ze txs id with
   |none=>exact Nat.zero_le _
   |some t=>exact hop.1 t (Za8 hf))
  simp only[List.length_nil,Nat.zero_add]at h3;have:=Nat.mul_le_mul_left 1000 G2.out;omega)
 rw[hD]at CD1 CD2;rw[hFS]at CF1 CF2;clear hO hop hD hFS hav g2 hu2 CL
 go_wp2_with fail
 refine(CO.out _ u2).mono ?_;rintro e w3 ⟨A3,c3,rfl,hi3,hu3⟩;have u3:=u2.trans hu3;have HI3:=Qh hi3;clear hi3 hu3 u2 CO
 go_wp2_with fail
 refine(CQ.out _ u3).mono ?_;rintro e w4 ⟨A4,c4,rfl,hi4,hu4⟩;have u4:=u3.trans hu4;have HI4:=Qh hi4;have HI34:=Qh (HI3.out.upd hu4 (fun _ _=>id));clear hi4 hu4 u3 CQ HI3;have CS:=Qh (fun W (u:Upd No w4 W)=>Ze3 (c:=c3) (d:=c4) (v:=true) (HI34.out.upd u (fun _ _=>id)) (HI4.out.upd u (fun _ _=>id)) (Nat.le_trans HOL.out (by decide)) (Nat.le_trans HOL.out (by decide)) rfl rfl (by simp));have q1:(k==k)=true:=by simp
 have q2:(av==av)=true:=by simp
 have hb4:Upd No w4 w4:=Upd.refl _ _;have k0:∀W,Upd No w4 W→W.cell? ⟨w.heap.size,0,none⟩=some (.slice A txs.length c):=fun W u=>h0 W (u4.trans u)
 have k1:∀W,Upd No w4 W→W.cell? ⟨w.heap.size,1,none⟩=some (.slice B ords.length d):=fun W u=>h1 W (u4.trans u)
 go_wp2;refine wp_region_noPanic ?_;refine wp_region_held_drew (S:=(fun W'=>Upd No w4 W')) (by kernel_rfl) ?_ (fun hHeld=> ?_)
 ·(first|exact hb4.drew|(with_reducible exact hHeld)|(with_reducible exact hHeld.trans hux))
 refine wpK 0 rfl ?_;refine wpK 1 rfl ?_;refine wpK 2 rfl ?_;refine wpK 3 rfl ?_;refine wpK 4 rfl ?_;refine wpK 5 rfl ?_;refine wpR [6] ?_;refine wpC rfl (fun K hK=> ?_) AllReadyH.nil;go_simp
 (first
  |(go_at_call 33;refine(CS.out _ hHeld).mono ?_;rintro e w5 ⟨rfl,hux⟩))
 try (go_wp2_with fail)
 refine hK.out _ _ ?_ (fun hHeld=> ?_)
 ·(first|exact hb4.drew|(with_reducible exact hHeld)|(with_reducible exact hHeld.trans hux))
 clear hK K
 try simp only[Act.put,sT,sS,sZ]
 refine wpK 7 rfl ?_;refine wpK 8 rfl ?_;refine wpK 9 rfl ?_;refine wpK 11 rfl ?_;refine wpR [10] ?_;refine wpC rfl (fun K hK=> ?_) AllReadyH.nil;go_simp
 (first
  |(go_at_call 34;refine(CD1.out _ (u4.trans hHeld)).mono ?_;rintro e wp ⟨Ap,cp,rfl,hxp,hux⟩;(try have HQ2:=Qh (HQ2.out.upd hux (fun _ _=>id)));have HQ1:=Qh (show Ints (fun _=>True) wp Ap D from Ints.weak (Ints.of_owned hxp) (fun _ _ _=>trivial));clear hxp))
 try (go_wp2_with fail)
 refine hK.out _ _ ?_ (fun hHeld=> ?_)
 ·(first|exact hb4.drew|(with_reducible exact hHeld)|(with_reducible exact hHeld.trans hux))
 clear hK K
 try simp only[Act.put,sT,sS,sZ]
 refine wpR [12] ?_;refine wpC rfl (fun K hK=> ?_) AllReadyH.nil;go_simp
 (first
  |(go_at_call 35;refine(CD2.out _ (u4.trans hHeld)).mono ?_;rintro e wq ⟨Aq,cq,rfl,hxq,hux⟩;(try have HQ1:=Qh (HQ1.out.upd hux (fun _ _=>id)));have HQ2:=Qh (show Ints (fun _=>True) wq Aq D from Ints.weak (Ints.of_owned hxq) (fun _ _ _=>trivial));clear hxq))
 try (go_wp2_with fail)
 refine hK.out _ _ ?_ (fun hHeld=> ?_)
 ·(first|exact hb4.drew|(with_reducible exact hHeld)|(with_reducible exact hHeld.trans hux))
 clear hK K
 try simp only[Act.put,sT,sS,sZ]
 refine wpR [13] ?_;refine wpC rfl (fun K hK=> ?_) AllReadyH.nil;go_simp
 (first
  |(go_at_call 33;refine(Ze3 (c:=cp) (d:=cq) (v:=true) HQ1.out HQ2.out (Nat.le_trans HDL.out (by decide)) (Nat.le_trans HDL.out (by decide)) rfl rfl (by simp)).mono ?_;rintro e ws ⟨rfl,hux⟩;clear HQ1 HQ2))
 try (go_wp2_with fail)
 refine hK.out _ _ ?_ (fun hHeld=> ?_)
 ·(first|exact hb4.drew|(with_reducible exact hHeld)|(with_reducible exact hHeld.trans hux))
 clear hK K
 try simp only[Act.put,sT,sS,sZ]
 refine wpK 14 rfl ?_;refine wpK 15 rfl ?_;refine wpK 16 rfl ?_;refine wpK 17 rfl ?_;refine wpK 19 rfl ?_;refine wpK 20 rfl ?_;refine wpR [18] ?_;refine wpC rfl (fun K hK=> ?_) AllReadyH.nil;go_simp
 (first
  |(go_at_call 36;refine(CA1.out _ (u4.trans hHeld)).mono ?_;rintro e w6 ⟨rfl,hux⟩))
 try (go_wp2_with fail)
 refine hK.out _ _ ?_ (fun hHeld=> ?_)
 ·(first|exact hb4.drew|(with_reducible exact hHeld)|(with_reducible exact hHeld.trans hux))
 clear hK K
 try simp only[Act.put,sT,sS,sZ]
 refine wpR [21] ?_;refine wpC rfl (fun K hK=> ?_) AllReadyH.nil;go_simp
 (first
  |(go_at_call 37;refine(CA2.out _ (u4.trans hHeld)).mono ?_;rintro e w7 ⟨rfl,hux⟩))
 try (go_wp2_with fail)
 refine hK.out _ _ ?_ (fun hHeld=> ?_)
 ·(first|exact hb4.drew|(with_reducible exact hHeld)|(with_reducible exact hHeld.trans hux))
 clear hK K
 try simp only[Act.put,sT,sS,sZ]
 refine wpK 22 rfl ?_;refine wpK 23 rfl ?_;refine wpK 24 rfl ?_;refine wpK 25 rfl ?_;refine wpK 26 rfl ?_;refine wpK 28 rfl ?_;refine wpK 29 rfl ?_;refine wpR [27] ?_;refine wpC rfl (fun K hK=> ?_) AllReadyH.nil;go_simp
 (first
  |(go_at_call 39;refine(CF1.out _ (u4.trans hHeld)).mono ?_;rintro e wt ⟨At,ct,rfl,hxt,hux⟩;(try have HP2:=Qh (Recs.upd HP2.out hux (fun _ _=>id)));have HP1:=Qh (show Pairs (fun _=>True) wt At FS from Recs.weak (Pairs.of_own hxt) (fun _ _ _=>trivial));clear hxt))
 try (go_wp2_with fail)
 refine hK.out _ _ ?_ (fun hHeld=> ?_)
 ·(first|exact hb4.drew|(with_reducible exact hHeld)|(with_reducible exact hHeld.trans hux))
 clear hK K
 try simp only[Act.put,sT,sS,sZ]
 refine wpR [30] ?_;refine wpC rfl (fun K hK=> ?_) AllReadyH.nil;go_simp
 (first
  |(go_at_call 40;refine(CF2.out _ (u4.trans hHeld)).mono ?_;rintro e wv ⟨Av,cv,rfl,hxv,hux⟩;(try have HP1:=Qh (Recs.upd HP1.out hux (fun _ _=>id)));have HP2:=Qh (show Pairs (fun _=>True) wv Av FS from Recs.weak (Pairs.of_own hxv) (fun _ _ _=>trivial));clear hxv))
 try (go_wp2_with fail)
 refine hK.out _ _ ?_ (fun hHeld=> ?_)
 ·(first|exact hb4.drew|(with_reducible exact hHeld)|(with_reducible exact hHeld.trans hux))
 clear hK K
 try simp only[Act.put,sT,sS,sZ]
 refine wpR [31] ?_;refine wpC rfl (fun K hK=> ?_) AllReadyH.nil;go_simp
 (first
  |(go_at_call 38;refine(Zh8 (c:=ct) (d:=cv) (v:=true) HP1.out HP2.out HFL.out rfl rfl (by simp)).mono ?_;rintro e wx ⟨rfl,hux⟩;clear HP1 HP2))
 try (go_wp2_with fail)
 refine hK.out _ _ ?_ (fun hHeld=> ?_)
 ·(first|exact hb4.drew|(with_reducible exact hHeld)|(with_reducible exact hHeld.trans hux))
 clear hK K
 try simp only[Act.put,sT,sS,sZ]
 refine wpK 32 rfl ?_;refine wpK 33 rfl ?_;refine wpR [34] ?_;refine wpC rfl (fun K hK=> ?_) AllReadyH.nil;go_simp
 (first
  |(go_at_call 30;refine(L.out _).mono ?_;rintro e wy ⟨rfl,hux⟩))
 try (go_wp2_with fail)
 refine hK.out _ _ ?_ (fun hHeld=> ?_)
 ·(first|exact hb4.drew|(with_reducible exact hHeld)|(with_reducible exact hHeld.trans hux))
 clear hK K
 try simp only[Act.put,sT,sS,sZ]
 refine wpK 35 rfl ?_;refine wpK 36 rfl ?_;refine wpD (NoPanic.normal ?_);have HL:=Qh hHeld;clear hHeld;go_wp2
 go_ret
 exact⟨rfl,U0.out.trans (u4.trans HL.out)⟩
end
/- Orders as if one by one:all that the laws lean on. -/
section
open Go.RowKit
theorem Zkj {w:World} {A:Option Addr} {len cap:Nat} {zs:List Int} (h:(A=none∧len=0∧cap=0∧zs=[])∨∃x,A=some x∧len≤cap∧cap≤maxLen∧zs.length=cap∧(∀i,i<zs.length→w.cell? (x.add i)=some (.int .i64 (zs.getD i 0)))∧∀n∈zs,(Lit.int .i64 n).wf=true):∃l:List Int,Ints (fun _=>True) w A l∧l.length=len∧l.length≤cap:=by
 rcases h with ⟨rfl,rfl,rfl,rfl⟩|⟨ad,rfl,hl,hm,hz,hcell,_⟩
 ·exact⟨[],Ints.nil_,rfl,Nat.le_refl _⟩
 ·exact⟨zs.take len,(Ints.of_cells hcell).take,by rw[List.length_take];omega,by rw[List.length_take];omega⟩
end
end Go.Proofs.YtonblekdfinpkaaGreat
