/- Orders as if one by one: whether one agrees with a history (serial.Agrees). -/
import Derived.Test.YtonblekdfinpkaaGreatSyai
import Derived.Test.YtonblekdfinpkaaGreatSyak
import Derived.Test.YtonblekdfinpkaaGreatSybc
import Derived.Test.YtonblekdfinpkaaGreatSybf
import Derived.Test.YtonblekdfinpkaaGreatSybn
import Derived.Test.YtonblekdfinpkaaGreatSybq
import Derived.Test.YtonblekdfinpkaaGreatSybr
import Derived.Test.YtonblekdfinpkaaGreatSybv
import Derived.Test.YtonblekdfinpkaaGreatSybx
import Derived.Test.YtonblekdfinpkaaGreatSyby
namespace Go.Proofs.YtonblekdfinpkaaGreat
set_option linter.unusedVariables false
set_option linter.unusedSimpArgs false
section
open Go.RowKit
set_option maxRecDepth 100000 in
theorem Zon (F G:Nat→Prop) (w:World) (A B:Option Addr) (c d:Nat) (xs ys:List Int) (hx:Ints F w A xs) (hy:Ints G w B ys) (hl:xs.length≤17592186044415) (hl2:ys.length≤17592186044415) {v:Bool} (hv:(xs==ys)=v):
  Calls Tryz.prog 80 #[.slice A xs.length c,.slice B ys.length d] w fun e w'=>e= .returned (.bool v)∧Upd No w w':=by
 have CE:=Qh (Zkl F G w A B c d xs ys hx hy hl hl2);rw[hv]at CE;clear hx hy hv
 go_enter Tryz.func80,Tryz.ntmps80
 go_wp2_with fail
 refine(CE.out).mono ?_;rintro e w1 ⟨rfl,hu1⟩;go_wp2
 go_ret
 exact⟨rfl,hu1⟩
theorem ZnB (a b:List Int):Zde a b=ZaP a b:=by rw[Zhf,ZbS]
theorem Zmz {G:Nat→Prop} {w:World} {A:Option Addr} {l:List HOrd} (h:Recs G w A 2 (l.map HOrd.cells)) {k:Nat} (hk:k<l.length):∃ad,A=some ad∧
  w.cell? (ad.add (k*2))=some (.int .i64 l[k].key)∧w.cell? ⟨(ad.add (k*2)).block,(ad.add (k*2)).off+1,none⟩=some (.slice l[k].A l[k].txs.length l[k].c):=by
 have hk':k<(l.map HOrd.cells).length:=by simpa using hk
 obtain⟨ad,e,_,_,hc⟩:=Recs.at_ h hk';rw[List.getElem_map]at hc;exact⟨ad,e,by simpa using hc 0 _ rfl,by simpa using hc 1 _ rfl⟩
set_option maxRecDepth 100000 in
set_option maxHeartbeats 1000000 in
theorem ZoK (F:Nat→Prop) (w:World) (bx b2 base:Nat) (mw:List (Int×Value)) (g:Int→List Int) (hM:MapSl w base b2 mw g) (hbx:w.cell? ⟨bx,0,none⟩=some (.map (some b2))) (key:Int) (A:Option Addr) (c:Nat) (l:List Int) (ho:Ints F w A l)
  (hl:l.length≤17592186044415) (hg:(g key).length≤17592186044415) {v:Bool} (hv:(l==g key)= !v):
  Calls Tryz.prog 79 #[.agg #[.int .i64 key,.slice A l.length c],.pointer (some ⟨bx,0,none⟩)] w fun e w'=>e= .returned (.bool v)∧Upd No w w':=by
 obtain⟨wb,hwb⟩:∃wb,w.alloc (.cells #[.int .i64 key,.slice A l.length c] 102)=wb:=⟨_,rfl⟩;have ub:Upd No w wb:=by rw[←hwb];exact(Upd.refl No w).alloc _
 have bB:Blk wb w.heap.size 102 [.int .i64 key,.slice A l.length c]:=by rw[←hwb];exact Blk.new w _ _
 have c0:=bB.cell 0;have c1:=bB.cell 1;simp only[Qz,Qs]at c0 c1;have hbx2:wb.cell? ⟨bx,0,none⟩=some (.map (some b2)):=ub.keepNo hbx;have hM2:=hM.upd ub id (fun _ _ _=>id);obtain⟨Ak,ck,hrow,howk⟩:=hM2.row key;have e1:=Zi ZR Tryz.underlying125 ZcV hM2.is key;rw[hrow]at e1;have CS:=Qh (Zon F _ wb A Ak c ck l (g key) (ho.upd ub (fun _ _=>id)) (Ints.of_owned howk) hl hg hv);have UB:=Qh ub;obtain⟨n,hn⟩:∃n,(g key).length=n:=⟨_,rfl⟩;rw[hn]at e1 CS;clear ub bB hM hM2 hrow howk ho hbx hn hg hv
 go_enter Tryz.func79,Tryz.ntmps79
 go_wp2_with fail
 refine(CS.out).mono ?_;rintro e w1 ⟨rfl,hu1⟩;go_wp2
 go_ret
 exact⟨by simp,UB.out.trans hu1⟩
set_option maxRecDepth 100000 in
theorem ZmC {G:Nat→Prop} {w:World} {A:Option Addr} {d:Nat} {l:List HOrd} {bx:Nat} (L:Recs G w A 2 (l.map HOrd.cells)) (hl:l.length≤4398046511103) (pr:HOrd→Bool) (hc:Hid (∀x∈l,∀W,Upd No w W→Calls Tryz.prog 79 #[.agg #[.int .i64 x.key,.slice x.A x.txs.length x.c],.pointer (some ⟨bx,0,none⟩)] W fun e w'=>e= .returned (.bool (pr x))∧Upd No W w')):
  Calls Tryz.prog 158 #[.slice A l.length d,.func (.func 79) #[] #[.pointer (some ⟨bx,0,none⟩)]] w fun e w'=>e= .returned (.int .i64 (ZcT pr l))∧Upd No w w':=by
 go_enter Tryz.func158,Tryz.ntmps158
 go_wp2
 go_loopg [8] l.length (fun gk s wr=>∃k:Nat,k+gk=l.length∧s= .int .i64 (k:Int)∧Hid (∀(j:Nat) (hj:j<l.length),j<k→pr l[j]=false)∧Upd No w wr)
 case atStart=>exact⟨0,by omega,rfl,Qh (fun j _ hj=>by omega),Upd.refl _ _⟩
 case round=>
  obtain⟨k,hgk,rfl,hall,hu⟩:=hrel
  by_cases hlt:k<l.length
  ·have hxm:=List.getElem_mem hlt;obtain⟨ad,hAd,c0,c1⟩:=Zmz (Recs.upd L hu (fun _ _=>id)) hlt;obtain⟨x,hx⟩:∃x,l[k]=x:=⟨_,rfl⟩;have hn:=hc.out l[k] hxm wr hu;rw[hx]at c0 c1 hn;subst hAd;have X:=Qh hx;have b2:(k:Int)<(l.length:Int):=by omega
   have b1:(0:Int)≤(k:Int):=Qn _;have jw:IntKind.i64.wrap ((k:Int)+1)=(k:Int)+1:=IntWalk.i64_in _ (by omega);clear hx hxm;obtain⟨v,hv⟩:∃v,pr x=v:=⟨_,rfl⟩;rw[hv]at hn;have HN:=Qh hn;have HV:=Qh hv;clear hn hv
   cases v
   ·go_wp2_with fail
    refine(HN.out).mono ?_;rintro e w1 ⟨rfl,hu1⟩;go_wp2
    go_roundg (gk-1)
    case measure=>omega
    case rel=>exact⟨k+1,by omega,by go_num,Qh (fun j hj hjk=>by
      by_cases e:j=k
      ·subst e;rw[X.out];exact HV.out
      ·exact hall.out j hj (by omega)),hu.trans hu1⟩
   ·have hpos:=Qh (show ZcT pr l=(k:Int) from ZlD hlt (fun j hj=>hall.out j (by omega) hj) (by rw[X.out];exact HV.out))
    go_wp2_with fail
    refine(HN.out).mono ?_;rintro e w1 ⟨rfl,hu1⟩;go_wp2
    go_ret
    exact⟨by rw[hpos.out];rfl,hu.trans hu1⟩
  ·obtain rfl:k=l.length:=by omega
   have hpos:=Qh (show ZcT pr l= -1 from Zkt fun j hj=>hall.out j hj hj);go_wp2
   go_ret
   exact⟨by rw[hpos.out];rfl,hu⟩
set_option maxRecDepth 100000 in
theorem ZmD {G:Nat→Prop} {w:World} {A:Option Addr} {d:Nat} {l:List HOrd} {bx:Nat} (L:Recs G w A 2 (l.map HOrd.cells)) (hl:l.length≤4398046511103) (pr:HOrd→Bool) (hc:Hid (∀x∈l,∀W,Upd No w W→Calls Tryz.prog 79 #[.agg #[.int .i64 x.key,.slice x.A x.txs.length x.c],.pointer (some ⟨bx,0,none⟩)] W fun e w'=>e= .returned (.bool (pr x))∧Upd No W w')) {v:Bool} (hv:l.any pr=v):
  Calls Tryz.prog 78 #[.slice A l.length d,.func (.func 79) #[] #[.pointer (some ⟨bx,0,none⟩)]] w fun e w'=>e= .returned (.bool v)∧Upd No w w':=by
 have hq:=ZlE pr l;have HF:=Qh (ZmC (d:=d) L hl pr hc);obtain⟨i,hi⟩:∃i,ZcT pr l=i:=⟨_,rfl⟩;rw[hv,hi]at hq;rw[hi]at HF;clear hi hv;subst hq
 go_enter Tryz.func78,Tryz.ntmps78
 go_wp2_with fail
 refine(HF.out).mono ?_;rintro e w1 ⟨rfl,hu1⟩;go_wp2
 go_ret
 exact⟨rfl,hu1⟩
theorem Zg8 (txs:List HTx) (id:Int) (l:List Int) (f:Int→Option Ver):ZaS txs (id::l) f=(Zeh f (ZQ txs id)&&ZaS txs l (ZfK (ZQ txs id) f)):=rfl
theorem ZiA (txs:List HTx) {O:List Int} {k:Nat} {id:Int} (hk:k<O.length) (hx:O[k]=id) (key:Int):ZX txs (O.take (k+1)) key=ZX txs (O.take k) key++if key∈Zl (ZJ txs id) then [id] else []:=by
 unfold ZX;rw[List.take_succ_eq_append_getElem hk,List.filter_append,hx]
 congr 1
 rw[List.filter_cons,ZaZ]
 by_cases h:key∈Zl (ZJ txs id)
 ·rw[if_pos h,if_pos (decide_eq_true h)];rfl
 ·rw[if_neg h,if_neg (by simpa using h)];rfl
theorem Zf3 (txs:List HTx) (O:List Int) (key:Int):(ZX txs O key).length≤O.length:=List.length_filter_le _ _
set_option maxRecDepth 100000 in
set_option maxHeartbeats 16000000 in
theorem Zia (F G:Nat→Prop) (w:World) (txs:List HTx) (ords:List HOrd) (A:Option Addr) (c:Nat) (B:Option Addr) (d:Nat) (E:Option Addr) (ec:Nat) (O:List Int) (H:Hist.lies F w ⟨txs,ords,A,c,B,d⟩) (HE:Ints G w E O) (hlO:O.length≤100000) {v:Bool} (hv:Zbo ⟨txs,ords,A,c,B,d⟩ O=v):
  Calls Tryz.prog 36 #[.agg #[.slice A txs.length c,.slice B ords.length d],.slice E O.length ec] w fun e w'=>e= .returned (.bool v)∧Upd No w w':=by
 obtain⟨z,hz⟩:∃z,w.heap.size=z:=⟨_,rfl⟩;obtain⟨wb,hwb⟩:∃wb,w.alloc (.cells #[.slice A txs.length c,.slice B ords.length d] 50)=wb:=⟨_,rfl⟩;have ub:Upd No w wb:=by rw[←hwb];exact(Upd.refl No w).alloc _
 have bH:Blk wb z 50 [.slice A txs.length c,.slice B ords.length d]:=by rw[←hwb,←hz];exact Blk.new w _ _
 have h0:∀W,Upd No wb W→W.cell? ⟨z,0,none⟩=some (.slice A txs.length c):=fun W u=>(bH.upd u id).cell 0
 have h1:∀W,Upd No wb W→W.cell? ⟨z,1,none⟩=some (.slice B ords.length d):=fun W u=>(bH.upd u id).cell 1
 have hr:Upd No wb wb:=Upd.refl _ _;have U0:=Qh ub;have HZ:=Qh hz;have HSB:=Qh (show wb.heap.size=z+1 by rw[←hwb,←hz];simp);have BH:=Qh bH;have HLT:=H.lt;rw[hz]at HLT;have HEL:Ints (fun i=>i<z) w E O:=by have:=HE.lt;rwa [hz]at this
 have GH:=Qh (HLT.upd ub (fun _ _=>id));have GE:=Qh (HEL.upd ub (fun _ _=>id));obtain⟨r,hrr⟩:∃r,Za ⟨txs,ords,A,c,B,d⟩=r:=⟨_,rfl⟩;obtain⟨pb,hpb⟩:∃pb,ZaP O (Zd txs)=pb:=⟨_,rfl⟩;obtain⟨sv,hsv⟩:∃sv,ZaS txs O (fun _=>none)=sv:=⟨_,rfl⟩;obtain⟨av,hav⟩:∃av,(ords.all fun o=>o.txs==ZX txs O o.key)=av:=⟨_,rfl⟩;have hvv:(r&&(pb&&(sv&&av)))=v:=by rw[←hv];unfold Zbo;rw[hrr];simp only[hpb,hsv,hav]
 have CR:=Qh (fun W (u:Upd No wb W)=>Zio (GH.out.upd u (fun _ _=>id)) hrr);have CD:=Qh (fun W (u:Upd No wb W)=>ZgN _ W txs ords A c B d (GH.out.upd u (fun _ _=>id)));have HPB:=Qh (show Zde O (Zd txs)=pb by rw[ZnB];exact hpb);have HDL:=Qh (show(Zd txs).length≤4398046511103 by have:=H.few;simp only at this;unfold Zd;rw[List.length_map];exact Nat.le_trans (List.length_filter_le _ _) this);have HVV:=Qh hvv;have HAV:=Qh hav;have HSV:=Qh (show ZaS txs (O.drop 0) (ZM txs (O.take 0) (fun _=>none))=sv from hsv);have HOR:=Qh (fun o (ho:o∈ords)=>(H.ord o ho).2.2.1);have HFO:=Qh (show ords.length≤4398046511103 from H.fewo);have HLO:=Qh hlO;obtain⟨D,hD⟩:∃D,Zd txs=D:=⟨_,rfl⟩;rw[hD]at CD HPB HDL;clear bH H HE hv hrr hpb hsv hav hvv HLT HEL ub hD
 go_enter Tryz.func36,Tryz.ntmps36
 go_wp2_with fail
 refine(CR.out _ hr).mono ?_;rintro e w1 ⟨rfl,hu1⟩
 cases r
 ·have HVF:=Qh (show v=false by rw[←HVV.out];rfl);go_wp2
  go_ret
  exact⟨by rw[HVF.out];rfl,U0.out.trans hu1⟩
 go_wp2_with fail
 refine(CD.out _ hu1).mono ?_;rintro e w2 ⟨A2,c2,rfl,ho2,hu2⟩;have hu12:=hu1.trans hu2;have CP:=Qh (ZdL (c:=ec) (d:=c2) (GE.out.upd hu12 (fun _ _=>id)) (Ints.of_owned ho2) (Nat.le_trans HLO.out (by decide)) (Nat.le_trans HDL.out (by decide)) HPB.out);clear ho2 hu1 hu2
 go_wp2_with fail
 refine(CP.out).mono ?_;rintro e w3 ⟨rfl,hu3⟩;have hu13:=hu12.trans hu3
 cases pb
 ·have HVF:=Qh (show v=false by rw[←HVV.out];rfl);go_wp2
  go_ret
  exact⟨by rw[HVF.out];rfl,U0.out.trans hu13⟩
 have hmm:= @run_makeMap Tryz.prog;obtain⟨b1,hb1⟩:∃b1,w3.heap.size=b1:=⟨_,rfl⟩;obtain⟨wm1,hwm1⟩:∃wm1,w3.alloc (.map #[] 0)=wm1:=⟨_,rfl⟩;have sm1:wm1.heap.size=b1+1:=by rw[←hwm1,←hb1];simp
 obtain⟨wm2,hwm2⟩:∃wm2,wm1.alloc (.map #[] 0)=wm2:=⟨_,rfl⟩;have sm2:wm2.heap.size=b1+2:=by rw[←hwm2];simp[sm1]
 obtain⟨wc,hwc⟩:∃wc,wm2.alloc (.cells #[.map (some (b1+1))] 125)=wc:=⟨_,rfl⟩;have smc:wc.heap.size=b1+3:=by rw[←hwc];simp[sm2]
 have um1:Upd No w3 wm1:=by rw[←hwm1];exact(Upd.refl No w3).alloc _
 have um2:Upd No wm1 wm2:=by rw[←hwm2];exact(Upd.refl No wm1).alloc _
 have umc:Upd No wm2 wc:=by rw[←hwc];exact(Upd.refl No wm2).alloc _
 have HW0:=Qh (show WorldM wc b1 [] (fun _=>none) from((by rw[←hwm1,←hb1];exact WorldM.new w3:WorldM wm1 b1 [] (fun _=>none)).upd (um2.trans umc) id));have HS0:=Qh (show MapSl wc (b1+3) (b1+1) [] (fun _=>[]) from MapSl.new ((by rw[←hwm2,←sm1];exact MapIs.new wm1 _:MapIs wm2 (b1+1) (fun n:Int=>Value.int .i64 n) []).upd umc id));have BX0:=Qh (show Blk wc (b1+2) 125 [.map (some (b1+1))] by rw[←hwc,←sm2];exact Blk.new wm2 _ _);have HUC:=Qh (((hu13.trans um1).trans um2).trans umc)
 have HB1:=Qh (show z<b1∧wc.heap.size=b1+3 by
  have h3:=hu13.size;have:=HSB.out;exact⟨by omega,smc⟩)
 have GHC:=Qh (GH.out.upd HUC.out (fun _ _=>id));have GEC:=Qh (GE.out.upd HUC.out (fun _ _=>id));have BHC:=Qh (BH.out.upd HUC.out id);clear um1 um2 umc hu13 hu12 hu3;go_wp2;clear hwm1 hwm2 hwc sm1 sm2 smc hb1 hmm
 go_loopg [27] O.length (fun gk i wr=>∃(k:Nat) (m mw:List (Int×Value)),k+gk=O.length∧i= .int .i64 (k:Int)∧Hid (WorldM wr b1 m (ZM txs (O.take k) (fun _=>none)))∧Hid (MapSl wr (b1+3) (b1+1) mw (ZX txs (O.take k)))∧
  Hid (ZaS txs (O.drop k) (ZM txs (O.take k) (fun _=>none))=sv)∧Hid (Upd (fun i=>i=b1∨i=b1+1) wc wr))
 case atStart=>exact⟨0,[],[],by omega,rfl,HW0,HS0,HSV,Qh (Upd.refl _ _)⟩
 case round=>
  clear HW0 HS0 HSV hr h0 h1;obtain⟨k,m,mw,hgk,rfl,hW,hM,hS,hu⟩:=hrel;have hlo:=HLO.out;have hzn:¬(z=b1∨z=b1+1):=by have:=HB1.out.1;omega
  have hxn:¬(b1+2=b1∨b1+2=b1+1):=by omega
  have hFn:∀i,i<z→¬(i=b1∨i=b1+1):=fun i hi=>by have:=HB1.out.1;omega
  have GHR:=Qh (GHC.out.upd hu.out hFn);have BHR:=Qh (BHC.out.upd hu.out hzn);have BXR:=Qh (BX0.out.upd hu.out hxn);have h0:∀W,Upd No wr W→W.cell? ⟨z,0,none⟩=some (.slice A txs.length c):=fun W u=>(BHR.out.upd u id).cell 0
  have h1:∀W,Upd No wr W→W.cell? ⟨z,1,none⟩=some (.slice B ords.length d):=fun W u=>(BHR.out.upd u id).cell 1
  have hr:Upd No wr wr:=Upd.refl _ _;have hzr:b1+3≤wr.heap.size:=by have:=hu.out.size;have:=HB1.out.2;omega
  have HZR:=Qh hzr;have HAP0:=Qh (fun key i hi=>(hM.out.block_lt key i hi).2)
  by_cases hk:k<O.length
  ·obtain⟨ad,rfl,_,_,q0⟩:=(GEC.out.upd hu.out hFn).at_ hk;obtain⟨id,hid⟩:∃id,O[k]=id:=⟨_,rfl⟩;rw[hid]at q0;have i1:(0:Int)≤(k:Int):=Qn _;have i2:(k:Int)<(O.length:Int):=by omega
   have jw:IntKind.i64.wrap ((k:Int)+1)=(k:Int)+1:=IntWalk.i64_in _ (by omega);have hst:=hS.out;rw[show O.drop k=id::O.drop (k+1) by rw[←hid];exact List.drop_eq_getElem_cons hk,Zg8,ZjL,ZeJ,ZaZ,Zc7]at hst
   have HWS:=Qh (show∀x,ZeK (uid txs id) (ZJ txs id) (ZM txs (O.take k) (fun _=>none)) x=ZM txs (O.take (k+1)) (fun _=>none) x from fun x=>by
    rw[List.take_succ_eq_append_getElem hk,hid,ZbE,ZeJ,ZaZ,Zc7])
   have HWR:=Qh (fun key=>ZiA txs hk hid key);have CF:=Qh (Zj3 _ wr txs ords A c B d id GHR.out);obtain⟨ui,hui⟩:∃ui,uid txs id=ui:=⟨_,rfl⟩;obtain⟨ud,hud⟩:∃ud,Zas txs id=ud:=⟨_,rfl⟩;obtain⟨us,hus⟩:∃us,ZJ txs id=us:=⟨_,rfl⟩;obtain⟨fi,hfi⟩:∃fi,(Ze txs id).isSome=fi:=⟨_,rfl⟩;rw[hui,hud,hus,hfi]at CF;rw[hui,hus]at hst HWS;rw[hus]at HWR;obtain⟨f,hf⟩:∃f,ZM txs (O.take k) (fun _=>none)=f:=⟨_,rfl⟩;rw[hf]at hst HWS hW;obtain⟨sb,hsb⟩:∃sb,us.all (Zbc f ui)=sb:=⟨_,rfl⟩;rw[hsb]at hst;have HST:=Qh hst;have HSBV:=Qh hsb;clear hid hst hui hud hus hfi hf hsb hS
   go_wp2_with fail
   refine(CF.out).mono ?_;rintro e w5 ⟨A5,c5,rfl,hfew,hop,hu5⟩;obtain⟨y,hy⟩:∃y,w5.heap.size=y:=⟨_,rfl⟩;obtain⟨wt,hwt⟩:∃wt,w5.alloc (.cells #[.int .i64 ui,.bool ud,.slice A5 us.length c5] 85)=wt:=⟨_,rfl⟩;have ut:Upd No w5 wt:=by rw[←hwt];exact(Upd.refl No w5).alloc _
   have bT:Blk wt y 85 [.int .i64 ui,.bool ud,.slice A5 us.length c5]:=by rw[←hwt,←hy];exact Blk.new w5 _ _
   have t0:∀W,Upd No wt W→W.cell? ⟨y,0,none⟩=some (.int .i64 ui):=fun W u=>(bT.upd u (fun e=>e)).cell 0
   have t1:∀W,Upd No wt W→W.cell? ⟨y,1,none⟩=some (.bool ud):=fun W u=>(bT.upd u (fun e=>e)).cell 1
   have t2:∀W,Upd No wt W→W.cell? ⟨y,2,none⟩=some (.slice A5 us.length c5):=fun W u=>(bT.upd u (fun e=>e)).cell 2
   have htt:Upd No wt wt:=Upd.refl _ _;have HOP:=Qh (HOps.upd hop ut (fun _ _=>fun e=>e));have HFW:=Qh hfew;have HUT:=Qh (hu5.trans ut);have BT:=Qh bT;have HYY:=Qh (show wr.heap.size≤y∧y<wt.heap.size from⟨by rw[←hy];exact hu5.size,bT.lt⟩);have CS:=Qh (fun W (u:Upd No wt W)=>Zn5 _ W b1 m f (hW.out.upd (HUT.out.trans u) (fun e=>e)) ui ud A5 c5 us (HOps.upd HOP.out u (fun _ _ e=>e)) hfew HSBV.out);clear hfew hop hu5 ut bT CF
   go_wp2_with fail
   refine(CS.out _ htt).mono ?_;rintro e w6 ⟨rfl,hu6⟩;have HU6:=Qh hu6;clear CS
   cases sb
   ·have HVF:=Qh (show v=false by have h2:=HST.out;rw[←HVV.out,←h2];rfl);go_wp2
    go_ret
    exact⟨by rw[HVF.out];rfl,(U0.out.trans HUC.out).then_ (hu.out.then_ (HUT.out.trans HU6.out) (fun _ e=>e.elim)) (fun i (e:i=b1∨i=b1+1)=>Or.inr (by have:=HB1.out.1;have:=HZ.out;omega))⟩
   ·have CW:=Qh (Zm5 _ w6 b1 m f (hW.out.upd (HUT.out.trans hu6) (fun e=>e)) ui ud A5 c5 us (HOps.upd HOP.out hu6 (fun _ _ e=>e)) HFW.out (fun i (hi:wr.heap.size≤i)=>by have:=HZR.out;omega))
    go_wp2_with fail
    refine(CW.out).mono ?_;rintro e w7 ⟨rfl,⟨m7,hw7⟩,hu7⟩;have HW7:=Qh (hw7.congr HWS.out);have HM7:=Qh ((hM.out.upd (HUT.out.trans HU6.out) (fun e=>e) (fun _ _ _ e=>e)).upd hu7 (by unfold One;omega) (fun i h _ e=>by unfold One at e;omega));have HU7:=Qh ((hu.out.then_ (HUT.out.trans HU6.out) (fun _ e=>e.elim)).then_ hu7 (fun i (e:i=b1)=>Or.inl (Or.inl e)));have BT7:=Qh ((BT.out.upd HU6.out (fun e=>e)).upd hu7 (by have:=HYY.out.1;have:=HZR.out;unfold One;omega));have BX7:=Qh ((BXR.out.upd (HUT.out.trans HU6.out) (fun e=>e)).upd hu7 (by unfold One;omega));have hz67:wt.heap.size≤w7.heap.size:=Nat.le_trans HU6.out.size hu7.size;have HOP7:=Qh (HOps.upd (HOps.upd HOP.out HU6.out (fun _ _ e=>e)) hu7 (fun i (hi:wr.heap.size≤i) (e:i=b1)=>by have:=HZR.out;omega));have t0':=BT7.out.cell 0;have t1':=BT7.out.cell 1;have t2':=BT7.out.cell 2;simp only[Qz,Qs]at t0' t1' t2';have CK:=Qh (Zi8 _ w7 ui ud A5 c5 us HOP7.out HFW.out);obtain⟨ks,hks⟩:∃ks,Zl us=ks:=⟨_,rfl⟩;have hkl:ks.length≤4398046511103:=by rw[←hks];exact Nat.le_trans (Nat.le_trans (ZaB _) (Zce _ _)) HFW.out
    have hnd:=Qh (show ks.Pairwise (·<·) by rw[←hks];exact ZaR _);rw[hks]at CK HWR;have HZ7:=Qh hz67;clear hks hw7 hu7 hu6 CW t0 t1 t2 htt hW hM hz67
    go_wp2_with fail
    refine(CK.out).mono ?_;rintro e w8 ⟨A8,c8,rfl,ho8,hu8⟩;obtain⟨zr,hzr2⟩:∃zr,wr.heap.size=zr:=⟨_,rfl⟩;obtain⟨z8,hz8⟩:∃z8,w8.heap.size=z8:=⟨_,rfl⟩
    have HLK:=Qh (show∀i,Own (.slice A8 ks.length c8) i→zr≤i∧i<z8 from fun i e=>by
     have h1:=ho8.lt i e;rw[hz8]at h1;have:=HZ7.out;have:=HYY.out;omega)
    have HI8:=Qh (show Ints (fun i=>zr≤i∧i<z8) w8 A8 ks from Ints.weak ((Ints.of_own ho8).lt' (fun _ e=>e)) (fun i _ (e:i<w8.heap.size∧w7.heap.size≤i)=>by
     have:=HZ7.out;have:=HYY.out;omega))
    have HM8:=Qh (show MapSl w8 (b1+3) (b1+1) mw (fun key=>ZX txs (O.take k) key++if key∈ks.take 0 then [id] else []) from(HM7.out.upd hu8 (fun e=>e) (fun _ _ _ e=>e)).congr (fun key=>by simp));have HAP:=Qh (show∀key i,Own ((Zn mw key).getD (.slice none 0 0)) i→i<zr∨z8≤i from fun key i hi=>Or.inl (by have:=HAP0.out key i hi;omega));have HW8:=Qh (HW7.out.upd hu8 (fun e=>e));have BX8:=Qh (BX7.out.upd hu8 (fun e=>e));have HU8:=Qh (HU7.out.then_ hu8 (fun _ e=>e.elim));have HZ8:=Qh (show b1+3≤zr∧zr≤z8 from⟨by have:=HZR.out;omega,by have:=HZ7.out;have:=HYY.out;have:=hu8.size;omega⟩);clear ho8 hu8 HM7 HU7 BX7 HW7 BT7 HOP7;go_wp2
    generalize gk=GK at*
    go_loopg [47] ks.length (fun gk i wx=>∃(j:Nat) (mj:List (Int×Value)),j+gk=ks.length∧i= .int .i64 (j:Int)∧Hid (MapSl wx (b1+3) (b1+1) mj (fun key=>ZX txs (O.take k) key++if key∈ks.take j then [id] else []))∧
     Hid (∀key i,Own ((Zn mj key).getD (.slice none 0 0)) i→i<zr∨z8≤i)∧Hid (Upd (fun i=>i=b1+1∨(b1+3≤i∧i<zr)) w8 wx))
    case atStart=>exact⟨0,mw,by omega,rfl,HM8,HAP,Qh (Upd.refl _ _)⟩
    case round=>
     clear HM8 HAP HAP0;obtain⟨j,mj,hgj,rfl,hMj,hapj,huj⟩:=hrel
     by_cases hltj:j<ks.length
     ·obtain⟨ad1,rfl,_,_,q1⟩:=(HI8.out.upd huj.out (fun i hi e=>by have:=HZ8.out;omega)).at_ hltj;obtain⟨key,hkey⟩:∃key,ks[j]=key:=⟨_,rfl⟩;rw[hkey]at q1;have j0:(0:Int)≤(j:Int):=Qn _;have j1:(j:Int)<(ks.length:Int):=by omega
      have jwj:IntKind.i64.wrap ((j:Int)+1)=(j:Int)+1:=IntWalk.i64_in _ (by omega)
      have hnk:key∉ks.take j:=fun hm=>by
       rw[List.mem_take_iff_getElem]at hm;obtain⟨q,hq,e⟩:=hm;have:=List.pairwise_iff_getElem.1 hnd.out q j (by omega) (by omega) (by omega);rw[e,hkey]at this;exact Int.lt_irrefl _ this
      have hMj2:=hMj.out;obtain⟨fj,hfj⟩:∃fj:Int→List Int,(fun key=>ZX txs (O.take k) key++if key∈ks.take j then [id] else [])=fj:=⟨_,rfl⟩;rw[hfj]at hMj2
      have HFJ:=Qh (show∀u,(if u=key then fj key++[id] else fj u)=ZX txs (O.take k) u++if u∈ks.take (j+1) then [id] else [] from fun u=>by
       rw[←hfj,List.take_succ_eq_append_getElem hltj,hkey]
       by_cases e:u=key
       ·subst e;simp[hnk]
       ·simp[e])
      have hfl:(fj key).length≤100001:=by
       rw[←hfj];simp only[List.length_append];have h1:=Zf3 txs (O.take k) key;have h2:=List.length_take_le k O
       split<;>simp<;>omega
      obtain⟨Ak,ck,hrow,howk⟩:=hMj2.row key;obtain⟨fk,hfk⟩:∃fk,fj key=fk:=⟨_,rfl⟩;rw[hfk]at hrow howk hfl
      have e3:∀W,Upd No wr W→(Instr.lookup 125 (.map (some (b1+1))) (.int .i64 key) false).run Tryz.prog W= .ok (.slice Ak fk.length ck) W:=fun W u=>by
       have:=Zi ZR Tryz.underlying125 ZcV (hMj2.is.upd u (fun e=>e)) key;rw[hrow]at this;exact this
      obtain⟨Sx,hSx⟩:∃S:Nat→Prop,S=fun i=>i=b1+1∨(b1+3≤i∧i<zr)∨z8≤i:=⟨_,rfl⟩
      have hk5:∀i,Own (.slice Ak fk.length ck) i→Sx i∧b1+3≤i:=fun i hi=>by
       have h1:=(howk.lt i hi).1;have h3:=hapj.out key i (by rw[hrow];exact hi);rw[hSx];rcases h3 with h3|h3
       ·exact⟨Or.inr (Or.inl ⟨h1,h3⟩),h1⟩
       ·exact⟨Or.inr (Or.inr h3),h1⟩
      have hbxw:=BX8.out.upd huj.out (show¬_ by omega);have d6:∀W,Upd Sx wr W→W.cell? ⟨b1+2,0,none⟩=some (.map (some (b1+1))):=fun W u=>(hbxw.upd u (by rw[hSx];have:=HZ8.out;omega)).cell 0
      have HK5:=Qh hk5;have HO5:=Qh howk;have HRW:=Qh hrow;have HFK:=Qh hfk;have HSX:=Qh hSx;have HSZ:=Qh (show z8≤wr.heap.size by have:=huj.out.size;omega);have hz5:Upd No wr wr.drew:=(Upd.refl No wr).drew;have hz6:Upd No wr (wr.alloc (.cells #[.int .i64 id] 3)).drew:=((Upd.refl No wr).alloc _).drew;have hzz:Upd Sx wr wr:=Upd.refl _ _;have HSL:=Qh (hMj2.upd hz6 (fun e=>e) (fun _ _ _ e=>e));clear howk hrow hk5 hfk hSx hMj hMj2 hfj hnk hkey hbxw;go_wp2;refine wp_region_noPanic ?_;refine wp_region_held_drew (S:=(fun W'=>Upd Sx wr W')) (by kernel_rfl) ?_ (fun hHeld=> ?_)
      ·(first|exact hzz.drew|exact hHeld|exact hHeld.alloc _|exact hU6|exact hU7)
      refine wpK 0 rfl ?_;refine wpK 1 rfl ?_;refine wpK 2 rfl ?_;refine wpK 3 rfl ?_;refine wpK 5 rfl ?_;refine wpR [4,6] ?_;refine wpC rfl (fun K hK=> ?_) ?_
      ·go_simp;refine hK.out _ _ ?_ (fun hHeld=> ?_)
       ·(first|exact hzz.drew|exact hHeld|exact hHeld.alloc _|exact hU6|exact hU7)
       clear hK K
       try simp only[Act.put,sT,sS,sZ]
       refine wpR [6] ?_;refine wpC rfl (fun K hK=> ?_) AllReadyH.nil;go_simp;refine hK.out _ _ ?_ (fun hHeld=> ?_)
       ·(first|exact hzz.drew|exact hHeld|exact hHeld.alloc _|exact hU6|exact hU7)
       clear hK K
       try simp only[Act.put,sT,sS,sZ]
       refine wpR [7] ?_;refine wpC rfl (fun K hK=> ?_) AllReadyH.nil
       (first
   |(refine ZbA (by rfl) (by rfl) Z6 (v:= .slice Ak fk.length ck) (cells:=[.int .i64 id]) (by rfl) (by rfl) (by exact Zb HO5.out hz6 (fun _ _ e=>e)) rfl (by exact Za6) (by rfl) (by omega) (by omega) (by have:=HSZ.out;have:=HZ8.out;simp;omega) ?_;intro g6 c6 w6 hown6 hu6 hg6 hlt6;have hU6:Upd Sx wr w6:=hHeld.trans (hu6.mono (fun i _ e=>(HK5.out i e).1))))
       refine hK.out _ _ ?_ (fun hHeld=> ?_)
       ·(first|exact hzz.drew|exact hHeld|exact hHeld.alloc _|exact hU6|exact hU7)
       clear hK K
       try simp only[Act.put,sT,sS,sZ]
       refine wpR [8] ?_;refine wpC rfl (fun K hK=> ?_) AllReadyH.nil
       (first
   |(refine Zb0 (by rfl) (by rfl) ZR Tryz.underlying125 (a:=key) (val:= .slice (some ⟨g6,0,none⟩) (fk.length+1) c6) (by rfl) (by rfl) (by rfl) ((HSL.out.is).upd hu6 (fun e=>by have:=(HK5.out _ e).2;omega)) ?_;intro w7 hm7 hu7;have hU7:Upd Sx wr w7:=hHeld.trans (hu7.mono (fun i _ e=>by rw[HSX.out];exact Or.inl e))))
       refine hK.out _ _ ?_ (fun hHeld=> ?_)
       ·(first|exact hzz.drew|exact hHeld|exact hHeld.alloc _|exact hU6|exact hU7)
       clear hK K
       try simp only[Act.put,sT,sS,sZ]
       refine wpD (NoPanic.normal ?_);have HUX:=Qh hHeld;clear hHeld hU6 hU7
       have hgn:∀i,Own (.slice (some ⟨g6,0,none⟩) (fk.length+1) c6) i→Own (.slice Ak fk.length ck) i∨(wr.alloc (.cells #[.int .i64 id] 3)).drew.heap.size≤i:=fun i hi=>by
        rcases hg6 with h1|⟨q,h1,h2⟩
        ·exact Or.inl (show _=some i by rw[←h1];exact hi)
        ·unfold Own at hi;rw[h1]at hi;cases hi;exact Or.inr h2
       have HNF:=Qh (HSL.out.put (key:=key) (x:=id) (A:=Ak) (c:=ck) (by rw[HRW.out,HFK.out]) (by omega) (by rw[HFK.out];simpa using hown6) (by rw[HFK.out];exact hu6) (by rw[HFK.out];exact hgn) (by rw[HFK.out];exact hm7) hu7)
       have HAN:=Qh (show∀k' i,Own ((Zn (Zk mj key (.slice (some ⟨g6,0,none⟩) ((fj key).length+1) c6)) k').getD (.slice none 0 0)) i→i<zr∨z8≤i from fun k' i hi=>by
        rw[Zah]at hi
        by_cases e:k'=key
        ·rw[if_pos e]at hi;rcases hgn i (by simpa[HFK.out]using hi)with h|h
         ·exact hapj.out key i (by rw[HRW.out];exact h)
         ·have h2:wr.heap.size+1≤i:=by simpa using h
          have:=HSZ.out;exact Or.inr (by omega)
        ·rw[if_neg e]at hi;exact hapj.out k' i hi)
       clear hgn;go_wp2
       go_roundg (gk-1)
       case measure=>omega
       case rel=>exact⟨j+1,_,by omega,by go_num,Qh (HNF.out.congr HFJ.out),HAN,Qh (huj.out.then_ HUX.out (fun i e=>by rw[HSX.out]at e;rcases e with e|e|e;exact Or.inl (Or.inl e);exact Or.inl (Or.inr e);exact Or.inr (by omega)))⟩
      refine wpC rfl (fun K hK=> ?_) AllReadyH.nil;go_simp;refine hK.out _ _ ?_ (fun hHeld=> ?_)
      ·(first|exact hzz.drew|exact hHeld|exact hHeld.alloc _|exact hU6|exact hU7)
      clear hK K
      try simp only[Act.put,sT,sS,sZ]
      refine wpR [4] ?_;refine wpC rfl (fun K hK=> ?_) AllReadyH.nil;go_simp;refine hK.out _ _ ?_ (fun hHeld=> ?_)
      ·(first|exact hzz.drew|exact hHeld|exact hHeld.alloc _|exact hU6|exact hU7)
      clear hK K
      try simp only[Act.put,sT,sS,sZ]
      refine wpR [7] ?_;refine wpC rfl (fun K hK=> ?_) AllReadyH.nil
      (first
  |(refine ZbA (by rfl) (by rfl) Z6 (v:= .slice Ak fk.length ck) (cells:=[.int .i64 id]) (by rfl) (by rfl) (by exact Zb HO5.out hz6 (fun _ _ e=>e)) rfl (by exact Za6) (by rfl) (by omega) (by omega) (by have:=HSZ.out;have:=HZ8.out;simp;omega) ?_;intro g6 c6 w6 hown6 hu6 hg6 hlt6;have hU6:Upd Sx wr w6:=hHeld.trans (hu6.mono (fun i _ e=>(HK5.out i e).1))))
      refine hK.out _ _ ?_ (fun hHeld=> ?_)
      ·(first|exact hzz.drew|exact hHeld|exact hHeld.alloc _|exact hU6|exact hU7)
      clear hK K
      try simp only[Act.put,sT,sS,sZ]
      refine wpR [8] ?_;refine wpC rfl (fun K hK=> ?_) AllReadyH.nil
      (first
  |(refine Zb0 (by rfl) (by rfl) ZR Tryz.underlying125 (a:=key) (val:= .slice (some ⟨g6,0,none⟩) (fk.length+1) c6) (by rfl) (by rfl) (by rfl) ((HSL.out.is).upd hu6 (fun e=>by have:=(HK5.out _ e).2;omega)) ?_;intro w7 hm7 hu7;have hU7:Upd Sx wr w7:=hHeld.trans (hu7.mono (fun i _ e=>by rw[HSX.out];exact Or.inl e))))
      refine hK.out _ _ ?_ (fun hHeld=> ?_)
      ·(first|exact hzz.drew|exact hHeld|exact hHeld.alloc _|exact hU6|exact hU7)
      clear hK K
      try simp only[Act.put,sT,sS,sZ]
      refine wpD (NoPanic.normal ?_);have HUX:=Qh hHeld;clear hHeld hU6 hU7
      have hgn:∀i,Own (.slice (some ⟨g6,0,none⟩) (fk.length+1) c6) i→Own (.slice Ak fk.length ck) i∨(wr.alloc (.cells #[.int .i64 id] 3)).drew.heap.size≤i:=fun i hi=>by
       rcases hg6 with h1|⟨q,h1,h2⟩
       ·exact Or.inl (show _=some i by rw[←h1];exact hi)
       ·unfold Own at hi;rw[h1]at hi;cases hi;exact Or.inr h2
      have HNF:=Qh (HSL.out.put (key:=key) (x:=id) (A:=Ak) (c:=ck) (by rw[HRW.out,HFK.out]) (by omega) (by rw[HFK.out];simpa using hown6) (by rw[HFK.out];exact hu6) (by rw[HFK.out];exact hgn) (by rw[HFK.out];exact hm7) hu7)
      have HAN:=Qh (show∀k' i,Own ((Zn (Zk mj key (.slice (some ⟨g6,0,none⟩) ((fj key).length+1) c6)) k').getD (.slice none 0 0)) i→i<zr∨z8≤i from fun k' i hi=>by
       rw[Zah]at hi
       by_cases e:k'=key
       ·rw[if_pos e]at hi;rcases hgn i (by simpa[HFK.out]using hi)with h|h
        ·exact hapj.out key i (by rw[HRW.out];exact h)
        ·have h2:wr.heap.size+1≤i:=by simpa using h
         have:=HSZ.out;exact Or.inr (by omega)
       ·rw[if_neg e]at hi;exact hapj.out k' i hi)
      clear hgn;go_wp2
      go_roundg (gk-1)
      case measure=>omega
      case rel=>exact⟨j+1,_,by omega,by go_num,Qh (HNF.out.congr HFJ.out),HAN,Qh (huj.out.then_ HUX.out (fun i e=>by rw[HSX.out]at e;rcases e with e|e|e;exact Or.inl (Or.inl e);exact Or.inl (Or.inr e);exact Or.inr (by omega)))⟩
     ·obtain rfl:j=ks.length:=by omega
      have HMF:=Qh (show MapSl wr (b1+3) (b1+1) mj (ZX txs (O.take (k+1))) from hMj.out.congr (fun key=>by rw[List.take_length];exact(HWR.out key).symm));have HWF:=Qh ((HW8.out.upd huj.out (by omega)));have HSF:=Qh (show ZaS txs (O.drop (k+1)) (ZM txs (O.take (k+1)) (fun _=>none))=sv by rw[←funext HWS.out];exact HST.out);have HUF:=Qh (HU8.out.then_ huj.out (fun i e=>by rcases e with e|e;exact Or.inl (Or.inr e);exact Or.inr (by have:=HB1.out.2;omega)));clear hMj huj;go_wp2
      go_roundg (GK-1)
      case measure=>omega
      case rel=>exact⟨k+1,m7,mj,by omega,by go_num,HWF,HMF,HSF,HUF⟩
  ·obtain rfl:k=O.length:=by omega
   have hsv:sv=true:=by have:=hS.out;rw[List.drop_length]at this;exact this.symm
   subst hsv;have hM2:MapSl wr (b1+3) (b1+1) mw (ZX txs O):=by have:=hM.out;rwa [List.take_length]at this
   have HM2:=Qh hM2;have HCL:=Qh (fun(o:HOrd) (ho:o∈ords) W (u:Upd No wr W)=>ZoK _ W (b1+2) (b1+1) (b1+3) mw (ZX txs O) (HM2.out.upd u (fun e=>e) (fun _ _ _ e=>e)) ((BXR.out.upd u (fun e=>e)).cell 0) o.key o.A o.c o.txs ((GHR.out.ord o ho).1.upd u (fun _ _ e=>e)) (HOR.out o ho) (Nat.le_trans (Zf3 txs O o.key) (Nat.le_trans HLO.out (by decide))) (v:= !(o.txs==ZX txs O o.key)) (by simp))
   have hany:ords.any (fun o=> !(o.txs==ZX txs O o.key))= !v:=by
    have h3:=HVV.out;rw[Bool.true_and,Bool.true_and,Bool.true_and]at h3;rw[←h3,←HAV.out];rw[List.not_all_eq_any_not]
   have CO:=Qh (ZmD (d:=d) (bx:=b1+2) GHR.out.ords HFO.out (fun o=> !(o.txs==ZX txs O o.key)) HCL hany);clear hany hM2 hM hW hS
   go_wp2_with fail
   refine(CO.out).mono ?_;rintro e w5 ⟨rfl,hu5⟩;go_wp2
   go_ret
   exact⟨by simp,(U0.out.trans HUC.out).then_ (hu.out.then_ hu5 (fun _ e=>e.elim)) (fun i (e:i=b1∨i=b1+1)=>Or.inr (by have:=HB1.out.1;have:=HZ.out;omega))⟩
end
/- Orders as if one by one:the order that is told;who wrote each key last (serial.Order,serial.Final). -/
section
open Go.RowKit
def ZbU (h:Hist):List Int×Int:=if Za h then Ze0 (Zbk (Zd h.txs) (ZW (ZD h))) 16 else ([],5)
set_option maxRecDepth 100000 in
set_option maxHeartbeats 4000000 in
theorem Znh (F:Nat→Prop) (w:World) (txs:List HTx) (ords:List HOrd) (A:Option Addr) (c:Nat) (B:Option Addr) (d:Nat) (H:Hist.lies F w ⟨txs,ords,A,c,B,d⟩) (hl:Zv ⟨txs,ords,A,c,B,d⟩=true):
  Calls Tryz.prog 31 #[.agg #[.slice A txs.length c,.slice B ords.length d]] w (ZgR w (ZbU ⟨txs,ords,A,c,B,d⟩)):=by
 obtain⟨wb,hwb⟩:∃wb,w.alloc (.cells #[.slice A txs.length c,.slice B ords.length d] 50)=wb:=⟨_,rfl⟩;have ub:Upd No w wb:=by rw[←hwb];exact(Upd.refl No w).alloc _
 have bH:Blk wb w.heap.size 50 [.slice A txs.length c,.slice B ords.length d]:=by rw[←hwb];exact Blk.new w _ _
 have h0:∀W,Upd No wb W→W.cell? ⟨w.heap.size,0,none⟩=some (.slice A txs.length c):=fun W u=>(bH.upd u id).cell 0
 have h1:∀W,Upd No wb W→W.cell? ⟨w.heap.size,1,none⟩=some (.slice B ords.length d):=fun W u=>(bH.upd u id).cell 1
 have hr:Upd No wb wb:=Upd.refl _ _;have U0:=Qh ub;have GH:=Qh (H.upd ub (fun _ _=>id));obtain⟨r,hrr⟩:∃r,Za ⟨txs,ords,A,c,B,d⟩=r:=⟨_,rfl⟩;obtain⟨D,hD⟩:∃D,Zd txs=D:=⟨_,rfl⟩;obtain⟨ED,hED⟩:∃ED,ZD ⟨txs,ords,A,c,B,d⟩=ED:=⟨_,rfl⟩;obtain⟨PL,hPL⟩:∃PL,ZW ED=PL:=⟨_,rfl⟩;have hfew:=ZgD hl;rw[hED]at hfew;have hll:=hl;unfold Zv at hll;simp only[Bool.and_eq_true,decide_eq_true_eq,List.all_eq_true]at hll;have hn1:txs.length≤12:=hll.1.1.1;have hn2:∀t∈txs,t.ops.length≤24:=hll.1.2;have hdl:D.length≤12:=by rw[←hD];unfold Zd;rw[List.length_map];exact Nat.le_trans (List.length_filter_le _ _) hn1
 have hpl:PL.length=ED.length:=by rw[←hPL];unfold ZW;rw[List.length_map]
 have CR:=Qh (fun W (u:Upd No wb W)=>Zio (GH.out.upd u (fun _ _=>id)) hrr);have CD:=Qh (fun W (u:Upd No wb W)=>ZgN _ W txs ords A c B d (GH.out.upd u (fun _ _=>id)));have CE:=Qh (fun W (u:Upd No wb W)=>Zm9 (GH.out.upd u (fun _ _=>id)) hn1 hn2 rfl rfl hED rfl);rw[hD]at CD;unfold ZbU;rw[hrr];simp only[hD,hED,hPL];obtain⟨T,hT⟩:∃T,Ze0 (Zbk D PL) 16=T:=⟨_,rfl⟩;rw[hT];have HT:=Qh hT;obtain⟨Q,hQ⟩:∃Q,(if r=true then T else (([]:List Int),(5:Int)))=Q:=⟨_,rfl⟩;rw[hQ];have HQ:=Qh hQ;have HPL:=Qh hPL;have HDL:=Qh hdl;have HFEW:=Qh hfew;have HPLL:=Qh hpl;clear bH H hl hrr hD hED hPL hfew hll hn1 hn2 hdl hpl ub hT hQ
 go_enter Tryz.func31,Tryz.ntmps31
 go_wp2_with fail
 refine(CR.out _ hr).mono ?_;rintro e w1 ⟨rfl,hu1⟩
 cases r
 ·obtain rfl:Q=([],5):=by rw[←HQ.out];rfl
  go_wp2
  go_ret2
  exact⟨none,0,rfl,World.ownsRow_nil _ _ _ _,U0.out.trans hu1⟩
 ·obtain rfl:Q=T:=by rw[←HQ.out];rfl
  go_wp2;refine wp_region_noPanic ?_;refine wp_region_held_drew (S:=(fun W'=>Upd No wb W')) (by kernel_rfl) ?_ (fun hHeld=> ?_)
  ·(first|exact hu1.drew|(with_reducible exact hHeld)|(with_reducible exact hq2)|(with_reducible exact hq3)|(with_reducible exact hq4)|(with_reducible exact hq5))
  refine wpK 0 rfl ?_;refine wpK 2 rfl ?_;refine wpR [1] ?_;refine wpC rfl (fun K hK=> ?_) AllReadyH.nil;go_simp
  (first
  |(go_at_call 34;refine(CD.out _ hHeld).mono ?_;rintro e w2 ⟨A2,c2,rfl,ho2,hu2⟩;have hq2:Upd No wb w2:=hHeld.trans hu2;(try have HE:=Qh (HvX.upd HE.out hu2));(try have HP:=Qh (EdX.upd HP.out hu2));have HD:=Qh (show Ints (fun _=>True) w2 A2 D from Ints.weak (Ints.of_owned ho2) (fun _ _ _=>trivial));clear ho2 hu2))
  try (go_wp2_with fail)
  refine hK.out _ _ ?_ (fun hHeld=> ?_)
  ·(first|exact hu1.drew|(with_reducible exact hHeld)|(with_reducible exact hq2)|(with_reducible exact hq3)|(with_reducible exact hq4)|(with_reducible exact hq5))
  clear hK K
  try simp only[Act.put,sT,sS,sZ]
  refine wpR [3] ?_;refine wpC rfl (fun K hK=> ?_) AllReadyH.nil;go_simp
  (first
  |(go_at_call 45;refine(CE.out _ hHeld).mono ?_;rintro e w3 ⟨A3,c3,rfl,hx3,hu3⟩;have hq3:Upd No wb w3:=hHeld.trans hu3;(try have HD:=Qh (HD.out.upd hu3 (fun _ _=>id)));have HE:=Qh hx3;clear hx3 hu3))
  try (go_wp2_with fail)
  refine hK.out _ _ ?_ (fun hHeld=> ?_)
  ·(first|exact hu1.drew|(with_reducible exact hHeld)|(with_reducible exact hq2)|(with_reducible exact hq3)|(with_reducible exact hq4)|(with_reducible exact hq5))
  clear hK K
  try simp only[Act.put,sT,sS,sZ]
  refine wpR [4] ?_;refine wpC rfl (fun K hK=> ?_) AllReadyH.nil;go_simp
  (first
  |(go_at_call 44;refine(Zm8 HE.out (by have:=HFEW.out;omega) rfl HPL.out rfl).mono ?_;rintro e w4 ⟨A4,c4,rfl,hx4,hu4⟩;have hq4:Upd No wb w4:=hHeld.trans hu4;(try have HD:=Qh (HD.out.upd hu4 (fun _ _=>id)));have HP:=Qh hx4;clear hx4 hu4))
  try (go_wp2_with fail)
  refine hK.out _ _ ?_ (fun hHeld=> ?_)
  ·(first|exact hu1.drew|(with_reducible exact hHeld)|(with_reducible exact hq2)|(with_reducible exact hq3)|(with_reducible exact hq4)|(with_reducible exact hq5))
  clear hK K
  try simp only[Act.put,sT,sS,sZ]
  refine wpR [5] ?_;refine wpC rfl (fun K hK=> ?_) AllReadyH.nil;go_simp
  (first
  |(go_at_call 68;obtain⟨GP,hGP⟩:=HP.out;refine(Zne _ GP _ A2 A4 c2 c4 D PL HD.out hGP (by have:=HDL.out;omega) (by have:=HPLL.out;have:=HFEW.out;omega)).mono ?_;rw[HT.out];rintro e w5 ⟨A5,c5,rfl,ho5,hu5⟩;have hq5:Upd No wb w5:=hHeld.trans hu5;have HO5:=Qh (ZB (b2:=w.heap.size) ho5 (Nat.le_trans U0.out.size hHeld.size));clear ho5 hu5))
  try (go_wp2_with fail)
  refine hK.out _ _ ?_ (fun hHeld=> ?_)
  ·(first|exact hu1.drew|(with_reducible exact hHeld)|(with_reducible exact hq2)|(with_reducible exact hq3)|(with_reducible exact hq4)|(with_reducible exact hq5))
  clear hK K
  try simp only[Act.put,sT,sS,sZ]
  refine wpK 6 rfl ?_;refine wpK 7 rfl ?_;refine wpK 8 rfl ?_;refine wpK 9 rfl ?_;refine wpD (NoPanic.normal ?_);have HL:=Qh hHeld;clear hHeld;go_wp2
  go_ret2
  exact⟨A5,c5,rfl,HO5.out,U0.out.trans HL.out⟩
/-! who wrote last -/
def ZbN (l:List (Int×Int)):List Value:=(l.map fun p=>[Value.int .i64 p.1,.int .i64 p.2]).flatten
theorem Zfe (l:List (Int×Int)) (a b:Int):ZbN (l++[(a,b)])=ZbN l++[.int .i64 a,.int .i64 b]:=by unfold ZbN;simp
theorem Zf8:SlT Tryz.prog 70 121 2 16:=SlT.mk_ Tryz.underlying70 (z:= .agg #[.int .i64 0,.int .i64 0]) (by kernel_rfl) rfl (by omega)
def Zl9 (w:World) (l:List (Int×Int)) (e:Ending) (w':World):Prop:=∃A c,e= .returned (.slice A l.length c)∧w'.ownsRow w.heap.size 121 2 (.slice A l.length c) l.length (ZbN l)∧Upd No w w'
set_option maxRecDepth 100000 in
set_option maxHeartbeats 2000000 in
theorem Zo8 (F:Fence) (n:Nat) (hF:F.fn 162) (hro:F.round=none) (hn:1≤n) (l Bm b:Nat) (m:List (Int×Value)) (J:List Int→World→Prop)
  (hY:∀pre x W,J pre W→pre.length<m.length→YieldAt F (n-1) Tryz.prog l #[.int .i64 x] W fun e W'=>e= .returned (.bool true)∧J (pre++[x]) W'∧KeepsWalks W W')
  (W:World) (hJ:AbidesFrom W.heap.size J) (hm:W.cell? ⟨Bm,0,none⟩=some (.map (some b))) (hmap:MapE W b (fun n:Int=>Value.int .i64 n) m) (h0:J [] W):
  CallsIn F n Tryz.prog 162 #[.func (.yield l) #[] #[],.pointer (some ⟨Bm,0,none⟩)] W fun e W'=>(∃v,e= .returned v)∧∃ks:List Int,ks.Perm (m.map (·.1))∧J ks W':=by
 obtain⟨w0,hrg,hit0,hu0,hs0⟩:=Zdo (P:=Tryz.prog) Tryz.underlying124 hmap;have hJ0:J [] w0:=hJ [] W w0 none h0 (Zdr hu0) (fun r e=>by cases e);clear hs0;refine callsIn_of_wp Tryz.func162 rfl hF ?_ hro;simp only[Tryz.ntmps162,List.size_toArray,List.length_cons,List.length_nil,Nat.reduceAdd,Nat.reduceSub,Array.replicate_succ,Array.replicate_zero,List.push_toArray,List.append_toArray,List.nil_append,List.cons_append]
 gi_wp2
 gi_loopw [3] (fun _ wr=>∃(left:List (Int×Value)) (ks:List Int),Iter wr W.heap.size b (fun n:Int=>Value.int .i64 n) m left∧(ks++left.map (·.1)).Perm (m.map (·.1))∧J ks wr)
  (fun _ wr=>wr.rangeLeft b W.heap.size)
 case atStart=>exact⟨m,[],hit0,by simp,hJ0⟩
 case round=>
  clear hrg hJ0 hit0 hu0;obtain⟨left,ks,hit,hpm,hJs⟩:=hrel;rcases ZdZ (P:=Tryz.prog) hit with ⟨rfl,hnx⟩|⟨l1,p,l2,w2,rfl,hnx,hit2,hu2,hs2,hent⟩
  ·gi_wp2
   go_end0
   exact⟨⟨_,rfl⟩,ks,by simpa using hpm,hJs⟩
  ·obtain⟨x,v⟩:=p;have hent2:=hent w2 (Upd.refl _ _);have hJ2:J ks w2:=hJ ks _ w2 (some W.heap.size) hJs (Zgz hu2) (fun r e=>by cases e;exact⟨Nat.le_refl _,hit.walk⟩);have hlen:ks.length<m.length:=by have:=hpm.length_eq;simp at this;omega
   obtain⟨fn,tmps,assign,body,hy,hR⟩:=hY ks x w2 hJ2 hlen
   dsimp only at hy hnx hent2
   have HIT:=Qh hit;have HIT3:=Qh hit2;have HPM:=Qh hpm;clear hit hit2 hpm hs2 hu2 hent hlen
   gi_wp2
   refine hR.mono ?_;rintro e W3 ⟨rfl,hJ4,hk4⟩;have hit4:=HIT3.out.walks hk4
   gi_wp2
   go_roundw
   case rel=>
    refine⟨l1++l2,ks++[x],hit4,?_,hJ4⟩;refine List.Perm.trans ?_ HPM.out;simp only[List.map_append,List.map_cons,List.append_assoc,List.singleton_append];exact List.Perm.append_left ks List.perm_middle.symm
   case measure=>rw[hit4.left_eq,HIT.out.left_eq];simp
theorem Zki:∀args w,(callFunc 162 args).run Tryz.prog w= .ok (.enter 162 args) w:=enters_of Tryz.func162 (by kernel_rfl) rfl
theorem ZmM (w:World) (Bm b:Nat) (m:List (Int×Value)) (hm:w.cell? ⟨Bm,0,none⟩=some (.map (some b))) (hmap:MapE w b (fun n:Int=>Value.int .i64 n) m):ZhM w 162 Bm m:=by
 have hBm:Bm<w.heap.size:=block_lt_of_cell (a:=⟨Bm,0,none⟩) hm;exact fun l J W hW hJ hY h0=>Zo8 Fence.wide (5-1-1) trivial rfl (by omega) l Bm b m J hY W hJ ((hW.cell (p:=⟨Bm,0,none⟩) hBm).trans hm) (hmap.upd (S:=No) (Upd.of_below hW) id) h0
set_option maxHeartbeats 1000000 in
theorem ZmL (w:World) (mb:Option Nat):Calls Tryz.prog 86 #[.map mb] w fun e w'=>e= .returned (.func (.func 162) #[] #[.pointer (some ⟨w.heap.size,0,none⟩)])∧w.alloc (.cells #[.map mb] 124)=w':=by
 go_enter Tryz.func86,Tryz.ntmps86
 go_wp2
 go_ret
 exact⟨rfl,rfl⟩
theorem ZeL:∀(ks s:List Int),(ks.foldl (fun a k=>Zp k a) s).length≤s.length+ks.length
 |[],s=>by simp
 |k::ks,s=>by
  rw[List.foldl_cons];have h1:=ZeL ks (Zp k s);have h2:=Zbt k s;rw[List.length_cons];omega
theorem Zb5 (txs:List HTx) {n:Nat}:∀(l s:List Int),(∀id∈l,(ZJ txs id).length≤n)→(ZV txs l s).length≤s.length+n*l.length
 |[],s,_=>by simp[ZV]
 |id::l,s,h=>by
  unfold ZV;have h1:=Zb5 txs l ((Zl (ZQ txs id).ops).foldl (fun a k=>Zp k a) s) fun i hi=>h i (List.mem_cons_of_mem _ hi)
  have h2:=ZeL (Zl (ZQ txs id).ops) s;have h3:(Zl (ZQ txs id).ops).length≤n:=by rw[ZaZ];exact Nat.le_trans (Nat.le_trans (ZaB _) (Zce _ _)) (h id (List.mem_cons_self ..))
  rw[List.length_cons,Nat.mul_add,Nat.mul_one];omega
theorem ZfQ {l:List Int} (h:l.Pairwise (·≤·)) (hn:l.Nodup):l.Pairwise (·<·):=by
 rw[List.pairwise_iff_getElem]at h ⊢;intro i j hi hj hij;have h1:=h i j hi hj hij;have h2:l[i]≠l[j]:=fun e=>by have:=(List.getElem_inj hn).1 e;omega
 omega
theorem ZiB {w:World} {b:Nat} {m:List (Int×Value)} {txs:List HTx} {O:List Int} (h:WorldM w b m (ZM txs O (fun _=>none))):ZS (m.map (·.1))=ZV txs O []:=by
 refine Zjd txs O ?_ fun k=> ?_
 ·rw[Za1];exact ZfQ (Za0 _) ((Zo _).nodup_iff.2 h.nd)
 ·rw[Za1,(Zo _).mem_iff];exact h.keys k
set_option maxRecDepth 100000 in
set_option maxHeartbeats 8000000 in
theorem ZjM (F G:Nat→Prop) (w:World) (txs:List HTx) (ords:List HOrd) (A:Option Addr) (c:Nat) (B:Option Addr) (d:Nat) (E:Option Addr) (ec:Nat) (O:List Int) (H:Hist.lies F w ⟨txs,ords,A,c,B,d⟩) (HE:Ints G w E O) (hlO:O.length≤1000) (hops:∀t∈txs,t.ops.length≤1000):
  Calls Tryz.prog 39 #[.agg #[.slice A txs.length c,.slice B ords.length d],.slice E O.length ec] w (Zl9 w (Zbm txs O)):=by
 obtain⟨z,hz⟩:∃z,w.heap.size=z:=⟨_,rfl⟩;have hmm:= @run_makeMap Tryz.prog;obtain⟨wb,hwb⟩:∃wb,w.alloc (.cells #[.slice A txs.length c,.slice B ords.length d] 50)=wb:=⟨_,rfl⟩;have ub:Upd No w wb:=by rw[←hwb];exact(Upd.refl No w).alloc _
 have hsb:wb.heap.size=z+1:=by rw[←hwb,←hz];simp
 have bH:Blk wb z 50 [.slice A txs.length c,.slice B ords.length d]:=by rw[←hwb,←hz];exact Blk.new w _ _
 obtain⟨wc,hwc⟩:∃wc,wb.alloc (.map #[] 0)=wc:=⟨_,rfl⟩;have uc:Upd No wb wc:=by rw[←hwc];exact(Upd.refl No wb).alloc _
 have HW0:=Qh (show WorldM wc (z+1) [] (fun _=>none) by rw[←hwc,←hsb];exact WorldM.new wb);have HSC:=Qh (show wc.heap.size=z+2 by rw[←hwc];simp[hsb]);have HLT:=H.lt;rw[hz]at HLT;have HEL:Ints (fun i=>i<z) w E O:=by have:=HE.lt;rwa [hz]at this
 have U0:=Qh (ub.trans uc);have GHC:=Qh (HLT.upd (ub.trans uc) (fun _ _=>id));have GEC:=Qh (HEL.upd (ub.trans uc) (fun _ _=>id));have BHC:=Qh (bH.upd uc id);have HLO:=Qh hlO
 have HOPS:=Qh (show∀id,(ZJ txs id).length≤1000 from fun id=>by
  unfold ZJ
  cases hf:Ze txs id with
  |none=>exact Nat.zero_le _
  |some t=>exact hops t (Za8 hf))
 have HZ:=Qh hz;obtain⟨FS,hFS⟩:∃FS,Zbm txs O=FS:=⟨_,rfl⟩;have HFSS:=Qh hFS;rw[hFS];clear bH H HE HLT HEL ub uc hops hFS
 go_enter Tryz.func39,Tryz.ntmps39
 go_wp2;clear hwc hsb hmm hwb
 go_loopg [16] O.length (fun gk i wr=>∃(k:Nat) (m:List (Int×Value)),k+gk=O.length∧i= .int .i64 (k:Int)∧Hid (WorldM wr (z+1) m (ZM txs (O.take k) (fun _=>none)))∧Hid (Upd (One (z+1)) wc wr))
 case atStart=>exact⟨0,[],by omega,rfl,HW0,Qh (Upd.refl _ _)⟩
 case round=>
  clear HW0;obtain⟨k,m,hgk,rfl,hW,hu⟩:=hrel;have hlo:=HLO.out;have hFn:∀i,i<z→¬One (z+1) i:=fun i hi e=>by unfold One at e;omega
  have GHR:=Qh (GHC.out.upd hu.out hFn);have BHR:=Qh (BHC.out.upd hu.out (by unfold One;omega));have h0:∀W,Upd No wr W→W.cell? ⟨z,0,none⟩=some (.slice A txs.length c):=fun W u=>(BHR.out.upd u id).cell 0
  have h1:∀W,Upd No wr W→W.cell? ⟨z,1,none⟩=some (.slice B ords.length d):=fun W u=>(BHR.out.upd u id).cell 1
  have hr:Upd No wr wr:=Upd.refl _ _;have HZR:=Qh (show z+2≤wr.heap.size by have:=hu.out.size;have:=HSC.out;omega)
  by_cases hk:k<O.length
  ·obtain⟨ad,rfl,_,_,q0⟩:=(GEC.out.upd hu.out hFn).at_ hk;obtain⟨id,hid⟩:∃id,O[k]=id:=⟨_,rfl⟩;rw[hid]at q0;have i1:(0:Int)≤(k:Int):=Qn _;have i2:(k:Int)<(O.length:Int):=by omega
   have jw:IntKind.i64.wrap ((k:Int)+1)=(k:Int)+1:=IntWalk.i64_in _ (by omega)
   have HWS:=Qh (show∀x,ZeK (uid txs id) (ZJ txs id) (ZM txs (O.take k) (fun _=>none)) x=ZM txs (O.take (k+1)) (fun _=>none) x from fun x=>by
    rw[List.take_succ_eq_append_getElem hk,hid,ZbE,ZeJ,ZaZ,Zc7])
   have CF:=Qh (Zj3 _ wr txs ords A c B d id GHR.out)
   have HNO:=Qh (show(Ze txs id).isSome=false→ZJ txs id=[] from fun e=>by
    unfold ZJ
    cases hf:Ze txs id with
    |none=>rfl
    |some t=>rw[hf]at e;cases e)
   obtain⟨ui,hui⟩:∃ui,uid txs id=ui:=⟨_,rfl⟩;obtain⟨ud,hud⟩:∃ud,Zas txs id=ud:=⟨_,rfl⟩;obtain⟨us,hus⟩:∃us,ZJ txs id=us:=⟨_,rfl⟩;obtain⟨fi,hfi⟩:∃fi,(Ze txs id).isSome=fi:=⟨_,rfl⟩;rw[hui,hud,hus,hfi]at CF;rw[hui,hus]at HWS;rw[hus,hfi]at HNO;clear hid hui hud hus hfi
   go_wp2_with fail
   refine(CF.out).mono ?_;rintro e w5 ⟨A5,c5,rfl,hfew,hop,hu5⟩;obtain⟨y,hy⟩:∃y,w5.heap.size=y:=⟨_,rfl⟩;obtain⟨wt,hwt⟩:∃wt,w5.alloc (.cells #[.int .i64 ui,.bool ud,.slice A5 us.length c5] 85)=wt:=⟨_,rfl⟩;have ut:Upd No w5 wt:=by rw[←hwt];exact(Upd.refl No w5).alloc _
   have bT:Blk wt y 85 [.int .i64 ui,.bool ud,.slice A5 us.length c5]:=by rw[←hwt,←hy];exact Blk.new w5 _ _
   have t0:=bT.cell 0;have t1:=bT.cell 1;have t2:=bT.cell 2;simp only[Qz,Qs]at t0 t1 t2;have HWT:=Qh (hW.out.upd (hu5.trans ut) (fun e=>e));have HUT:=Qh (hu.out.then_ (hu5.trans ut) (fun _ e=>e.elim));have CW:=Qh (Zm5 _ wt (z+1) m _ HWT.out ui ud A5 c5 us (HOps.upd hop ut (fun _ _ e=>e)) hfew (fun i (hi:wr.heap.size≤i)=>by have:=HZR.out;omega));clear hfew hop hu5 ut bT CF
   cases fi
   ·have HUS:=Qh (HNO.out rfl);go_wp2
    go_roundg (gk-1)
    case measure=>omega
    case rel=>exact⟨k+1,m,by omega,by go_num,Qh (HWT.out.congr (fun x=>by rw[←HWS.out x,HUS.out];rfl)),HUT⟩
   ·go_wp2_with fail
    refine(CW.out).mono ?_;rintro e w7 ⟨rfl,⟨m7,hw7⟩,hu7⟩;go_wp2
    go_roundg (gk-1)
    case measure=>omega
    case rel=>exact⟨k+1,m7,by omega,by go_num,Qh (hw7.congr HWS.out),Qh (HUT.out.trans hu7)⟩
  ·obtain rfl:k=O.length:=by omega
   have hWf:WorldM wr (z+1) m (ZM txs O (fun _=>none)):=by have:=hW.out;rwa [List.take_length]at this
   have HKS:=Qh (ZiB hWf)
   have hml:m.length≤1000000:=by
    have h2:=congrArg List.length HKS.out;rw[Zb7,List.length_map]at h2;rw[h2];have h3:=Zb5 txs O [] (fun id _=>HOPS.out id);simp only[List.length_nil,Nat.zero_add]at h3;have:=Nat.mul_le_mul_left 1000 hlo;omega
   obtain⟨zk,hzk⟩:∃zk,wr.heap.size=zk:=⟨_,rfl⟩;obtain⟨wk,hwk⟩:∃wk,wr.alloc (.cells #[.map (some (z+1))] 124)=wk:=⟨_,rfl⟩;have uk:Upd No wr wk:=by rw[←hwk];exact(Upd.refl No wr).alloc _
   have bk:Blk wk zk 124 [.map (some (z+1))]:=by rw[←hwk,←hzk];exact Blk.new wr _ _
   have HWK:=Qh (hWf.upd uk (fun e=>e));have CS:=Qh (Znf wk 162 zk m Zki (ZmM wk zk (z+1) m (by have:=bk.cell 0;simpa using this) HWK.out.is) hml);have CK:=Qh (ZmL wr (some (z+1)));rw[hwk,hzk]at CK;have HUK:=Qh (hu.out.then_ uk (fun _ e=>e.elim));clear hW hWf hml uk bk h0 h1 hr hwk
   go_wp2_with fail
   refine(CK.out).mono ?_;rintro e w4 ⟨rfl,rfl⟩
   go_wp2_with fail
   refine(CS.out).mono ?_;rintro e w5 ⟨A5,c5,ks,rfl,hks,ho5,hu5⟩;have hkf:ks=ZV txs O []:=hks.trans HKS.out;have HFS:=Qh (show FS=ks.map fun k=>(k,Zae txs O k) by rw[←HFSS.out];unfold Zbm;rw[hkf]);have HI5:=Qh (show Ints (fun i=>wk.heap.size≤i∧i<w5.heap.size) w5 A5 ks from Ints.weak ((Ints.of_own ho5).lt' (fun _ e=>e)) (fun i _ (e:i<w5.heap.size∧wk.heap.size≤i)=>⟨e.2,e.1⟩));have HW5:=Qh (HWK.out.upd hu5 (fun e=>e))
   have hkl:ks.length≤1000000:=by
    rw[hkf];have h3:=Zb5 txs O [] (fun id _=>HOPS.out id);simp only[List.length_nil,Nat.zero_add]at h3;have:=Nat.mul_le_mul_left 1000 hlo;omega
   have HKL:=Qh hkl;have HU5:=Qh (HUK.out.then_ hu5 (fun _ e=>e.elim));have hfld:∀(a b c:Int) W,(Instr.field 36 (.agg #[.int .i64 a,.int .i64 b,.int .i64 c]) 0).run Tryz.prog W= .ok (.int .i64 a) W:=fun a b c W=>by kernel_rfl
   clear ho5 hu5 hks hkf hkl CS CK;go_wp2
   generalize gk=GK at*
   go_loopg [10,35] ks.length (fun gk s i wx=>∃(j:Nat) (A6:Option Addr) (c6:Nat) (xs:List (Int×Int)),j+gk=ks.length∧i= .int .i64 (j:Int)∧s= .slice A6 xs.length c6∧Hid (xs=(ks.take j).map fun k=>(k,Zae txs O k))∧
    Hid (wx.ownsRow w5.heap.size 121 2 (.slice A6 xs.length c6) xs.length (ZbN xs))∧Hid (Upd No w5 wx))
   case atStart=>exact⟨0,none,0,[],by omega,rfl,rfl,Qh rfl,Qh (World.ownsRow_nil _ _ _ _),Qh (Upd.refl _ _)⟩
   case round=>
    obtain⟨j,A6,c6,xs,hgj,rfl,rfl,hxs,hown,hux⟩:=hrel
    by_cases hlj:j<ks.length
    ·obtain⟨ad1,rfl,_,_,q1⟩:=(HI5.out.upd hux.out (fun _ _ e=>e)).at_ hlj;obtain⟨key,hkey⟩:∃key,ks[j]=key:=⟨_,rfl⟩;rw[hkey]at q1;have hkl:=HKL.out;have j0:(0:Int)≤(j:Int):=Qn _;have j1:(j:Int)<(ks.length:Int):=by omega
     have jwj:IntKind.i64.wrap ((j:Int)+1)=(j:Int)+1:=IntWalk.i64_in _ (by omega);have hxl:xs.length=j:=by rw[hxs.out,List.length_map,List.length_take];omega
     have e1:=(HW5.out.upd hux.out (fun e=>e)).look1 key;have hfv:=Zkv txs O key;obtain⟨⟨va,vb,vc⟩,hvv⟩:∃u,(ZM txs O (fun _=>none) key).getD ⟨0,0,0⟩=u:=⟨_,rfl⟩;rw[hvv]at e1 hfv;simp only at hfv;unfold Zab at e1;simp only at e1
     have HXS:=Qh (show xs++[(key,va)]=(ks.take (j+1)).map fun k=>(k,Zae txs O k) by
      rw[List.take_succ_eq_append_getElem hlj,hkey,List.map_append,←hxs.out,List.map_cons,List.map_nil,hfv])
     have hownx:=hown.out;have hsz:w5.heap.size≤wr.heap.size:=hux.out.size;have hxb:xs.length≤1000000:=by omega
     clear hkey hvv hfv hxs hown;have HXL:=Qh hxl;clear hxl
     go_wp2_with (at_builtin;refine Z8 rfl rfl Zf8 (v:= .slice A6 xs.length c6) (n:=xs.length) (xs:=ZbN xs) (cells:=[.int .i64 key,.int .i64 va]) (by rfl) rfl hownx rfl rfl (by omega) (by omega) (by omega) ?_;intro g8 c8 w8 hown8 hu8 hg8 hlt8)
     go_roundg (gk-1)
     case measure=>omega
     case rel=>exact⟨j+1,some ⟨g8,0,none⟩,c8,xs++[(key,va)],by omega,by go_num,by simp,HXS,Qh (by rw[Zfe];simpa using hown8),Qh (hux.out.then_ hu8 (fun i e=>Or.inr (hownx.lt i e).1))⟩
    ·obtain rfl:j=ks.length:=by omega
     have hxe:xs=FS:=by rw[hxs.out,List.take_length,HFS.out]
     subst hxe;go_wp2
     go_ret
     exact⟨A6,c6,rfl,ZB hown.out (by have h1:=U0.out.size;have h2:=HU5.out.size;have:=HZ.out;omega),U0.out.then_ (HU5.out.then_ hux.out (fun _ e=>e.elim)) (fun i e=>Or.inr (by unfold One at e;have:=HZ.out;omega))⟩
end
end Go.Proofs.YtonblekdfinpkaaGreat
