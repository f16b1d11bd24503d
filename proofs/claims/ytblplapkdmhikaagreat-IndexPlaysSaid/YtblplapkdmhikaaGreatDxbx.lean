/- An index, the document's: drop, ids, readers, users, weight. -/
import Derived.Test.YtblplapkdmhikaaGreatDxbw
namespace Go.Proofs.YtblplapkdmhikaaGreat
set_option linter.unusedVariables false
set_option linter.unusedSimpArgs false
section
open Go.RowKit
theorem ZiD {l:List HTx} {k:Nat} {x:HTx} {di:Int} (hk:k<l.length) (hx:l[k]=x) (h:x.id≠di):Zd (l.take (k+1)) di=Zd (l.take k) di++[x]:=by
 unfold Zd;rw[List.take_succ_eq_append_getElem hk,List.filter_append,hx,List.filter_cons_of_pos (by simpa using h)];rfl
theorem ZjT {l:List HTx} {k:Nat} {x:HTx} {di:Int} (hk:k<l.length) (hx:l[k]=x) (h:x.id=di):Zd (l.take (k+1)) di=Zd (l.take k) di:=by
 unfold Zd;rw[List.take_succ_eq_append_getElem hk,List.filter_append,hx,List.filter_cons_of_neg (by simpa using h)];simp
set_option maxRecDepth 100000 in
set_option maxHeartbeats 4000000 in
theorem Zji {F:Nat→Prop} {w:World} {A:Option Addr} {c:Nat} {l:List HTx} (di:Int) (H:Recs F w A 3 (l.map HTx.cells)) (hl:l.length≤1000):
  Calls Tryz.prog 38 #[.slice A l.length c,.int .i64 di] w fun e w'=>∃A' c',e= .returned (.tuple #[.slice A' (Zd l di).length c',.bool (decide ((Zd l di).length<l.length))])∧w'.ownsRow w.heap.size 81 3 (.slice A' (Zd l di).length c') (Zd l di).length (txF (Zd l di))∧Upd No w w':=by
 obtain⟨wb,hwb⟩:∃wb,wb=w:=⟨_,rfl⟩;subst hwb;have HH:=Qh H;clear H
 go_enter Tryz.func38,Tryz.ntmps38
 go_wp2
 go_loopg [6,11] l.length (fun gk s i wr=>∃(k:Nat) (A5:Option Addr) (c5:Nat) (xs:List HTx),k+gk=l.length∧i= .int .i64 (k:Int)∧s= .slice A5 xs.length c5∧Hid (xs=Zd (l.take k) di)∧xs.length≤k∧
  Hid (wr.ownsRow wb.heap.size 81 3 (.slice A5 xs.length c5) xs.length (txF xs))∧Hid (Upd No wb wr))
 case atStart=>exact⟨0,none,0,[],by omega,rfl,rfl,Qh rfl,by simp,Qh (World.ownsRow_nil _ _ _ _),Qh (Upd.refl _ _)⟩
 case round=>
  obtain⟨k,A5,c5,xs,hgk,rfl,rfl,hs,hxl,hown,hu⟩:=hrel
  by_cases hlt:k<l.length
  ·obtain⟨ad,hAd,q0,q1,q2⟩:=ZbC (Recs.upd HH.out hu.out (fun _ _=>id)) hlt;obtain⟨x,hx⟩:∃x,l[k]=x:=⟨_,rfl⟩;simp only[hx]at q0 q1 q2;subst hAd;have X:=Qh hx;have b1:(0:Int)≤(k:Int):=Qn _;have b2:(k:Int)<(l.length:Int):=by omega
   obtain⟨wx,hwx⟩:∃wx,wr.alloc (.cells #[.int .i64 x.id,.bool x.done,.slice x.A x.ops.length x.c] 81)=wx:=⟨_,rfl⟩;obtain⟨zx,hzx⟩:∃zx,wr.heap.size=zx:=⟨_,rfl⟩;have ux:Upd No wr wx:=by rw[←hwx];exact(Upd.refl No wr).alloc _
   have bX:Blk wx zx 81 [.int .i64 x.id,.bool x.done,.slice x.A x.ops.length x.c]:=by rw[←hwx,←hzx];exact Blk.new wr _ _
   have HUX:=Qh (hu.out.trans ux);have BX:=Qh bX;have x0:=bX.cell 0;have x1:=bX.cell 1;have x2:=bX.cell 2;simp only[Qz,Qs]at x0 x1 x2;have HOX:=Qh (Zb hown.out ux (fun _ _=>id));clear hx ux bX hown hu
   by_cases he:x.id=di
   ·have heb:(x.id != di)=false:=by simpa using he
    have HS:=Qh (ZjT hlt X.out he);clear he;go_wp2
    go_roundg (gk-1)
    case measure=>omega
    case rel=>exact⟨k+1,A5,c5,xs,by omega,by go_num,rfl,Qh (by rw[HS.out];exact hs.out),by omega,HOX,HUX⟩
   ·have heb:(x.id != di)=true:=by simpa using he
    have HS:=Qh (ZiD hlt X.out he);clear he
    go_wp2_with (at_builtin;refine ZS rfl rfl ZaQ (base:=wb.heap.size) (v:= .slice A5 xs.length c5) (n:=xs.length) (xs:=txF xs) (cells:=[.int .i64 x.id,.bool x.done,.slice x.A x.ops.length x.c]) (by rfl) rfl HOX.out rfl rfl (by omega) (by omega) (by have:=HUX.out.size;omega) ?_;intro g7 c7 w7 hown6 hu6 hg6 hlt6;have HO7:=Qh (show w7.ownsRow wb.heap.size 81 3 (.slice (some ⟨g7,0,none⟩) (xs++[x]).length c7) (xs++[x]).length (txF (xs++[x])) by rw[ZaP,List.length_append];exact hown6);have HU7:=Qh (show Upd No wb w7 from HUX.out.then_ hu6 (fun i e=>Or.inr (HOX.out.lt i e).1));have hln:(xs++[x]).length=xs.length+1:=(by simp);skip;clear hown6 hu6 hg6)
    go_roundg (gk-1)
    case measure=>omega
    case rel=>exact⟨k+1,some ⟨g7,0,none⟩,c7,xs++[x],by omega,by go_num,by simp,Qh (by rw[HS.out,hs.out]),by omega,HO7,HU7⟩
  ·obtain rfl:k=l.length:=by omega
   have HS:=Qh (show Zd l di=xs by rw[hs.out,List.take_length]);obtain⟨bv,hbv⟩:∃b,decide ((xs.length:Int)<(l.length:Int))=b:=⟨_,rfl⟩;have HB:=Qh (show decide (xs.length<l.length)=bv by rw[←hbv];exact decide_eq_decide.2 (by omega));clear hs;go_wp2
   go_ret2
   rw[HS.out];exact⟨A5,c5,by rw[HB.out];rfl,hown.out,hu.out⟩
set_option maxRecDepth 100000 in
set_option maxHeartbeats 4000000 in
theorem Zkh {F:Nat→Prop} {w:World} {A:Option Addr} {c:Nat} {l:List HTx} (H:Recs F w A 3 (l.map HTx.cells)) (hl:l.length≤1000):
  Calls Tryz.prog 123 #[.slice A l.length c] w (Zak w (l.map (·.id))):=by
 have HH:=Qh H;clear H
 go_enter Tryz.func123,Tryz.ntmps123
 go_wp2
 go_loopg [3,8] l.length (fun gk s i wr=>∃(k:Nat) (A5:Option Addr) (c5:Nat) (xs:List Int),k+gk=l.length∧i= .int .i64 (k:Int)∧s= .slice A5 xs.length c5∧Hid (xs=(l.take k).map (·.id))∧xs.length≤k∧
  Hid (wr.ownsRow w.heap.size 3 1 (.slice A5 xs.length c5) xs.length (xs.map (Value.int .i64)))∧Hid (Upd No w wr))
 case atStart=>exact⟨0,none,0,[],by omega,rfl,rfl,Qh rfl,by simp,Qh (World.ownsRow_nil _ _ _ _),Qh (Upd.refl _ _)⟩
 case round=>
  obtain⟨k,A5,c5,xs,hgk,rfl,rfl,hs,hxl,hown,hu⟩:=hrel
  by_cases hlt:k<l.length
  ·obtain⟨ad,hAd,q0,q1,q2⟩:=ZbC (Recs.upd HH.out hu.out (fun _ _=>id)) hlt;obtain⟨x,hx⟩:∃x,l[k]=x:=⟨_,rfl⟩;simp only[hx]at q0 q1 q2;subst hAd;have X:=Qh hx;have b1:(0:Int)≤(k:Int):=Qn _;have b2:(k:Int)<(l.length:Int):=by omega
   obtain⟨wx,hwx⟩:∃wx,wr.alloc (.cells #[.int .i64 x.id,.bool x.done,.slice x.A x.ops.length x.c] 81)=wx:=⟨_,rfl⟩;obtain⟨zx,hzx⟩:∃zx,wr.heap.size=zx:=⟨_,rfl⟩;have ux:Upd No wr wx:=by rw[←hwx];exact(Upd.refl No wr).alloc _
   have bX:Blk wx zx 81 [.int .i64 x.id,.bool x.done,.slice x.A x.ops.length x.c]:=by rw[←hwx,←hzx];exact Blk.new wr _ _
   have HUX:=Qh (hu.out.trans ux);have BX:=Qh bX;have x0:=bX.cell 0;have x1:=bX.cell 1;have x2:=bX.cell 2;simp only[Qz,Qs]at x0 x1 x2;have HOX:=Qh (Zb hown.out ux (fun _ _=>id));have HS:=Qh (show(l.take (k+1)).map (·.id)=(l.take k).map (·.id)++[x.id] by rw[List.take_succ_eq_append_getElem hlt,List.map_append,X.out];rfl);clear hx ux bX hown hu
   go_wp2_with (at_builtin;refine ZS rfl rfl Zq (base:=w.heap.size) (v:= .slice A5 xs.length c5) (n:=xs.length) (xs:=xs.map (Value.int .i64)) (cells:=[.int .i64 x.id]) (by rfl) (by rfl) HOX.out rfl rfl (by omega) (by omega) (by have:=HUX.out.size;omega) ?_;intro g9 c9 w9 hown9 hu9 hg9 hlt9;have HO9:=Qh hown9;have HU9:=Qh hu9;clear hown9 hu9)
   go_roundg (gk-1)
   case measure=>omega
   case rel=>exact⟨k+1,some ⟨g9,0,none⟩,c9,xs++[x.id],by omega,by go_num,by simp,Qh (by rw[HS.out,hs.out]),by simp;omega,Qh (by have:=HO9.out;simpa using this),Qh (HUX.out.then_ HU9.out fun i e=> .inr (HOX.out.lt i e).1)⟩
  ·obtain rfl:k=l.length:=by omega
   have HS:=Qh (show l.map (·.id)=xs by rw[hs.out,List.take_length]);clear hs;go_wp2
   go_ret
   rw[HS.out];exact⟨A5,c5,rfl,hown.out,hu.out⟩
theorem Zf1 {p:HTx→Bool} {l:List HTx} {k:Nat} {x:HTx} (hk:k<l.length) (hx:l[k]=x) (h:p x=true):Z5 p (l.take (k+1))=Z5 p (l.take k)++[x.id]:=by
 unfold Z5;rw[List.take_succ_eq_append_getElem hk,List.filter_append,hx,List.filter_cons_of_pos h,List.map_append];rfl
theorem Zhd {p:HTx→Bool} {l:List HTx} {k:Nat} {x:HTx} (hk:k<l.length) (hx:l[k]=x) (h:p x=false):Z5 p (l.take (k+1))=Z5 p (l.take k):=by
 unfold Z5;rw[List.take_succ_eq_append_getElem hk,List.filter_append,hx,List.filter_cons_of_neg (by rw[h];decide)];simp
set_option maxRecDepth 100000 in
set_option maxHeartbeats 4000000 in
theorem Zgt {F:Nat→Prop} {w:World} {A:Option Addr} {c:Nat} {l:List HTx} (v:Ver) (H:TxsY F w A l) (hl:l.length≤1000) (ho:∀t∈l,t.ops.length≤4095):
  Calls Tryz.prog 124 #[.slice A l.length c,.agg v.cells.toArray] w (Zak w (Zs l v)):=by
 obtain⟨vt,vk,vn⟩:=v;obtain⟨z,hz⟩:∃z,w.heap.size=z:=⟨_,rfl⟩;obtain⟨wb,hwb⟩:∃wb,w.alloc (.cells #[.int .i64 vt,.int .i64 vk,.int .i64 vn] 36)=wb:=⟨_,rfl⟩;have ub:Upd No w wb:=by rw[←hwb];exact(Upd.refl No w).alloc _
 have bb:Blk wb z 36 [.int .i64 vt,.int .i64 vk,.int .i64 vn]:=by rw[←hwb,←hz];exact Blk.new w _ _
 have v0:∀W,Upd No wb W→W.cell? ⟨z,0,none⟩=some (.int .i64 vt):=fun W u=>(bb.upd u id).cell 0
 have v1:∀W,Upd No wb W→W.cell? ⟨z,1,none⟩=some (.int .i64 vk):=fun W u=>(bb.upd u id).cell 1
 have v2:∀W,Upd No wb W→W.cell? ⟨z,2,none⟩=some (.int .i64 vn):=fun W u=>(bb.upd u id).cell 2
 have HH:=Qh (Recs.upd H.1 ub (fun _ _=>id));have HT:=Qh (H.upd ub (fun _ _=>id)).2;have HOL:=Qh ho;have UB:=Qh ub;have hbz:Upd No wb wb:=Upd.refl _ _;unfold Ver.cells;clear ub bb H ho
 go_enter Tryz.func124,Tryz.ntmps124
 go_wp2
 go_loopg [5,10] l.length (fun gk s i wr=>∃(k:Nat) (A5:Option Addr) (c5:Nat) (xs:List Int),k+gk=l.length∧i= .int .i64 (k:Int)∧s= .slice A5 xs.length c5∧Hid (xs=Zs (l.take k) ⟨vt,vk,vn⟩)∧xs.length≤k∧
  Hid (wr.ownsRow wb.heap.size 3 1 (.slice A5 xs.length c5) xs.length (xs.map (Value.int .i64)))∧Hid (Upd No wb wr))
 case atStart=>exact⟨0,none,0,[],by omega,rfl,rfl,Qh rfl,by simp,Qh (World.ownsRow_nil _ _ _ _),Qh hbz⟩
 case round=>
  obtain⟨k,A5,c5,xs,hgk,rfl,rfl,hs,hxl,hown,hu⟩:=hrel
  by_cases hlt:k<l.length
  ·obtain⟨ad,hAd,q0,q1,q2⟩:=ZbC (Recs.upd HH.out hu.out (fun _ _=>id)) hlt;obtain⟨x,hx⟩:∃x,l[k]=x:=⟨_,rfl⟩;simp only[hx]at q0 q1 q2;subst hAd;have X:=Qh hx;have b1:(0:Int)≤(k:Int):=Qn _;have b2:(k:Int)<(l.length:Int):=by omega
   obtain⟨wx,hwx⟩:∃wx,wr.alloc (.cells #[.int .i64 x.id,.bool x.done,.slice x.A x.ops.length x.c] 81)=wx:=⟨_,rfl⟩;obtain⟨zx,hzx⟩:∃zx,wr.heap.size=zx:=⟨_,rfl⟩;have ux:Upd No wr wx:=by rw[←hwx];exact(Upd.refl No wr).alloc _
   have bX:Blk wx zx 81 [.int .i64 x.id,.bool x.done,.slice x.A x.ops.length x.c]:=by rw[←hwx,←hzx];exact Blk.new wr _ _
   have HUX:=Qh (hu.out.trans ux);have BX:=Qh bX;have x0:=bX.cell 0;have x1:=bX.cell 1;have x2:=bX.cell 2;simp only[Qz,Qs]at x0 x1 x2;have hxo:=HOL.out x (by rw[←hx];exact List.getElem_mem hlt);have hxt:=HT.out x (by rw[←hx];exact List.getElem_mem hlt);have HOX:=Qh (Zb hown.out ux (fun _ _=>id));have CN:=Qh (fun W (u:Upd No wx W)=>Ze5 F W x.id x.done x.A x.c x.ops ((hxt.upd (hu.out.trans (ux.trans u)) (fun _ _=>id)).1) (by omega));have e0:∀W,Upd No wx W→W.cell? ⟨z,0,none⟩=some (.int .i64 vt):=fun W u=>v0 W (HUX.out.trans u)
   have e1:∀W,Upd No wx W→W.cell? ⟨z,1,none⟩=some (.int .i64 vk):=fun W u=>v1 W (HUX.out.trans u)
   have e2:∀W,Upd No wx W→W.cell? ⟨z,2,none⟩=some (.int .i64 vn):=fun W u=>v2 W (HUX.out.trans u)
   have f0:∀W,Upd No wx W→W.cell? ⟨zx,0,none⟩=some (.int .i64 x.id):=fun W u=>(BX.out.upd u id).cell 0
   have f1:∀W,Upd No wx W→W.cell? ⟨zx,1,none⟩=some (.bool x.done):=fun W u=>(BX.out.upd u id).cell 1
   have f2:∀W,Upd No wx W→W.cell? ⟨zx,2,none⟩=some (.slice x.A x.ops.length x.c):=fun W u=>(BX.out.upd u id).cell 2
   have hdx:Upd No wx wx.drew:=(Upd.refl _ _).drew;obtain⟨nl,hnl⟩:∃nl,Zw x.id [] x.ops=nl:=⟨_,rfl⟩;have hnle:nl.length≤4095:=by rw[←hnl];have:=Zbs x.id x.ops [];simp at this;omega
   obtain⟨bv,hbv⟩:∃b,nl.contains (⟨vt,vk,vn⟩:Ver)=b:=⟨_,rfl⟩;have HP:=Qh (show ZaB ⟨vt,vk,vn⟩ x=bv by unfold ZaB Zy;rw[←ZcO,hnl,hbv]);rw[hnl]at CN;have CI:=Qh (fun(G:Nat→Prop) W (B:Option Addr) (d:Nat) (h:VersR G W B nl)=>Zkg G W B d nl ⟨vt,vk,vn⟩ h (by omega));rw[hbv]at CI;unfold Ver.cells at CI;clear hx ux bX hown hu hxo hxt hnl hbv;go_wp2;clear q0 q1 q2 x0 x1 x2;refine wp_region_noPanic ?_;refine wp_region_held_drew (S:=(fun W'=>Upd No wx W')) (by kernel_rfl) ?_ (fun hHeld=> ?_)
   ·(first|exact hdx|exact hHeld|exact hU3|exact hU4)
   refine wpK 0 rfl ?_;refine wpK 2 rfl ?_;refine wpR [1] ?_;refine wpC rfl (fun K hK=> ?_) AllReadyH.nil;go_simp
   (first
  |(go_at_call 185;refine(CN.out _ hHeld).mono ?_;rintro e w3 ⟨A3,c3,rfl,ho3,hu3⟩;have hU3:Upd No wx w3:=hHeld.trans hu3))
   try (go_wp2_with fail)
   refine hK.out _ _ ?_ (fun hHeld=> ?_)
   ·(first|exact hdx|exact hHeld|exact hU3|exact hU4)
   clear hK K
   try simp only[Act.put,sT,sS,sZ]
   refine wpR [3] ?_;refine wpC rfl (fun K hK=> ?_) AllReadyH.nil;go_simp
   (first
  |(go_at_call 204;refine(CI.out _ _ _ _ (ZU ho3)).mono ?_;rintro e w4 ⟨rfl,hu4⟩;have hU4:Upd No wx w4:=hU3.trans hu4))
   try (go_wp2_with fail)
   refine hK.out _ _ ?_ (fun hHeld=> ?_)
   ·(first|exact hdx|exact hHeld|exact hU3|exact hU4)
   clear hK K
   try simp only[Act.put,sT,sS,sZ]
   refine wpD (NoPanic.normal ?_);have HOY:=Qh (Zb HOX.out hU4 (fun _ _=>id));have HUY:=Qh (HUX.out.trans hU4);have g0:=f0 _ hU4;clear ho3 hu3 hU3 hu4 hU4 hHeld e0 e1 e2 f0 f1 f2 hdx
   cases bv with
   |false=>
    have HS:=Qh (Zhd (p:=ZaB ⟨vt,vk,vn⟩) hlt X.out HP.out);go_wp2
    go_roundg (gk-1)
    case measure=>omega
    case rel=>exact⟨k+1,A5,c5,xs,by omega,by go_num,rfl,Qh (by unfold Zs;rw[HS.out];exact hs.out),by omega,HOY,HUY⟩
   |true=>
    have HS:=Qh (Zf1 (p:=ZaB ⟨vt,vk,vn⟩) hlt X.out HP.out)
    go_wp2_with (at_builtin;refine ZS rfl rfl Zq (base:=wb.heap.size) (v:= .slice A5 xs.length c5) (n:=xs.length) (xs:=xs.map (Value.int .i64)) (cells:=[.int .i64 x.id]) (by rfl) (by rfl) HOY.out rfl rfl (by omega) (by omega) (by have:=HUY.out.size;omega) ?_;intro g9 c9 w9 hown9 hu9 hg9 hlt9;have HO9:=Qh hown9;have HU9:=Qh hu9;clear hown9 hu9)
    go_roundg (gk-1)
    case measure=>omega
    case rel=>exact⟨k+1,some ⟨g9,0,none⟩,c9,xs++[x.id],by omega,by go_num,by simp,Qh (by unfold Zs;rw[HS.out,hs.out];rfl),by simp;omega,Qh (by have:=HO9.out;simpa using this),Qh (HUY.out.then_ HU9.out fun i e=> .inr (HOY.out.lt i e).1)⟩
  ·obtain rfl:k=l.length:=by omega
   have HS:=Qh (show Zs l ⟨vt,vk,vn⟩=xs by rw[hs.out,List.take_length]);clear hs;go_wp2
   go_ret
   rw[HS.out];exact⟨A5,c5,rfl,ZJ hown.out UB.out.size,UB.out.trans hu.out⟩
theorem Zhh (w:World) (i0:Int) (dn:Bool) (A:Option Addr) (n c:Nat) (hn:n≤1000000):Calls Tryz.prog 206 #[.agg #[.int .i64 i0,.bool dn,.slice A n c]] w fun e w'=>e= .returned (.int .i64 ((n:Int)+1))∧Upd No w w':=by
 have bB:=Blk.new w 81 [.int .i64 i0,.bool dn,.slice A n c];have g2:=bB.cell 2;simp only[Qz,Qs]at g2;have hw1:IntKind.i64.wrap ((n:Int)+1)=(n:Int)+1:=IntWalk.i64_in _ (by omega);clear bB
 go_enter Tryz.func206,Tryz.ntmps206
 go_wp2
 go_ret
 exact⟨rfl,(Upd.refl No w).alloc _⟩
theorem ZfF {l:List HTx} {k:Nat} {x:HTx} (hk:k<l.length) (hx:l[k]=x):Zk (l.take (k+1))=Zk (l.take k)+(x.ops.length+1):=by
 unfold Zk;rw[List.take_succ_eq_append_getElem hk,List.map_append,List.sum_append,hx];simp
set_option maxRecDepth 100000 in
set_option maxHeartbeats 4000000 in
theorem Zhg {F:Nat→Prop} {w:World} {A:Option Addr} {c:Nat} {l:List HTx} {B:Value} (H:Recs F w A 3 (l.map HTx.cells)) (hl:l.length≤1000) (ho:∀t∈l,t.ops.length≤4095):
  Calls Tryz.prog 128 #[.agg #[.slice A l.length c,.slice none 0 0]] w fun e w'=>e= .returned (.int .i64 (Zk l:Int))∧Upd No w w':=by
 obtain⟨z,hz⟩:∃z,w.heap.size=z:=⟨_,rfl⟩;obtain⟨wb,hwb⟩:∃wb,w.alloc (.cells #[.slice A l.length c,.slice none 0 0] 29)=wb:=⟨_,rfl⟩;have ub:Upd No w wb:=by rw[←hwb];exact(Upd.refl No w).alloc _
 have bb:Blk wb z 29 [.slice A l.length c,.slice none 0 0]:=by rw[←hwb,←hz];exact Blk.new w _ _
 have v0:=bb.cell 0;simp only[Qz]at v0;have HH:=Qh (Recs.upd H ub (fun _ _=>id));have HOL:=Qh ho;have UB:=Qh ub;clear ub bb H ho
 go_enter Tryz.func128,Tryz.ntmps128
 go_wp2;clear v0
 go_loopg [3,9] l.length (fun gk s i wr=>∃(k n:Nat),k+gk=l.length∧i= .int .i64 (k:Int)∧s= .int .i64 (n:Int)∧Hid (n=Zk (l.take k))∧n≤4096*k∧Hid (Upd No wb wr))
 case atStart=>exact⟨0,0,by omega,rfl,rfl,Qh rfl,by omega,Qh (Upd.refl _ _)⟩
 case round=>
  obtain⟨k,n,hgk,rfl,rfl,hs,hxl,hu⟩:=hrel
  by_cases hlt:k<l.length
  ·obtain⟨ad,hAd,q0,q1,q2⟩:=ZbC (Recs.upd HH.out hu.out (fun _ _=>id)) hlt;obtain⟨x,hx⟩:∃x,l[k]=x:=⟨_,rfl⟩;simp only[hx]at q0 q1 q2;subst hAd;have X:=Qh hx;have b1:(0:Int)≤(k:Int):=Qn _;have b2:(k:Int)<(l.length:Int):=by omega
   obtain⟨wx,hwx⟩:∃wx,wr.alloc (.cells #[.int .i64 x.id,.bool x.done,.slice x.A x.ops.length x.c] 81)=wx:=⟨_,rfl⟩;obtain⟨zx,hzx⟩:∃zx,wr.heap.size=zx:=⟨_,rfl⟩;have ux:Upd No wr wx:=by rw[←hwx];exact(Upd.refl No wr).alloc _
   have bX:Blk wx zx 81 [.int .i64 x.id,.bool x.done,.slice x.A x.ops.length x.c]:=by rw[←hwx,←hzx];exact Blk.new wr _ _
   have HUX:=Qh (hu.out.trans ux);have BX:=Qh bX;have x0:=bX.cell 0;have x1:=bX.cell 1;have x2:=bX.cell 2;simp only[Qz,Qs]at x0 x1 x2;have hxo:=HOL.out x (by rw[←hx];exact List.getElem_mem hlt);have HS:=Qh (ZfF hlt X.out);have CW:=Qh (fun W=>Zhh W x.id x.done x.A x.ops.length x.c (by omega));have hw1:IntKind.i64.wrap ((n:Int)+((x.ops.length:Int)+1))=((n+(x.ops.length+1):Nat):Int):=by rw[IntWalk.i64_in _ (by omega)];omega
   clear hx ux bX hu
   go_wp2_with fail
   refine(CW.out _).mono ?_;rintro e w4 ⟨rfl,hu4⟩;go_wp2
   go_roundg (gk-1)
   case measure=>omega
   case rel=>exact⟨k+1,n+(x.ops.length+1),by omega,by go_num,rfl,Qh (by rw[HS.out,hs.out]),by omega,Qh (HUX.out.trans hu4)⟩
  ·obtain rfl:k=l.length:=by omega
   have HS:=Qh (show Zk l=n by rw[hs.out,List.take_length]);clear hs;go_wp2
   go_ret
   exact⟨by rw[HS.out];rfl,UB.out.trans hu.out⟩
theorem ZiI {α:Type} {p:α→Bool} {l:List α} {k:Nat} {x:α} (hk:k<l.length) (hx:l[k]=x):(l.take (k+1)).any p=((l.take k).any p||p x):=by
 rw[List.take_succ_eq_append_getElem hk,List.any_append,hx];simp
set_option maxRecDepth 100000 in
set_option maxHeartbeats 4000000 in
theorem Zic {F:Nat→Prop} {w:World} {A:Option Addr} {c:Nat} {l:List HTx} (di:Int) (H:TxsY F w A l) (hl:l.length≤1000) (ho:∀t∈l,t.ops.length≤4095):
  Calls Tryz.prog 125 #[.slice A l.length c,.int .i64 di] w (Zak w (Zaw l di)):=by
 have HH:=Qh H.1;have HT:=Qh H.2;have HOL:=Qh ho;clear H ho
 go_enter Tryz.func125,Tryz.ntmps125
 go_wp2
 go_loopg [5,13] l.length (fun gk s i wr=>∃(k:Nat) (A5:Option Addr) (c5:Nat) (xs:List Int),k+gk=l.length∧i= .int .i64 (k:Int)∧s= .slice A5 xs.length c5∧Hid (xs=Zaw (l.take k) di)∧xs.length≤k∧
  Hid (wr.ownsRow w.heap.size 3 1 (.slice A5 xs.length c5) xs.length (xs.map (Value.int .i64)))∧Hid (Upd No w wr))
 case atStart=>exact⟨0,none,0,[],by omega,rfl,rfl,Qh rfl,by simp,Qh (World.ownsRow_nil _ _ _ _),Qh (Upd.refl _ _)⟩
 case round=>
  obtain⟨k,A5,c5,xs,hgk,rfl,rfl,hs,hxl,hown,hu⟩:=hrel
  by_cases hlt:k<l.length
  ·obtain⟨ad,hAd,q0,q1,q2⟩:=ZbC (Recs.upd HH.out hu.out (fun _ _=>id)) hlt;obtain⟨x,hx⟩:∃x,l[k]=x:=⟨_,rfl⟩;simp only[hx]at q0 q1 q2;subst hAd;have X:=Qh hx;have b1:(0:Int)≤(k:Int):=Qn _;have b2:(k:Int)<(l.length:Int):=by omega
   obtain⟨wx,hwx⟩:∃wx,wr.alloc (.cells #[.int .i64 x.id,.bool x.done,.slice x.A x.ops.length x.c] 81)=wx:=⟨_,rfl⟩;obtain⟨zx,hzx⟩:∃zx,wr.heap.size=zx:=⟨_,rfl⟩;have ux:Upd No wr wx:=by rw[←hwx];exact(Upd.refl No wr).alloc _
   have bX:Blk wx zx 81 [.int .i64 x.id,.bool x.done,.slice x.A x.ops.length x.c]:=by rw[←hwx,←hzx];exact Blk.new wr _ _
   have HUX:=Qh (hu.out.trans ux);have BX:=Qh bX;have x0:=bX.cell 0;have x1:=bX.cell 1;have x2:=bX.cell 2;simp only[Qz,Qs]at x0 x1 x2;have hxo:=HOL.out x (by rw[←hx];exact List.getElem_mem hlt);have hxt:=HT.out x (by rw[←hx];exact List.getElem_mem hlt);have HOX:=Qh (Zb hown.out ux (fun _ _=>id));have CN:=Qh (Ze5 F wx x.id x.done x.A x.c x.ops ((hxt.upd (hu.out.trans ux) (fun _ _=>id)).1) (by omega));obtain⟨nl,hnl⟩:∃nl,Zw x.id [] x.ops=nl:=⟨_,rfl⟩;have hnle:nl.length≤4095:=by rw[←hnl];have:=Zbs x.id x.ops [];simp at this;omega
   have HP:=Qh (show ZbQ di x=nl.any fun v=>v.tx==di by unfold ZbQ Zy;rw[←ZcO,hnl]);rw[hnl]at CN;clear hx ux bX hown hu hxo hxt hnl
   go_wp2_with fail
   refine(CN.out).mono ?_;rintro e w3 ⟨A3,c3,rfl,ho3,hu3⟩;have HV3:=Qh (ZU ho3);have HO3:=Qh (Zb HOX.out hu3 (fun _ _=>id));have HU3:=Qh (HUX.out.trans hu3);have B3:=Qh (BX.out.upd hu3 id);clear ho3 hu3 q0 q1 q2 x0 x1 x2;go_wp2;obtain⟨wo,hwo⟩:∃wo,wo=wr:=⟨_,rfl⟩;subst hwo
   generalize gk=GK at*
   go_loopg [8,20] nl.length (fun gk s i wr=>∃(j:Nat) (b:Bool),j+gk=nl.length∧i= .int .i64 (j:Int)∧s= .bool b∧Hid (b=(nl.take j).any fun v=>v.tx==di)∧Hid (Upd No w3 wr))
   case atStart=>exact⟨0,false,by omega,rfl,rfl,Qh rfl,Qh (Upd.refl _ _)⟩
   case round=>
    obtain⟨j,b,hgj,rfl,rfl,hb,hu⟩:=hrel
    by_cases hltj:j<nl.length
    ·obtain⟨ad3,hA3,p0,p1,p2⟩:=VersR.at_ (VersR.upd HV3.out hu.out (fun _ _=>id)) hltj;obtain⟨⟨vt,vk,vn⟩,hv⟩:∃v,nl[j]=v:=⟨_,rfl⟩;rw[hv]at p0 p1 p2;simp only at p0 p1 p2;subst hA3;have j1:(0:Int)≤(j:Int):=Qn _;have j2:(j:Int)<(nl.length:Int):=by omega
     have HS:=Qh (ZiI (p:=fun v:Ver=>v.tx==di) hltj hv);simp only at HS;obtain⟨wy,hwy⟩:∃wy,wr.alloc (.cells #[.int .i64 vt,.int .i64 vk,.int .i64 vn] 36)=wy:=⟨_,rfl⟩;obtain⟨zy,hzy⟩:∃zy,wr.heap.size=zy:=⟨_,rfl⟩;have uy:Upd No wr wy:=by rw[←hwy];exact(Upd.refl No wr).alloc _
     have bY:Blk wy zy 36 [.int .i64 vt,.int .i64 vk,.int .i64 vn]:=by rw[←hwy,←hzy];exact Blk.new wr _ _
     have y0:=bY.cell 0;simp only[Qz]at y0;have HUY:=Qh (hu.out.trans uy);clear hv uy bY hu
     cases b with
     |true=>
      go_wp2
      go_roundg (gk-1)
      case measure=>omega
      case rel=>exact⟨j+1,true,by omega,by go_num,rfl,Qh (by rw[HS.out,←hb.out];rfl),HUY⟩
     |false=>
      obtain⟨bq,hbq⟩:∃q,(vt==di)=q:=⟨_,rfl⟩;have HQ:=Qh hbq;go_wp2
      go_roundg (gk-1)
      case measure=>omega
      case rel=>exact⟨j+1,bq,by omega,by go_num,rfl,Qh (by rw[HS.out,←hb.out,HQ.out];rfl),HUY⟩
    ·obtain rfl:j=nl.length:=by omega
     have HQ:=Qh (show ZbQ di x=b by rw[HP.out,hb.out,List.take_length]);have HOY:=Qh (Zb HO3.out hu.out (fun _ _=>id));have HUY:=Qh (HU3.out.trans hu.out);have g0:=(B3.out.upd hu.out id).cell 0;simp only[Qz]at g0;clear hb hu
     cases b with
     |false=>
      have HS:=Qh (Zhd (p:=ZbQ di) hlt X.out HQ.out);go_wp2
      go_roundg (GK-1)
      case measure=>omega
      case rel=>exact⟨k+1,A5,c5,xs,by omega,by go_num,rfl,Qh (by unfold Zaw;rw[HS.out];exact hs.out),by omega,HOY,HUY⟩
     |true=>
      have HS:=Qh (Zf1 (p:=ZbQ di) hlt X.out HQ.out)
      go_wp2_with (at_builtin;refine ZS rfl rfl Zq (base:=w.heap.size) (v:= .slice A5 xs.length c5) (n:=xs.length) (xs:=xs.map (Value.int .i64)) (cells:=[.int .i64 x.id]) (by rfl) (by rfl) HOY.out rfl rfl (by omega) (by omega) (by have:=HUY.out.size;omega) ?_;intro g9 c9 w9 hown9 hu9 hg9 hlt9;have HO9:=Qh hown9;have HU9:=Qh hu9;clear hown9 hu9)
      go_roundg (GK-1)
      case measure=>omega
      case rel=>exact⟨k+1,some ⟨g9,0,none⟩,c9,xs++[x.id],by omega,by go_num,by simp,Qh (by unfold Zaw;rw[HS.out,hs.out];rfl),by simp;omega,Qh (by have:=HO9.out;simpa using this),Qh (HUY.out.then_ HU9.out fun i e=> .inr (HOY.out.lt i e).1)⟩
  ·obtain rfl:k=l.length:=by omega
   have HS:=Qh (show Zaw l di=xs by rw[hs.out,List.take_length]);clear hs;go_wp2
   go_ret
   rw[HS.out];exact⟨A5,c5,rfl,hown.out,hu.out⟩
end
end Go.Proofs.YtblplapkdmhikaaGreat
