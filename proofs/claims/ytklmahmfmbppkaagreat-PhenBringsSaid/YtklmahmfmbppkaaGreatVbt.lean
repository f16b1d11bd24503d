/- Phenomena, the document's: who is reached by edges (tenterref30.reaches). -/
import Derived.Test.YtklmahmfmbppkaaGreatVbn
import Derived.Test.YtklmahmfmbppkaaGreatVbp
import Derived.Test.YtklmahmfmbppkaaGreatVbr
namespace Go.Proofs.YtklmahmfmbppkaaGreat
set_option linter.unusedVariables false
set_option linter.unusedSimpArgs false
section
open Go.RowKit
set_option maxRecDepth 100000 in
set_option maxHeartbeats 4000000 in
theorem Zla (F:Nat→Prop) (w:World) (A:Option Addr) (c:Nat) (l:List Edge) (i0:Int) (h:Walk F w A l) (hl:l.length≤2000):
  Calls Tryz.prog 51 #[.slice A l.length c,.int .i64 i0] w (Zc7 w (ZQ l i0)):=by
 have HA:=Qh h;have HO1:=Qh (show(w.alloc (.cells #[.int .i64 i0] 3)).ownsRow w.heap.size 3 1 (.slice (some ⟨w.heap.size,0,none⟩) 1 1) 1 ([i0].map (Value.int .i64)) from Zad (Blk.new w _ _) (Nat.le_refl _) (Nat.le_refl _) rfl rfl (by decide) rfl);have HU1:=Qh (show Upd No w (w.alloc (.cells #[.int .i64 i0] 3)) from(Upd.refl No w).alloc _);have H0:=Qh (show itE l (l.length+1) [i0]=ZQ l i0 from rfl);clear h
 go_enter Tryz.func51,Tryz.ntmps51
 go_wp2
 go_loopg [5,6] (l.length+1) (fun gk s i wr=>∃(k:Nat) (A5:Option Addr) (c5:Nat) (xs:List Int),k+gk=l.length+1∧i= .int .i64 (k:Int)∧s= .slice A5 xs.length c5∧Hid (itE l gk xs=ZQ l i0)∧Hid (xs.length≤1+k*l.length)∧
  Hid (wr.ownsRow w.heap.size 3 1 (.slice A5 xs.length c5) xs.length (xs.map (Value.int .i64)))∧Hid (Upd No w wr))
 case atStart=>exact⟨0,some ⟨w.heap.size,0,none⟩,1,[i0],by omega,rfl,rfl,H0,Qh (by simp),HO1,HU1⟩
 case round=>
  clear H0 HO1 HU1;obtain⟨k,A5,c5,xs,hgk,rfl,rfl,hs,hxl,hown,hu⟩:=hrel
  by_cases hk:k<l.length+1
  ·obtain⟨g1,rfl⟩:∃g1,gk=g1+1:=⟨gk-1,by omega⟩;have e1:(k:Int)≤(l.length:Int):=by omega
   obtain⟨RR,hRR⟩:∃RR,Zas xs l=RR:=⟨_,rfl⟩;have HS:=Qh (show itE l g1 RR=ZQ l i0 by rw[←hRR];exact hs.out);have HR0:=Qh (show Zas xs (l.drop 0)=RR by rw[List.drop_zero];exact hRR);obtain⟨wo,hwo⟩:∃wo,wo=wr:=⟨_,rfl⟩;subst hwo;have kw:IntKind.i64.wrap ((k:Int)+1)=(k:Int)+1:=IntWalk.i64_in _ (by omega);have hxx:xs.length≤1+2000*2000:=Nat.le_trans hxl.out (Nat.add_le_add_left (Nat.mul_le_mul (by omega) hl) _);clear hs hRR;go_wp2
   generalize hm0:g1+1=m0 at*
   go_loopg [5,19] l.length (fun gk s i wx=>∃(j:Nat) (A6:Option Addr) (c6:Nat) (ys:List Int),j+gk=l.length∧i= .int .i64 (j:Int)∧s= .slice A6 ys.length c6∧Hid (Zas ys (l.drop j)=RR)∧Hid (ys.length≤xs.length+j)∧
    Hid (wx.ownsRow w.heap.size 3 1 (.slice A6 ys.length c6) ys.length (ys.map (Value.int .i64)))∧Hid (Upd No w wx))
   case atStart=>exact⟨0,A5,c5,xs,by omega,rfl,rfl,HR0,Qh (by omega),hown,hu⟩
   case round=>
    clear HR0;obtain⟨j,A6,c6,ys,hgj,rfl,rfl,hr,hyl,hown6,hu6⟩:=hrel
    by_cases hj:j<l.length
    ·obtain⟨ax,rfl,q0,q1,q2,q3⟩:=(HA.out.upd hu6.out (fun _ _=>id)).at_ hj;obtain⟨x,hx⟩:∃x,l[j]=x:=⟨_,rfl⟩;rw[hx]at q0 q1 q2 q3;have hst:=hr.out;rw[show l.drop j=x::l.drop (j+1) by rw[←hx];exact List.drop_eq_getElem_cons hj]at hst;have hst:Zas (if x.f∈ys∧x.t∉ys then ys++[x.t] else ys) (l.drop (j+1))=RR:=hst;clear hx hr;have b1:(0:Int)≤(j:Int):=Qn _;have b2:(j:Int)<(l.length:Int):=by omega
     have jw:IntKind.i64.wrap ((j:Int)+1)=(j:Int)+1:=IntWalk.i64_in _ (by omega);have uA:=(Upd.refl No wr).alloc (.cells #[.int .i64 x.f,.int .i64 x.t,.int .i64 x.k,.int .i64 x.key] 61);have bo:=Blk.new wr 61 [.int .i64 x.f,.int .i64 x.t,.int .i64 x.k,.int .i64 x.key];have HO6:=Qh (Za hown6.out uA (fun _ _=>id));have g0:=bo.cell 0;have g1:=bo.cell 1;simp only[Qz,Qs]at g0 g1;have HU6:=Qh (hu6.out.trans uA);have HZ:=Qh HU6.out.size;have hyy:ys.length≤5000000:=by have:=hyl.out;omega
     have HI6:=Qh (Ints.of_own HO6.out);clear uA bo hown6 hu6
     by_cases hf:x.f∈ys
     ·have HF:=Qh (ZeY _ _ A6 c6 ys x.f HI6.out (by omega) (decide_eq_true hf))
      by_cases ht:x.t∈ys
      ·have HT:=Qh (ZeY _ _ A6 c6 ys x.t HI6.out (by omega) (decide_eq_true ht));have HST:=Qh (show Zas ys (l.drop (j+1))=RR by rw[if_neg (fun e=>e.2 ht)]at hst;exact hst);clear hst hf ht
       go_wp2_with fail
       refine(HF.out).mono ?_;rintro e w2 ⟨rfl,rfl⟩
       go_wp2_with fail
       refine(HT.out).mono ?_;rintro e w2 ⟨rfl,rfl⟩;go_wp2
       go_roundg (gk-1)
       case measure=>omega
       case rel=>exact⟨j+1,A6,c6,ys,by omega,by simp,rfl,HST,Qh (by have:=hyl.out;omega),HO6,HU6⟩
      ·have HT:=Qh (ZeY _ _ A6 c6 ys x.t HI6.out (by omega) (decide_eq_false ht));have HST:=Qh (show Zas (ys++[x.t]) (l.drop (j+1))=RR by rw[if_pos ⟨hf,ht⟩]at hst;exact hst);clear hst hf ht
       go_wp2_with fail
       refine(HF.out).mono ?_;rintro e w2 ⟨rfl,rfl⟩
       go_wp2_with fail
       refine(HT.out).mono ?_;rintro e w2 ⟨rfl,rfl⟩
       go_wp2_with (at_builtin;refine Z0 rfl rfl Zdg (v:= .slice A6 ys.length c6) (n:=ys.length) (xs:=ys.map (Value.int .i64)) (cells:=[.int .i64 x.t]) (c:=1) (by rfl) (by show Value.slice (some ⟨wr.heap.size+1,0,none⟩) 1 1=_;simp) HO6.out rfl rfl (by omega) (by omega) HZ.out ?_;intro g9 c9 w9 hown9 hu9 hg9 hlt9;have HO9:=Qh hown9;have HU9:=Qh hu9;clear hown9 hu9 hg9 hlt9)
       go_roundg (gk-1)
       case measure=>omega
       case rel=>exact⟨j+1,some ⟨g9,0,none⟩,c9,ys++[x.t],by omega,by simp,by simp,HST,Qh (by simp;have:=hyl.out;omega),Qh (by simpa using HO9.out),Qh (HU6.out.then_ HU9.out (fun i e=>Or.inr (HO6.out.lt i e).1))⟩
     ·have HF:=Qh (ZeY _ _ A6 c6 ys x.f HI6.out (by omega) (decide_eq_false hf));have HST:=Qh (show Zas ys (l.drop (j+1))=RR by rw[if_neg (fun e=>hf e.1)]at hst;exact hst);clear hst hf
      go_wp2_with fail
      refine(HF.out).mono ?_;rintro e w2 ⟨rfl,rfl⟩;go_wp2
      go_roundg (gk-1)
      case measure=>omega
      case rel=>exact⟨j+1,A6,c6,ys,by omega,by simp,rfl,HST,Qh (by have:=hyl.out;omega),HO6,HU6⟩
    ·obtain rfl:j=l.length:=by omega
     have HY:=Qh (show ys=RR by have:=hr.out;rw[List.drop_length]at this;exact this);clear hr;go_wp2
     go_roundg (m0-1)
     case measure=>omega
     case rel=>exact⟨k+1,A6,c6,ys,by omega,by simp,rfl,Qh (by rw[HY.out,←hm0];exact HS.out),Qh (by have:=hyl.out;have:=hxl.out;rw[Nat.succ_mul];omega),hown6,hu6⟩
  ·obtain rfl:k=l.length+1:=by omega
   obtain rfl:gk=0:=by omega
   have HX:=Qh (show xs=ZQ l i0 from hs.out);have e1:¬(((l.length+1:Nat):Int)≤(l.length:Int)):=by omega
   clear hs;go_wp2
   go_ret
   rw[←HX.out];exact⟨A5,c5,rfl,hown.out,hu.out⟩
end
/- Phenomena,the document's:whether there is a closed walk (tenterref30.Round). -/
section
open Go.RowKit
set_option maxRecDepth 100000 in
set_option maxHeartbeats 4000000 in
theorem ZjA (F:Nat→Prop) (w:World) (A:Option Addr) (c:Nat) (l:List Edge) (mask must:Int) (h:Walk F w A l) (hl:l.length≤2000):
  Calls Tryz.prog 17 #[.slice A l.length c,.int .i64 mask,.int .i64 must] w fun e w'=>e= .returned (.bool (ZC l mask must))∧Upd No w w':=by
 obtain⟨q,hq⟩:∃q,(l.filter fun e=>Zq mask e.k)=q:=⟨_,rfl⟩;obtain⟨q2,hq2⟩:∃q2,(q.filter fun e=>Zq must e.k)=q2:=⟨_,rfl⟩;have hql:q.length≤2000:=by rw[←hq];exact Nat.le_trans (List.length_filter_le _ _) hl
 have hql2:q2.length≤2000:=by rw[←hq2];exact Nat.le_trans (List.length_filter_le _ _) hql
 obtain⟨b,hb⟩:∃b,ZC l mask must=b:=⟨_,rfl⟩;have hbb:((if (bits .and .i64 must 14==0)=true then q else q2).any fun e=>decide (e.f∈ZQ q e.t))=b:=by rw[←hb];unfold ZC;simp only[hq,hq2]
 rw[hb];have C1:=Qh (ZoY F w A c l mask h (by omega));rw[hq]at C1;clear hb hq h
 cases hm:(bits .and .i64 must 14==0)
 ·rw[hm,if_neg (by decide)]at hbb;have HB:=Qh hbb;clear hbb
  go_enter Tryz.func17,Tryz.ntmps17
  go_wp2_with fail
  refine(C1.out).mono ?_;rintro e w1 ⟨A1,c1,rfl,ho1,hu1⟩;have hx1:Walk (fun i=>w.heap.size≤i) w1 A1 q:=Recs.weak (Recs.of_own Zai (by omega) ho1) (fun i _ e=>(ho1.lt i e).1);have C2:=Qh (ZoY _ w1 A1 c1 q must hx1 (by omega));rw[hq2]at C2
  go_wp2_with fail
  refine(C2.out).mono ?_;rintro e w2 ⟨A2,c2,rfl,ho2,hu2⟩;have HQ:=Qh (hx1.upd hu2 (fun _ _=>id));have HS:Hid (Walk (fun i=>w1.heap.size≤i) w2 A2 q2):=Qh (Recs.weak (Recs.of_own Zai (by omega) ho2) (fun i _ e=>(ho2.lt i e).1));have HU2:=Qh (hu1.trans hu2);clear hx1 ho1 ho2 hu1 hu2 C1 C2 hq2;go_wp2
  go_loopg [23] q2.length (fun gk i wr=>∃k:Nat,k+gk=q2.length∧i= .int .i64 (k:Int)∧Hid (((q2).drop k).any (fun e=>decide (e.f∈ZQ q e.t))=b)∧Hid (Upd No w2 wr))
  case atStart=>exact⟨0,by omega,rfl,Qh (by rw[List.drop_zero];exact HB.out),Qh (Upd.refl _ _)⟩
  case round=>
   clear HB;obtain⟨k,hgk,rfl,hs,hu⟩:=hrel
   by_cases hk:k<q2.length
   ·obtain⟨ax,rfl,q0,q1,q2',q3⟩:=(HS.out.upd hu.out (fun _ _=>id)).at_ hk;obtain⟨x,hx⟩:∃x,q2[k]=x:=⟨_,rfl⟩;rw[hx]at q0 q1 q2' q3;have hst:=hs.out;rw[show(q2).drop k=x::(q2).drop (k+1) by rw[←hx];exact List.drop_eq_getElem_cons hk,List.any_cons]at hst;have HST:=Qh hst;clear hx hs hst;have b1:(0:Int)≤(k:Int):=Qn _;have b2:(k:Int)<(q2.length:Int):=by omega
    have jw:IntKind.i64.wrap ((k:Int)+1)=(k:Int)+1:=IntWalk.i64_in _ (by omega);obtain⟨wz,hwz⟩:∃wz,wr.alloc (.cells #[.int .i64 x.f,.int .i64 x.t,.int .i64 x.k,.int .i64 x.key] 61)=wz:=⟨_,rfl⟩;have uz:Upd No wr wz:=by rw[←hwz];exact(Upd.refl No wr).alloc _
    have bo:Blk wz wr.heap.size 61 [.int .i64 x.f,.int .i64 x.t,.int .i64 x.k,.int .i64 x.key]:=by rw[←hwz];exact Blk.new wr _ _
    have g0:∀W,Upd No wz W→W.cell? ⟨wr.heap.size,0,none⟩=some (.int .i64 x.f):=fun W u=>(bo.upd u id).cell 0
    have g1:∀W,Upd No wz W→W.cell? ⟨wr.heap.size,1,none⟩=some (.int .i64 x.t):=fun W u=>(bo.upd u id).cell 1
    have HU:=Qh (hu.out.trans uz);have CR:=Qh (fun W (u:Upd No wz W)=>Zla _ W _ c1 q x.t (HQ.out.upd ((hu.out.trans uz).trans u) (fun _ _=>id)) (by omega));have HRL:=Qh (Zg2 q x.t);have hzz:Upd No wz wz:=Upd.refl _ _;clear uz bo hu
    cases hin:decide (x.f∈ZQ q x.t)
    ·have HIN:=Qh hin;have HN:=Qh (show((q2).drop (k+1)).any (fun e=>decide (e.f∈ZQ q e.t))=b by have:=HST.out;rw[hin,Bool.false_or]at this;exact this);clear hin;go_wp2;refine wp_region_noPanic ?_;refine wp_region_held_drew (S:=(fun W'=>Upd No wz W')) (by kernel_rfl) ?_ (fun hHeld=> ?_)
     ·(first|exact hzz.drew|exact hHeld.trans hu3|exact hHeld)
     refine wpK 0 rfl ?_;refine wpK 1 rfl ?_;refine wpK 2 rfl ?_;refine wpK 4 rfl ?_;refine wpK 5 rfl ?_;refine wpR [3] ?_;refine wpC rfl (fun K hK=> ?_) AllReadyH.nil;go_simp
     (first
  |(go_at_call 51;refine(CR.out _ hHeld).mono ?_;rintro e w3 ⟨A3,c3,rfl,ho3,hu3⟩;have HI3:=Qh (Ints.of_own ho3);clear ho3))
     try (go_wp2_with fail)
     refine hK.out _ _ ?_ (fun hHeld=> ?_)
     ·(first|exact hzz.drew|exact hHeld.trans hu3|exact hHeld)
     clear hK K
     try simp only[Act.put,sT,sS,sZ]
     refine wpR [6] ?_;refine wpC rfl (fun K hK=> ?_) AllReadyH.nil;go_simp
     (first
  |(go_at_call 50;refine(ZeY _ _ A3 c3 (ZQ q x.t) x.f HI3.out (by have:=HRL.out;omega) HIN.out).mono ?_;rintro e w4 ⟨rfl,rfl⟩))
     try (go_wp2_with fail)
     refine hK.out _ _ ?_ (fun hHeld=> ?_)
     ·(first|exact hzz.drew|exact hHeld.trans hu3|exact hHeld)
     clear hK K
     try simp only[Act.put,sT,sS,sZ]
     refine wpD (NoPanic.normal ?_);have HU3:=Qh (HU.out.trans hHeld);clear hHeld;go_wp2
     go_roundg (gk-1)
     case measure=>omega
     case rel=>exact⟨k+1,by omega,by simp,HN,HU3⟩
    ·have HIN:=Qh hin;have HN:=Qh (show true=b by have:=HST.out;rw[hin,Bool.true_or]at this;exact this);clear hin;go_wp2;refine wp_region_noPanic ?_;refine wp_region_held_drew (S:=(fun W'=>Upd No wz W')) (by kernel_rfl) ?_ (fun hHeld=> ?_)
     ·(first|exact hzz.drew|exact hHeld.trans hu3|exact hHeld)
     refine wpK 0 rfl ?_;refine wpK 1 rfl ?_;refine wpK 2 rfl ?_;refine wpK 4 rfl ?_;refine wpK 5 rfl ?_;refine wpR [3] ?_;refine wpC rfl (fun K hK=> ?_) AllReadyH.nil;go_simp
     (first
  |(go_at_call 51;refine(CR.out _ hHeld).mono ?_;rintro e w3 ⟨A3,c3,rfl,ho3,hu3⟩;have HI3:=Qh (Ints.of_own ho3);clear ho3))
     try (go_wp2_with fail)
     refine hK.out _ _ ?_ (fun hHeld=> ?_)
     ·(first|exact hzz.drew|exact hHeld.trans hu3|exact hHeld)
     clear hK K
     try simp only[Act.put,sT,sS,sZ]
     refine wpR [6] ?_;refine wpC rfl (fun K hK=> ?_) AllReadyH.nil;go_simp
     (first
  |(go_at_call 50;refine(ZeY _ _ A3 c3 (ZQ q x.t) x.f HI3.out (by have:=HRL.out;omega) HIN.out).mono ?_;rintro e w4 ⟨rfl,rfl⟩))
     try (go_wp2_with fail)
     refine hK.out _ _ ?_ (fun hHeld=> ?_)
     ·(first|exact hzz.drew|exact hHeld.trans hu3|exact hHeld)
     clear hK K
     try simp only[Act.put,sT,sS,sZ]
     refine wpD (NoPanic.normal ?_);have HU3:=Qh (HU.out.trans hHeld);clear hHeld;go_wp2
     go_ret
     exact⟨by rw[←HN.out];rfl,HU2.out.trans HU3.out⟩
   ·obtain rfl:k=q2.length:=by omega
    have HN:=Qh (show false=b by have:=hs.out;rw[List.drop_length]at this;exact this);clear hs;go_wp2
    go_ret
    exact⟨by rw[←HN.out];rfl,HU2.out.trans hu.out⟩
 ·rw[hm,if_pos rfl]at hbb;have HB:=Qh hbb;clear hbb
  go_enter Tryz.func17,Tryz.ntmps17
  go_wp2_with fail
  refine(C1.out).mono ?_;rintro e w1 ⟨A1,c1,rfl,ho1,hu1⟩;have hx1:Walk (fun i=>w.heap.size≤i) w1 A1 q:=Recs.weak (Recs.of_own Zai (by omega) ho1) (fun i _ e=>(ho1.lt i e).1);have C2:=Qh (ZoY _ w1 A1 c1 q must hx1 (by omega))
  go_wp2_with fail
  refine(C2.out).mono ?_;rintro e w2 ⟨A2,c2,rfl,ho2,hu2⟩;have HQ:=Qh (hx1.upd hu2 (fun _ _=>id));have HS:=Qh HQ.out;have HU2:=Qh (hu1.trans hu2);clear hx1 ho1 ho2 hu1 hu2 C1 C2 hq2;go_wp2
  go_loopg [23] q.length (fun gk i wr=>∃k:Nat,k+gk=q.length∧i= .int .i64 (k:Int)∧Hid (((q).drop k).any (fun e=>decide (e.f∈ZQ q e.t))=b)∧Hid (Upd No w2 wr))
  case atStart=>exact⟨0,by omega,rfl,Qh (by rw[List.drop_zero];exact HB.out),Qh (Upd.refl _ _)⟩
  case round=>
   clear HB;obtain⟨k,hgk,rfl,hs,hu⟩:=hrel
   by_cases hk:k<q.length
   ·obtain⟨ax,rfl,q0,q1,q2',q3⟩:=(HS.out.upd hu.out (fun _ _=>id)).at_ hk;obtain⟨x,hx⟩:∃x,q[k]=x:=⟨_,rfl⟩;rw[hx]at q0 q1 q2' q3;have hst:=hs.out;rw[show(q).drop k=x::(q).drop (k+1) by rw[←hx];exact List.drop_eq_getElem_cons hk,List.any_cons]at hst;have HST:=Qh hst;clear hx hs hst;have b1:(0:Int)≤(k:Int):=Qn _;have b2:(k:Int)<(q.length:Int):=by omega
    have jw:IntKind.i64.wrap ((k:Int)+1)=(k:Int)+1:=IntWalk.i64_in _ (by omega);obtain⟨wz,hwz⟩:∃wz,wr.alloc (.cells #[.int .i64 x.f,.int .i64 x.t,.int .i64 x.k,.int .i64 x.key] 61)=wz:=⟨_,rfl⟩;have uz:Upd No wr wz:=by rw[←hwz];exact(Upd.refl No wr).alloc _
    have bo:Blk wz wr.heap.size 61 [.int .i64 x.f,.int .i64 x.t,.int .i64 x.k,.int .i64 x.key]:=by rw[←hwz];exact Blk.new wr _ _
    have g0:∀W,Upd No wz W→W.cell? ⟨wr.heap.size,0,none⟩=some (.int .i64 x.f):=fun W u=>(bo.upd u id).cell 0
    have g1:∀W,Upd No wz W→W.cell? ⟨wr.heap.size,1,none⟩=some (.int .i64 x.t):=fun W u=>(bo.upd u id).cell 1
    have HU:=Qh (hu.out.trans uz);have CR:=Qh (fun W (u:Upd No wz W)=>Zla _ W _ c1 q x.t (HQ.out.upd ((hu.out.trans uz).trans u) (fun _ _=>id)) (by omega));have HRL:=Qh (Zg2 q x.t);have hzz:Upd No wz wz:=Upd.refl _ _;clear uz bo hu
    cases hin:decide (x.f∈ZQ q x.t)
    ·have HIN:=Qh hin;have HN:=Qh (show((q).drop (k+1)).any (fun e=>decide (e.f∈ZQ q e.t))=b by have:=HST.out;rw[hin,Bool.false_or]at this;exact this);clear hin;go_wp2;refine wp_region_noPanic ?_;refine wp_region_held_drew (S:=(fun W'=>Upd No wz W')) (by kernel_rfl) ?_ (fun hHeld=> ?_)
     ·(first|exact hzz.drew|exact hHeld.trans hu3|exact hHeld)
     refine wpK 0 rfl ?_;refine wpK 1 rfl ?_;refine wpK 2 rfl ?_;refine wpK 4 rfl ?_;refine wpK 5 rfl ?_;refine wpR [3] ?_;refine wpC rfl (fun K hK=> ?_) AllReadyH.nil;go_simp
     (first
  |(go_at_call 51;refine(CR.out _ hHeld).mono ?_;rintro e w3 ⟨A3,c3,rfl,ho3,hu3⟩;have HI3:=Qh (Ints.of_own ho3);clear ho3))
     try (go_wp2_with fail)
     refine hK.out _ _ ?_ (fun hHeld=> ?_)
     ·(first|exact hzz.drew|exact hHeld.trans hu3|exact hHeld)
     clear hK K
     try simp only[Act.put,sT,sS,sZ]
     refine wpR [6] ?_;refine wpC rfl (fun K hK=> ?_) AllReadyH.nil;go_simp
     (first
  |(go_at_call 50;refine(ZeY _ _ A3 c3 (ZQ q x.t) x.f HI3.out (by have:=HRL.out;omega) HIN.out).mono ?_;rintro e w4 ⟨rfl,rfl⟩))
     try (go_wp2_with fail)
     refine hK.out _ _ ?_ (fun hHeld=> ?_)
     ·(first|exact hzz.drew|exact hHeld.trans hu3|exact hHeld)
     clear hK K
     try simp only[Act.put,sT,sS,sZ]
     refine wpD (NoPanic.normal ?_);have HU3:=Qh (HU.out.trans hHeld);clear hHeld;go_wp2
     go_roundg (gk-1)
     case measure=>omega
     case rel=>exact⟨k+1,by omega,by simp,HN,HU3⟩
    ·have HIN:=Qh hin;have HN:=Qh (show true=b by have:=HST.out;rw[hin,Bool.true_or]at this;exact this);clear hin;go_wp2;refine wp_region_noPanic ?_;refine wp_region_held_drew (S:=(fun W'=>Upd No wz W')) (by kernel_rfl) ?_ (fun hHeld=> ?_)
     ·(first|exact hzz.drew|exact hHeld.trans hu3|exact hHeld)
     refine wpK 0 rfl ?_;refine wpK 1 rfl ?_;refine wpK 2 rfl ?_;refine wpK 4 rfl ?_;refine wpK 5 rfl ?_;refine wpR [3] ?_;refine wpC rfl (fun K hK=> ?_) AllReadyH.nil;go_simp
     (first
  |(go_at_call 51;refine(CR.out _ hHeld).mono ?_;rintro e w3 ⟨A3,c3,rfl,ho3,hu3⟩;have HI3:=Qh (Ints.of_own ho3);clear ho3))
     try (go_wp2_with fail)
     refine hK.out _ _ ?_ (fun hHeld=> ?_)
     ·(first|exact hzz.drew|exact hHeld.trans hu3|exact hHeld)
     clear hK K
     try simp only[Act.put,sT,sS,sZ]
     refine wpR [6] ?_;refine wpC rfl (fun K hK=> ?_) AllReadyH.nil;go_simp
     (first
  |(go_at_call 50;refine(ZeY _ _ A3 c3 (ZQ q x.t) x.f HI3.out (by have:=HRL.out;omega) HIN.out).mono ?_;rintro e w4 ⟨rfl,rfl⟩))
     try (go_wp2_with fail)
     refine hK.out _ _ ?_ (fun hHeld=> ?_)
     ·(first|exact hzz.drew|exact hHeld.trans hu3|exact hHeld)
     clear hK K
     try simp only[Act.put,sT,sS,sZ]
     refine wpD (NoPanic.normal ?_);have HU3:=Qh (HU.out.trans hHeld);clear hHeld;go_wp2
     go_ret
     exact⟨by rw[←HN.out];rfl,HU2.out.trans HU3.out⟩
   ·obtain rfl:k=q.length:=by omega
    have HN:=Qh (show false=b by have:=hs.out;rw[List.drop_length]at this;exact this);clear hs;go_wp2
    go_ret
    exact⟨by rw[←HN.out];rfl,HU2.out.trans hu.out⟩
end
/- Phenomena:phen.Round is walked. -/
section
open Go.RowKit
theorem ZpD {x:Edge} {m:List Edge} {mask:Int} (h:Zq mask x.k=true):Zi (x::m) mask=x::Zi m mask:=by unfold Zi;rw[List.filter_cons_of_pos (p:=fun e:Edge=>Zq mask e.k) h]
theorem Zh0 {x:Edge} {m:List Edge} {mask:Int} (h:Zq mask x.k=false):Zi (x::m) mask=Zi m mask:=by unfold Zi;rw[List.filter_cons_of_neg (p:=fun e:Edge=>Zq mask e.k) (by rw[h];decide)]
theorem ZlP {l:List Edge} {mask:Int}:∀a∈ZdU l mask,ZhN (Zbm l mask).length a:=by
 intro a ha;have hn:=Zea l mask;rw[hn.arcs]at ha;obtain⟨e,he,rfl⟩:=List.mem_map.1 ha;have hk:=ZiK he;have hh:=hn.has e he;have a1:=ZcB hh.1;have a2:=ZcB hh.2;unfold Zbe ZhN;refine⟨?_,?_,?_,?_,hk.1,hk.2⟩<;>simp only<;>omega
theorem Zlt {N:Nat} {q:List HArc} {i:Nat} (h:i<N):(Zcv N q).getD i 0=(Zbk q i:Int):=by
 unfold Zcv;rw[List.getD_eq_getElem?_getD,List.getElem?_map,List.getElem?_range h];rfl
theorem ZrQ (l:List Edge) (mask must:Int):(ZdU l mask).any (inP (Zcv (Zbm l mask).length (Zcc l mask)) must)=ZC l mask must:=by
 rw[←Znk];unfold ZjE Zp8
 have h:∀a∈ZdU l mask,inP (Zcv (Zbm l mask).length (Zcc l mask)) must a=(decide (Zbk (Zcc l mask) a.f.toNat=Zbk (Zcc l mask) a.t.toNat)&&((bits .and .i64 must 14==0)||Zq must a.kind)):=by
  intro a ha;obtain⟨h1,h2,h3,h4,_,_⟩:=ZlP a ha;unfold inP;rw[Zlt (by omega),Zlt (by omega)]
  congr 1
  rw[Bool.eq_iff_iff,decide_eq_true_eq,decide_eq_true_eq];omega
 rw[Bool.eq_iff_iff,List.any_eq_true,List.any_eq_true]
 constructor
 ·rintro⟨a,ha,h2⟩;exact⟨a,ha,by rw[←h a ha];exact h2⟩
 ·rintro⟨a,ha,h2⟩;exact⟨a,ha,by rw[h a ha];exact h2⟩
theorem ZnJ (ids:List Int) (ac:List HArc) (x:Edge) (m:List Edge):Zc0 ids ac (x::m)=Zc0 (ZP (ZP ids x.f) x.t) (ac++[⟨(Zg (ZP ids x.f) x.f:Int),(Zg (ZP (ZP ids x.f) x.t) x.t:Int),x.k,0⟩]) m:=rfl
theorem ZmO (l:List HArc) (a:HArc):ZfU (l++[a])=ZfU l++a.cells:=by unfold ZfU;rw[List.map_append,List.flatten_append];simp
set_option maxRecDepth 100000 in
set_option maxHeartbeats 8000000 in
theorem ZjR (F:Nat→Prop) (w:World) (A:Option Addr) (c:Nat) (l:List Edge) (mask must:Int) (h:Walk F w A l) (hl:l.length≤2000):
  Calls Tryz.prog 16 #[.slice A l.length c,.int .i64 mask,.int .i64 must] w fun e w'=>e= .returned (.bool (ZC l mask must))∧Upd No w w':=by
 obtain⟨II,hII⟩:∃II,Zbm l mask=II:=⟨_,rfl⟩;obtain⟨AA,hAA⟩:∃AA,ZdU l mask=AA:=⟨_,rfl⟩;have hlI:=Zrr l mask;have hlA:=Zp7 l mask;have hok:=ZlP (l:=l) (mask:=mask);have hany:=ZrQ l mask must;unfold Zcc at hany;rw[hII]at hlI hok hany;rw[hAA]at hlA hok hany;have HNUM:=Qh (show Zc0 [] [] (Zi (l.drop 0) mask)=(II,AA) by rw[List.drop_zero,←hII,←hAA];rfl);have HLI:=Qh hlI;have HLA:=Qh hlA;have HOK:=Qh hok;have HANY:=Qh hany;have HA:=Qh (show Walk (fun i=>i<w.heap.size) w A l from Recs.lt h);have hroom:Zb3 (II.length:Int)=II.length:=by unfold Zb3;omega
 have HROOM:=Qh hroom;obtain⟨rv,hrv⟩:∃rv,ZC l mask must=rv:=⟨_,rfl⟩;rw[hrv]at HANY ⊢;clear hII hAA hlI hlA hok hany h hroom hrv;obtain⟨z,hz⟩:∃z,w.heap.size=z:=⟨_,rfl⟩;obtain⟨w1,hw1⟩:∃w1,w.alloc (.cells #[.int .i64 must] 3)=w1:=⟨_,rfl⟩;have s1:w1.heap.size=z+1:=by rw[←hw1,←hz];simp
 obtain⟨wb,hwb⟩:∃wb,w1.alloc (.map #[] 0)=wb:=⟨_,rfl⟩;have u1:Upd No w w1:=by rw[←hw1];exact(Upd.refl No w).alloc _
 have u2:Upd No w1 wb:=by rw[←hwb];exact(Upd.refl No w1).alloc _
 have hM0:MapIs wb (z+1) (fun n:Int=>Value.int .i64 n) (Zbh 0 []):=by rw[←hwb,←s1];exact MapIs.new w1 _
 have bM:Blk wb z 3 [.int .i64 must]:=by
  have:Blk w1 z 3 [.int .i64 must]:=by rw[←hw1,←hz];exact Blk.new w _ _
  exact this.upd u2 id
 have sb:wb.heap.size=z+2:=by rw[←hwb];simp[s1]
 have HM0:=Qh hM0;have U0:=Qh (u1.trans u2);have HSB:=Qh sb;have BM:=Qh bM;have HZ:=Qh hz;have hmm:= @run_makeMap Tryz.prog;clear hM0 u1 u2 bM sb hz
 go_enter Tryz.func16,Tryz.ntmps16
 go_wp2;clear hw1 hwb s1
 go_loopg [8,18] l.length (fun gk s i wr=>∃(k:Nat) (A5:Option Addr) (c5:Nat) (ids:List Int) (ac:List HArc),k+gk=l.length∧i= .int .i64 (k:Int)∧s= .slice A5 ac.length c5∧Hid (Zc0 ids ac (Zi (l.drop k) mask)=(II,AA))∧
  Hid (ids.length≤2*k)∧Hid (ac.length≤k)∧Hid (MapIs wr (z+1) (fun n:Int=>Value.int .i64 n) (Zbh 0 ids))∧Hid (wr.ownsRow (z+2) 70 4 (.slice A5 ac.length c5) ac.length (ZfU ac))∧Hid (Upd (One (z+1)) wb wr))
 case atStart=>exact⟨0,none,0,[],[],by omega,rfl,rfl,HNUM,Qh (Nat.zero_le _),Qh (Nat.zero_le _),HM0,Qh (World.ownsRow_nil _ _ _ _),Qh (Upd.refl _ _)⟩
 case round=>
  clear HNUM HM0 hmm;obtain⟨k,A5,c5,ids,ac,hgk,rfl,rfl,hst,hil,hal,hM,hown,hu⟩:=hrel
  by_cases hk:k<l.length
  ·obtain⟨ax,rfl,q0,q1,q2,q3⟩:=((HA.out.upd U0.out (fun _ _=>id)).upd hu.out (fun i hi=>by have:=HZ.out;have hi2:i<w.heap.size:=hi;unfold One;omega)).at_ hk;obtain⟨x,hx⟩:∃x,l[k]=x:=⟨_,rfl⟩;rw[hx]at q0 q1 q2 q3;have X:=Qh (show l.drop k=x::l.drop (k+1) by rw[←hx];exact List.drop_eq_getElem_cons hk);clear hx;have b1:(0:Int)≤(k:Int):=Qn _;have b2:(k:Int)<(l.length:Int):=by omega
   have jw:IntKind.i64.wrap ((k:Int)+1)=(k:Int)+1:=IntWalk.i64_in _ (by omega);obtain⟨wz,hwz⟩:∃wz,wr.alloc (.cells #[.int .i64 x.f,.int .i64 x.t,.int .i64 x.k,.int .i64 x.key] 61)=wz:=⟨_,rfl⟩;have uz:Upd No wr wz:=by rw[←hwz];exact(Upd.refl No wr).alloc _
   have bo:Blk wz wr.heap.size 61 [.int .i64 x.f,.int .i64 x.t,.int .i64 x.k,.int .i64 x.key]:=by rw[←hwz];exact Blk.new wr _ _
   have hzr:z+2≤wr.heap.size:=by have:=hu.out.size;rw[HSB.out]at this;exact this
   have g0:∀W,Upd (fun i=>z+1≤i∧i≠wr.heap.size) wz W→W.cell? ⟨wr.heap.size,0,none⟩=some (.int .i64 x.f):=fun W u=>(bo.upd u (by omega)).cell 0
   have g1:∀W,Upd (fun i=>z+1≤i∧i≠wr.heap.size) wz W→W.cell? ⟨wr.heap.size,1,none⟩=some (.int .i64 x.t):=fun W u=>(bo.upd u (by omega)).cell 1
   have g2:∀W,Upd (fun i=>z+1≤i∧i≠wr.heap.size) wz W→W.cell? ⟨wr.heap.size,2,none⟩=some (.int .i64 x.k):=fun W u=>(bo.upd u (by omega)).cell 2
   have hzz:Upd (fun i=>z+1≤i∧i≠wr.heap.size) wz wz:=Upd.refl _ _;have HZR:=Qh hzr;have HOL:=Qh (fun i e=>hown.out.lt i e);have hbu:(bits .and .i64 (mask/2 ^ x.k.toNat) 1==1)=ZO mask x.k:=by rw[ZeK];rfl
   clear bo hzr
   by_cases k1:1≤x.k
   ·have d1:decide (1≤x.k)=true:=decide_eq_true k1
    by_cases k2:x.k≤3
    ·have d2:decide (x.k≤3)=true:=decide_eq_true k2;have hbe:Zq mask x.k=ZO mask x.k:=by unfold Zq;rw[d1,d2];rfl
     cases hbm:ZO mask x.k
     ·have hbr:Zq mask x.k=false:=hbe.trans hbm;rw[hbm]at hbu;clear hbm hbe;have HN:=Qh (show Zc0 ids ac (Zi (l.drop (k+1)) mask)=(II,AA) by have:=hst.out;rw[X.out,Zh0 hbr]at this;exact this);clear hst X hbr;go_wp2
      go_roundg (gk-1)
      case measure=>omega
      case rel=>exact⟨k+1,A5,c5,ids,ac,by omega,by simp,rfl,HN,Qh (by have:=hil.out;omega),Qh (by have:=hal.out;omega),Qh (hM.out.upd uz id),Qh (Za hown.out uz (fun _ _=>id)),Qh (hu.out.then_ uz (fun _ e=>e.elim))⟩
     ·have hbr:Zq mask x.k=true:=hbe.trans hbm;rw[hbm]at hbu;clear hbm hbe;have hst2:=hst.out;rw[X.out,ZpD hbr,ZnJ]at hst2;obtain⟨i1,hi1⟩:∃i1,ZP ids x.f=i1:=⟨_,rfl⟩;obtain⟨i2,hi2⟩:∃i2,ZP i1 x.t=i2:=⟨_,rfl⟩;have hl1:=Zeu ids x.f;have hl2:=Zeu i1 x.t;rw[hi1,hi2]at hst2;rw[hi1]at hl1;rw[hi2]at hl2;obtain⟨n1,hn1⟩:∃n1,Zg i1 x.f=n1:=⟨_,rfl⟩;obtain⟨n2,hn2⟩:∃n2,Zg i2 x.t=n2:=⟨_,rfl⟩;rw[hn1,hn2]at hst2;have HST2:=Qh hst2;have HL2:=Qh (show i2.length≤2*(k+1) by have:=hil.out;omega);have hp1:=fun W (hW:MapIs W (z+1) (fun n:Int=>Value.int .i64 n) (Zbh 0 ids))=>Zqr W (z+1) ids x.f hW
      rw[hi1,hn1]at hp1;have hp2:=fun W (hW:MapIs W (z+1) (fun n:Int=>Value.int .i64 n) (Zbh 0 i1))=>Zqr W (z+1) i1 x.t hW
      rw[hi2,hn2]at hp2;have HP1:=Qh hp1;have HP2:=Qh hp2;have HM1:=Qh (hM.out.upd uz id);have HO1:=Qh (Za hown.out uz (fun _ _=>id));have HUZ:=Qh uz;have hall:ac.length≤2000:=by have:=hal.out;omega
      clear hst hst2 hl1 hl2 hi1 hi2 hn1 hn2 hp1 hp2 uz hM hown hil X hbr;go_wp2;refine wp_region_noPanic ?_;refine wp_region_held_drew (S:=(fun W'=>Upd (fun i=>z+1≤i∧i≠wr.heap.size) wz W')) (by kernel_rfl) ?_ (fun hHeld=> ?_)
      ·(first|exact hzz.drew|(with_reducible exact hHeld)|(with_reducible exact hq)|exact hHeld.alloc _)
      refine wpK 0 rfl ?_;refine wpK 1 rfl ?_;refine wpK 2 rfl ?_;refine wpK 3 rfl ?_;refine wpK 5 rfl ?_;refine wpK 6 rfl ?_;refine wpK 7 rfl ?_;refine wpK 9 rfl ?_;refine wpK 10 rfl ?_;refine wpR [4] ?_;refine wpC rfl (fun K hK=> ?_) AllReadyH.nil;go_simp
      (first
  |(go_at_call 42;refine(HP1.out wz.drew (show MapIs wz.drew (z+1) _ _ from HM1.out)).mono ?_;rintro e w3 ⟨rfl,hm3,hu3'⟩;have hu3:=hu3'.of_drew;have HM3:=Qh hm3;have HU3:=Qh (show Upd (One (z+1)) wz w3 from hu3);have hq:Upd (fun i=>z+1≤i∧i≠wr.heap.size) wz w3:=hu3.mono (fun i _ e=>by have:=HZR.out;unfold One at e;omega);clear hm3 hu3 hu3'))
      try (go_wp2_with fail)
      refine hK.out _ _ ?_ (fun hHeld=> ?_)
      ·(first|exact hzz.drew|(with_reducible exact hHeld)|(with_reducible exact hq)|exact hHeld.alloc _)
      clear hK K
      try simp only[Act.put,sT,sS,sZ]
      refine wpR [8] ?_;refine wpC rfl (fun K hK=> ?_) AllReadyH.nil;go_simp
      (first
  |(go_at_call 42;refine(HP2.out _ HM3.out).mono ?_;rintro e w4 ⟨rfl,hm4,hu4⟩;have HM4:=Qh hm4;have HU4:=Qh (HU3.out.trans hu4);have hq:Upd (fun i=>z+1≤i∧i≠wr.heap.size) wz w4:=HU4.out.mono (fun i _ e=>by have:=HZR.out;unfold One at e;omega);clear hm4 hu4))
      try (go_wp2_with fail)
      refine hK.out _ _ ?_ (fun hHeld=> ?_)
      ·(first|exact hzz.drew|(with_reducible exact hHeld)|(with_reducible exact hq)|exact hHeld.alloc _)
      clear hK K
      try simp only[Act.put,sT,sS,sZ]
      refine wpK 11 rfl ?_;refine wpR [12] ?_;refine wpC rfl (fun K hK=> ?_) AllReadyH.nil;go_simp;refine hK.out _ _ ?_ (fun hHeld=> ?_)
      ·(first|exact hzz.drew|(with_reducible exact hHeld)|(with_reducible exact hq)|exact hHeld.alloc _)
      clear hK K
      try simp only[Act.put,sT,sS,sZ]
      refine wpR [13] ?_;refine wpC rfl (fun K hK=> ?_) AllReadyH.nil
      (first
  |(refine ZbC (by rfl) (by rfl) Zq0 (v:= .slice A5 ac.length c5) (n:=ac.length) (xs:=ZfU ac) (cells:=[.int .i64 (n1:Int),.int .i64 (n2:Int),.int .i64 x.k,.int .i64 0]) (by rfl) (by rfl) (by exact Za HO1.out (HU4.out.alloc _) (fun i e e2=>by have:=(HO1.out.lt i e).1;unfold One at e2;omega)) rfl (by exact ZbG) (by rfl) (by omega) (by omega) (by have:=(HU4.out.alloc (.cells #[.int .i64 (n1:Int),.int .i64 (n2:Int),.int .i64 x.k,.int .i64 0] 70)).size;have:=HUZ.out.size;have:=HZR.out;omega) ?_;intro g6 c6 w6 hown6 hu6 hg6 hlt6;have HO6:=Qh hown6;have HU6:=Qh hu6;have hq:Upd (fun i=>z+1≤i∧i≠wr.heap.size) wz w6:=((HU4.out.alloc _).mono (fun i _ e=>by have:=HZR.out;unfold One at e;omega)).trans (hu6.mono (fun i _ e=>by have:=HOL.out i e;omega));clear hown6 hu6 hg6 hlt6))
      refine hK.out _ _ ?_ (fun hHeld=> ?_)
      ·(first|exact hzz.drew|(with_reducible exact hHeld)|(with_reducible exact hq)|exact hHeld.alloc _)
      clear hK K
      try simp only[Act.put,sT,sS,sZ]
      refine wpK 14 rfl ?_;refine wpD (NoPanic.normal ?_);have HM6:=Qh ((HM4.out.upd ((Upd.refl No _).alloc _) id).upd HU6.out (fun e=>by have:=(HO1.out.lt _ e).1;omega));have HUF:=Qh (show Upd (One (z+1)) wb _ from((hu.out.then_ HUZ.out (fun _ e=>e.elim)).trans (HU4.out.alloc _)).then_ HU6.out (fun i e=>Or.inr (by have:=(HO1.out.lt i e).1;rw[HSB.out];exact this)));clear hHeld;go_wp2
      go_roundg (gk-1)
      case measure=>omega
      case rel=>exact⟨k+1,some ⟨g6,0,none⟩,c6,i2,ac++[⟨(n1:Int),(n2:Int),x.k,0⟩],by omega,by simp,by simp,HST2,HL2,Qh (by simp;have:=hal.out;omega),HM6,Qh (by have:=HO6.out;rw[ZmO];simpa[HArc.cells]using this),HUF⟩
    ·have d2:decide (x.k≤3)=false:=decide_eq_false k2;have hbr:Zq mask x.k=false:=by unfold Zq;rw[d1,d2];rfl
     have HN:=Qh (show Zc0 ids ac (Zi (l.drop (k+1)) mask)=(II,AA) by have:=hst.out;rw[X.out,Zh0 hbr]at this;exact this);clear hst X hbr;go_wp2
     go_roundg (gk-1)
     case measure=>omega
     case rel=>exact⟨k+1,A5,c5,ids,ac,by omega,by simp,rfl,HN,Qh (by have:=hil.out;omega),Qh (by have:=hal.out;omega),Qh (hM.out.upd uz id),Qh (Za hown.out uz (fun _ _=>id)),Qh (hu.out.then_ uz (fun _ e=>e.elim))⟩
   ·have d1:decide (1≤x.k)=false:=decide_eq_false k1;have hbr:Zq mask x.k=false:=by unfold Zq;rw[d1];rfl
    have HN:=Qh (show Zc0 ids ac (Zi (l.drop (k+1)) mask)=(II,AA) by have:=hst.out;rw[X.out,Zh0 hbr]at this;exact this);clear hst X hbr;go_wp2
    go_roundg (gk-1)
    case measure=>omega
    case rel=>exact⟨k+1,A5,c5,ids,ac,by omega,by simp,rfl,HN,Qh (by have:=hil.out;omega),Qh (by have:=hal.out;omega),Qh (hM.out.upd uz id),Qh (Za hown.out uz (fun _ _=>id)),Qh (hu.out.then_ uz (fun _ e=>e.elim))⟩
  ·obtain rfl:k=l.length:=by omega
   have hfin:=hst.out;rw[List.drop_length]at hfin;have hf1:ids=II:=congrArg Prod.fst hfin;have hf2:ac=AA:=congrArg Prod.snd hfin;subst hf1 hf2;clear hfin hst;have hln:=Zel (ty:=3) Tryz.underlying66 hM.out;rw[Zgo]at hln;have n1:decide (4096<(ids.length:Int))=false:=decide_eq_false (by have:=HLI.out;omega);have hm1:=BM.out.upd hu.out (by unfold One;omega);have CN:=Qh (ZtI wr (ids.length:Int));rw[HROOM.out]at CN;have HAC:=Qh (show ArcsL (fun i=>z+2≤i) wr A5 ac from Recs.weak (Zow hown.out) (fun i _ e=>(hown.out.lt i e).1));have HMC:=Qh hm1;have HUR:=Qh (show Upd No w wr from U0.out.then_ hu.out (fun i e=>Or.inr (by unfold One at e;have:=HZ.out;omega)));clear hm1 hown hu hM
   go_wp2_with fail
   refine(CN.out).mono ?_;rintro e w3 ⟨g,rfl,hd3⟩;have HD3:=Qh hd3;obtain⟨RQ,hRQ⟩:∃RQ,Zdd ids.length [] ac=RQ:=⟨_,rfl⟩;have HQ0:=Qh (show Zdd ids.length [] (ac.drop 0)=RQ by rw[List.drop_zero];exact hRQ);rw[hRQ]at HANY;obtain⟨wo,hwo⟩:∃wo,wo=wr:=⟨_,rfl⟩;subst hwo;have hacl:ac.length≤2000:=by have:=HLA.out;omega
   clear hd3 CN hln hRQ;go_wp2
   generalize gk=GK at*
   go_loopg [65] ac.length (fun gk i wx=>∃(j:Nat) (q:List HArc),j+gk=ac.length∧i= .int .i64 (j:Int)∧Hid (DMa wo g ids.length j q wx)∧Hid (Zdd ids.length q (ac.drop j)=RQ))
   case atStart=>exact⟨0,[],by omega,rfl,HD3,HQ0⟩
   case round=>
    clear HD3 HQ0;obtain⟨j,q,hgj,rfl,hd,hq⟩:=hrel
    by_cases hlt:j<ac.length
    ·obtain⟨ax,rfl,q0,q1,q2,q3⟩:=(HAC.out.upd hd.out.upd (fun _ _=>id)).at_ hlt;obtain⟨x,hx⟩:∃x,ac[j]=x:=⟨_,rfl⟩;rw[hx]at q0 q1 q2 q3;have hst:=hq.out;rw[show ac.drop j=x::ac.drop (j+1) by rw[←hx];exact List.drop_eq_getElem_cons hlt,Zhi]at hst;have HS:=Qh hst;clear hx hst hq;have b1:(0:Int)≤(j:Int):=Qn _;have b2:(j:Int)<(ac.length:Int):=by omega
     have jw:IntKind.i64.wrap ((j:Int)+1)=(j:Int)+1:=IntWalk.i64_in _ (by omega);have bo:=Blk.new wr 70 [.int .i64 x.f,.int .i64 x.t,.int .i64 x.kind,.int .i64 x.label];have g0:=bo.cell 0;have g1:=bo.cell 1;have g2:=bo.cell 2;have g3:=bo.cell 3;simp only[Qz,Qs]at g0 g1 g2 g3;have HD:=Qh (hd.out.no ((Upd.refl No wr).alloc (.cells #[.int .i64 x.f,.int .i64 x.t,.int .i64 x.kind,.int .i64 x.label] 70)));clear bo hd
     go_wp2_with fail
     refine(ZtJ HD.out (by omega) x).mono ?_;rintro e w3 ⟨rfl,hd3⟩;go_wp2
     go_roundg (gk-1)
     case measure=>omega
     case rel=>exact⟨j+1,Zc5 ids.length q x,by omega,by simp,Qh hd3,HS⟩
    ·obtain rfl:j=ac.length:=by omega
     have hqR:q=RQ:=by have:=hq.out;rw[List.drop_length]at this;exact this
     subst hqR;clear hq;obtain⟨G,hDG⟩:=hd.out.is;have HUD:=Qh hd.out.upd;have CL:=Qh (ZrN hDG (by have:=HLI.out;omega) 14);clear hd hDG
     go_wp2_with fail
     refine(CL.out).mono ?_;rintro e w4 ⟨A4,c4,rfl,ho4,hu4⟩;obtain⟨LL,hLL⟩:∃LL,Zcv ids.length (ofA 14 q)=LL:=⟨_,rfl⟩;have hLN:LL.length=ids.length:=by rw[←hLL];unfold Zcv;simp
     rw[hLL]at ho4 HANY ⊢;obtain⟨wl,hwl⟩:∃wl,w4.alloc (.cells #[.slice A4 LL.length c4] 37)=wl:=⟨_,rfl⟩;have ul:Upd No w4 wl:=by rw[←hwl];exact(Upd.refl No w4).alloc _
     have bl:Blk wl w4.heap.size 37 [.slice A4 LL.length c4]:=by rw[←hwl];exact Blk.new w4 _ _
     have HU4:=Qh ((HUD.out.trans hu4).trans ul);have CC:=Qh (Zsn (d:=c5) (HAC.out.upd HU4.out (fun _ _=>id)) (by omega) (bl.cell 0) ((HMC.out.upd HU4.out id).cell 0) ((Ints.of_own ho4).upd ul (fun _ _=>id)) (by rw[hLN];exact HOK.out) (by rw[hLN];have:=HLI.out;omega));rw[HANY.out,←HZ.out]at CC;clear ho4 hu4 ul bl hLL hLN
     go_wp2_with fail
     refine(CC.out).mono ?_;rintro e w5 ⟨rfl,hu5⟩;go_wp2
     go_ret
     exact⟨rfl,(HUR.out.trans HU4.out).trans hu5⟩
end
end Go.Proofs.YtklmahmfmbppkaaGreat
