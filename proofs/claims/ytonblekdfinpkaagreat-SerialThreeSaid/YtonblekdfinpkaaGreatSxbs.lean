/- Phenomena: phen.Round is walked. -/
import Derived.Test.YtonblekdfinpkaaGreatSxbp
import Derived.Test.YtonblekdfinpkaaGreatSxbr
namespace Go.Proofs.YtonblekdfinpkaaGreat
set_option linter.unusedVariables false
set_option linter.unusedSimpArgs false
section
open Go.RowKit
theorem ZoK {x:Edge} {m:List Edge} {mask:Int} (h:ZJ mask x.k=true):Zj (x::m) mask=x::Zj m mask:=by unfold Zj;rw[List.filter_cons_of_pos (p:=fun e:Edge=>ZJ mask e.k) h]
theorem ZhF {x:Edge} {m:List Edge} {mask:Int} (h:ZJ mask x.k=false):Zj (x::m) mask=Zj m mask:=by unfold Zj;rw[List.filter_cons_of_neg (p:=fun e:Edge=>ZJ mask e.k) (by rw[h];decide)]
theorem Zlf {l:List Edge} {mask:Int}:∀a∈ZdR l mask,Zhr (Zbk l mask).length a:=by
 intro a ha;have hn:=Zea l mask;rw[hn.arcs]at ha;obtain⟨e,he,rfl⟩:=List.mem_map.1 ha;have hk:=Zir he;have hh:=hn.has e he;have a1:=Zcw hh.1;have a2:=Zcw hh.2;unfold Za8 Zhr;refine⟨?_,?_,?_,?_,hk.1,hk.2⟩<;>simp only<;>omega
theorem ZkV {N:Nat} {q:List HArc} {i:Nat} (h:i<N):(Zcs N q).getD i 0=(Zbj q i:Int):=by
 unfold Zcs;rw[List.getD_eq_getElem?_getD,List.getElem?_map,List.getElem?_range h];rfl
theorem ZqI (l:List Edge) (mask must:Int):(ZdR l mask).any (inP (Zcs (Zbk l mask).length (Zb7 l mask)) must)=Zah l mask must:=by
 rw[←ZmH];unfold Zjh Zpc
 have h:∀a∈ZdR l mask,inP (Zcs (Zbk l mask).length (Zb7 l mask)) must a=(decide (Zbj (Zb7 l mask) a.f.toNat=Zbj (Zb7 l mask) a.t.toNat)&&((bits .and .i64 must 14==0)||ZJ must a.kind)):=by
  intro a ha;obtain⟨h1,h2,h3,h4,_,_⟩:=Zlf a ha;unfold inP;rw[ZkV (by omega),ZkV (by omega)]
  congr 1
  rw[Bool.eq_iff_iff,decide_eq_true_eq,decide_eq_true_eq];omega
 rw[Bool.eq_iff_iff,List.any_eq_true,List.any_eq_true]
 constructor
 ·rintro⟨a,ha,h2⟩;exact⟨a,ha,by rw[←h a ha];exact h2⟩
 ·rintro⟨a,ha,h2⟩;exact⟨a,ha,by rw[h a ha];exact h2⟩
theorem Zm0 (ids:List Int) (ac:List HArc) (x:Edge) (m:List Edge):ZcW ids ac (x::m)=ZcW (ZH (ZH ids x.f) x.t) (ac++[⟨(Zn (ZH ids x.f) x.f:Int),(Zn (ZH (ZH ids x.f) x.t) x.t:Int),x.k,0⟩]) m:=rfl
theorem Zmd (l:List HArc) (a:HArc):ZfS (l++[a])=ZfS l++a.cells:=by unfold ZfS;rw[List.map_append,List.flatten_append];simp
set_option maxRecDepth 100000 in
set_option maxHeartbeats 8000000 in
theorem Zrc (F:Nat→Prop) (w:World) (A:Option Addr) (c:Nat) (l:List Edge) (mask must:Int) (h:Walk F w A l) (hl:l.length≤2000):
  Calls Tryz.prog 57 #[.slice A l.length c,.int .i64 mask,.int .i64 must] w fun e w'=>e= .returned (.bool (Zah l mask must))∧Upd No w w':=by
 obtain⟨II,hII⟩:∃II,Zbk l mask=II:=⟨_,rfl⟩;obtain⟨AA,hAA⟩:∃AA,ZdR l mask=AA:=⟨_,rfl⟩;have hlI:=Zqk l mask;have hlA:=Zpb l mask;have hok:=Zlf (l:=l) (mask:=mask);have hany:=ZqI l mask must;unfold Zb7 at hany;rw[hII]at hlI hok hany;rw[hAA]at hlA hok hany;have HNUM:=Qh (show ZcW [] [] (Zj (l.drop 0) mask)=(II,AA) by rw[List.drop_zero,←hII,←hAA];rfl);have HLI:=Qh hlI;have HLA:=Qh hlA;have HOK:=Qh hok;have HANY:=Qh hany;have HA:=Qh (show Walk (fun i=>i<w.heap.size) w A l from Recs.lt h);have hroom:Zb2 (II.length:Int)=II.length:=by unfold Zb2;omega
 have HROOM:=Qh hroom;obtain⟨rv,hrv⟩:∃rv,Zah l mask must=rv:=⟨_,rfl⟩;rw[hrv]at HANY ⊢;clear hII hAA hlI hlA hok hany h hroom hrv;obtain⟨z,hz⟩:∃z,w.heap.size=z:=⟨_,rfl⟩;obtain⟨w1,hw1⟩:∃w1,w.alloc (.cells #[.int .i64 must] 3)=w1:=⟨_,rfl⟩;have s1:w1.heap.size=z+1:=by rw[←hw1,←hz];simp
 obtain⟨wb,hwb⟩:∃wb,w1.alloc (.map #[] 0)=wb:=⟨_,rfl⟩;have u1:Upd No w w1:=by rw[←hw1];exact(Upd.refl No w).alloc _
 have u2:Upd No w1 wb:=by rw[←hwb];exact(Upd.refl No w1).alloc _
 have hM0:MapIs wb (z+1) (fun n:Int=>Value.int .i64 n) (Zbg 0 []):=by rw[←hwb,←s1];exact MapIs.new w1 _
 have bM:Blk wb z 3 [.int .i64 must]:=by
  have:Blk w1 z 3 [.int .i64 must]:=by rw[←hw1,←hz];exact Blk.new w _ _
  exact this.upd u2 id
 have sb:wb.heap.size=z+2:=by rw[←hwb];simp[s1]
 have HM0:=Qh hM0;have U0:=Qh (u1.trans u2);have HSB:=Qh sb;have BM:=Qh bM;have HZ:=Qh hz;have hmm:= @run_makeMap Tryz.prog;clear hM0 u1 u2 bM sb hz
 go_enter Tryz.func57,Tryz.ntmps57
 go_wp2;clear hw1 hwb s1
 go_loopg [8,18] l.length (fun gk s i wr=>∃(k:Nat) (A5:Option Addr) (c5:Nat) (ids:List Int) (ac:List HArc),k+gk=l.length∧i= .int .i64 (k:Int)∧s= .slice A5 ac.length c5∧Hid (ZcW ids ac (Zj (l.drop k) mask)=(II,AA))∧
  Hid (ids.length≤2*k)∧Hid (ac.length≤k)∧Hid (MapIs wr (z+1) (fun n:Int=>Value.int .i64 n) (Zbg 0 ids))∧Hid (wr.ownsRow (z+2) 34 4 (.slice A5 ac.length c5) ac.length (ZfS ac))∧Hid (Upd (One (z+1)) wb wr))
 case atStart=>exact⟨0,none,0,[],[],by omega,rfl,rfl,HNUM,Qh (Nat.zero_le _),Qh (Nat.zero_le _),HM0,Qh (World.ownsRow_nil _ _ _ _),Qh (Upd.refl _ _)⟩
 case round=>
  clear HNUM HM0 hmm;obtain⟨k,A5,c5,ids,ac,hgk,rfl,rfl,hst,hil,hal,hM,hown,hu⟩:=hrel
  by_cases hk:k<l.length
  ·obtain⟨ax,rfl,q0,q1,q2,q3⟩:=((HA.out.upd U0.out (fun _ _=>id)).upd hu.out (fun i hi=>by have:=HZ.out;have hi2:i<w.heap.size:=hi;unfold One;omega)).at_ hk;obtain⟨x,hx⟩:∃x,l[k]=x:=⟨_,rfl⟩;rw[hx]at q0 q1 q2 q3;have X:=Qh (show l.drop k=x::l.drop (k+1) by rw[←hx];exact List.drop_eq_getElem_cons hk);clear hx;have b1:(0:Int)≤(k:Int):=Qn _;have b2:(k:Int)<(l.length:Int):=by omega
   have jw:IntKind.i64.wrap ((k:Int)+1)=(k:Int)+1:=IntWalk.i64_in _ (by omega);obtain⟨wz,hwz⟩:∃wz,wr.alloc (.cells #[.int .i64 x.f,.int .i64 x.t,.int .i64 x.k,.int .i64 x.key] 26)=wz:=⟨_,rfl⟩;have uz:Upd No wr wz:=by rw[←hwz];exact(Upd.refl No wr).alloc _
   have bo:Blk wz wr.heap.size 26 [.int .i64 x.f,.int .i64 x.t,.int .i64 x.k,.int .i64 x.key]:=by rw[←hwz];exact Blk.new wr _ _
   have hzr:z+2≤wr.heap.size:=by have:=hu.out.size;rw[HSB.out]at this;exact this
   have g0:∀W,Upd (fun i=>z+1≤i∧i≠wr.heap.size) wz W→W.cell? ⟨wr.heap.size,0,none⟩=some (.int .i64 x.f):=fun W u=>(bo.upd u (by omega)).cell 0
   have g1:∀W,Upd (fun i=>z+1≤i∧i≠wr.heap.size) wz W→W.cell? ⟨wr.heap.size,1,none⟩=some (.int .i64 x.t):=fun W u=>(bo.upd u (by omega)).cell 1
   have g2:∀W,Upd (fun i=>z+1≤i∧i≠wr.heap.size) wz W→W.cell? ⟨wr.heap.size,2,none⟩=some (.int .i64 x.k):=fun W u=>(bo.upd u (by omega)).cell 2
   have hzz:Upd (fun i=>z+1≤i∧i≠wr.heap.size) wz wz:=Upd.refl _ _;have HZR:=Qh hzr;have HOL:=Qh (fun i e=>hown.out.lt i e);have hbu:(bits .and .i64 (mask/2 ^ x.k.toNat) 1==1)=ZS mask x.k:=by rw[ZeJ];rfl
   clear bo hzr
   by_cases k1:1≤x.k
   ·have d1:decide (1≤x.k)=true:=decide_eq_true k1
    by_cases k2:x.k≤3
    ·have d2:decide (x.k≤3)=true:=decide_eq_true k2;have hbe:ZJ mask x.k=ZS mask x.k:=by unfold ZJ;rw[d1,d2];rfl
     cases hbm:ZS mask x.k
     ·have hbr:ZJ mask x.k=false:=hbe.trans hbm;rw[hbm]at hbu;clear hbm hbe;have HN:=Qh (show ZcW ids ac (Zj (l.drop (k+1)) mask)=(II,AA) by have:=hst.out;rw[X.out,ZhF hbr]at this;exact this);clear hst X hbr;go_wp2
      go_roundg (gk-1)
      case measure=>omega
      case rel=>exact⟨k+1,A5,c5,ids,ac,by omega,by simp,rfl,HN,Qh (by have:=hil.out;omega),Qh (by have:=hal.out;omega),Qh (hM.out.upd uz id),Qh (Zb hown.out uz (fun _ _=>id)),Qh (hu.out.then_ uz (fun _ e=>e.elim))⟩
     ·have hbr:ZJ mask x.k=true:=hbe.trans hbm;rw[hbm]at hbu;clear hbm hbe;have hst2:=hst.out;rw[X.out,ZoK hbr,Zm0]at hst2;obtain⟨i1,hi1⟩:∃i1,ZH ids x.f=i1:=⟨_,rfl⟩;obtain⟨i2,hi2⟩:∃i2,ZH i1 x.t=i2:=⟨_,rfl⟩;have hl1:=Zev ids x.f;have hl2:=Zev i1 x.t;rw[hi1,hi2]at hst2;rw[hi1]at hl1;rw[hi2]at hl2;obtain⟨n1,hn1⟩:∃n1,Zn i1 x.f=n1:=⟨_,rfl⟩;obtain⟨n2,hn2⟩:∃n2,Zn i2 x.t=n2:=⟨_,rfl⟩;rw[hn1,hn2]at hst2;have HST2:=Qh hst2;have HL2:=Qh (show i2.length≤2*(k+1) by have:=hil.out;omega);have hp1:=fun W (hW:MapIs W (z+1) (fun n:Int=>Value.int .i64 n) (Zbg 0 ids))=>Zpq W (z+1) ids x.f hW
      rw[hi1,hn1]at hp1;have hp2:=fun W (hW:MapIs W (z+1) (fun n:Int=>Value.int .i64 n) (Zbg 0 i1))=>Zpq W (z+1) i1 x.t hW
      rw[hi2,hn2]at hp2;have HP1:=Qh hp1;have HP2:=Qh hp2;have HM1:=Qh (hM.out.upd uz id);have HO1:=Qh (Zb hown.out uz (fun _ _=>id));have HUZ:=Qh uz;have hall:ac.length≤2000:=by have:=hal.out;omega
      clear hst hst2 hl1 hl2 hi1 hi2 hn1 hn2 hp1 hp2 uz hM hown hil X hbr;go_wp2;refine wp_region_noPanic ?_;refine wp_region_held_drew (S:=(fun W'=>Upd (fun i=>z+1≤i∧i≠wr.heap.size) wz W')) (by kernel_rfl) ?_ (fun hHeld=> ?_)
      ·(first|exact hzz.drew|(with_reducible exact hHeld)|(with_reducible exact hq)|exact hHeld.alloc _)
      refine wpK 0 rfl ?_;refine wpK 1 rfl ?_;refine wpK 2 rfl ?_;refine wpK 3 rfl ?_;refine wpK 5 rfl ?_;refine wpK 6 rfl ?_;refine wpK 7 rfl ?_;refine wpK 9 rfl ?_;refine wpK 10 rfl ?_;refine wpR [4] ?_;refine wpC rfl (fun K hK=> ?_) AllReadyH.nil;go_simp
      (first
  |(go_at_call 123;refine(HP1.out wz.drew (show MapIs wz.drew (z+1) _ _ from HM1.out)).mono ?_;rintro e w3 ⟨rfl,hm3,hu3'⟩;have hu3:=hu3'.of_drew;have HM3:=Qh hm3;have HU3:=Qh (show Upd (One (z+1)) wz w3 from hu3);have hq:Upd (fun i=>z+1≤i∧i≠wr.heap.size) wz w3:=hu3.mono (fun i _ e=>by have:=HZR.out;unfold One at e;omega);clear hm3 hu3 hu3'))
      try (go_wp2_with fail)
      refine hK.out _ _ ?_ (fun hHeld=> ?_)
      ·(first|exact hzz.drew|(with_reducible exact hHeld)|(with_reducible exact hq)|exact hHeld.alloc _)
      clear hK K
      try simp only[Act.put,sT,sS,sZ]
      refine wpR [8] ?_;refine wpC rfl (fun K hK=> ?_) AllReadyH.nil;go_simp
      (first
  |(go_at_call 123;refine(HP2.out _ HM3.out).mono ?_;rintro e w4 ⟨rfl,hm4,hu4⟩;have HM4:=Qh hm4;have HU4:=Qh (HU3.out.trans hu4);have hq:Upd (fun i=>z+1≤i∧i≠wr.heap.size) wz w4:=HU4.out.mono (fun i _ e=>by have:=HZR.out;unfold One at e;omega);clear hm4 hu4))
      try (go_wp2_with fail)
      refine hK.out _ _ ?_ (fun hHeld=> ?_)
      ·(first|exact hzz.drew|(with_reducible exact hHeld)|(with_reducible exact hq)|exact hHeld.alloc _)
      clear hK K
      try simp only[Act.put,sT,sS,sZ]
      refine wpK 11 rfl ?_;refine wpR [12] ?_;refine wpC rfl (fun K hK=> ?_) AllReadyH.nil;go_simp;refine hK.out _ _ ?_ (fun hHeld=> ?_)
      ·(first|exact hzz.drew|(with_reducible exact hHeld)|(with_reducible exact hq)|exact hHeld.alloc _)
      clear hK K
      try simp only[Act.put,sT,sS,sZ]
      refine wpR [13] ?_;refine wpC rfl (fun K hK=> ?_) AllReadyH.nil
      (first
  |(refine Za9 (by rfl) (by rfl) ZpX (v:= .slice A5 ac.length c5) (n:=ac.length) (xs:=ZfS ac) (cells:=[.int .i64 (n1:Int),.int .i64 (n2:Int),.int .i64 x.k,.int .i64 0]) (by rfl) (by rfl) (by exact Zb HO1.out (HU4.out.alloc _) (fun i e e2=>by have:=(HO1.out.lt i e).1;unfold One at e2;omega)) rfl (by exact ZaV) (by rfl) (by omega) (by omega) (by have:=(HU4.out.alloc (.cells #[.int .i64 (n1:Int),.int .i64 (n2:Int),.int .i64 x.k,.int .i64 0] 34)).size;have:=HUZ.out.size;have:=HZR.out;omega) ?_;intro g6 c6 w6 hown6 hu6 hg6 hlt6;have HO6:=Qh hown6;have HU6:=Qh hu6;have hq:Upd (fun i=>z+1≤i∧i≠wr.heap.size) wz w6:=((HU4.out.alloc _).mono (fun i _ e=>by have:=HZR.out;unfold One at e;omega)).trans (hu6.mono (fun i _ e=>by have:=HOL.out i e;omega));clear hown6 hu6 hg6 hlt6))
      refine hK.out _ _ ?_ (fun hHeld=> ?_)
      ·(first|exact hzz.drew|(with_reducible exact hHeld)|(with_reducible exact hq)|exact hHeld.alloc _)
      clear hK K
      try simp only[Act.put,sT,sS,sZ]
      refine wpK 14 rfl ?_;refine wpD (NoPanic.normal ?_);have HM6:=Qh ((HM4.out.upd ((Upd.refl No _).alloc _) id).upd HU6.out (fun e=>by have:=(HO1.out.lt _ e).1;omega));have HUF:=Qh (show Upd (One (z+1)) wb _ from((hu.out.then_ HUZ.out (fun _ e=>e.elim)).trans (HU4.out.alloc _)).then_ HU6.out (fun i e=>Or.inr (by have:=(HO1.out.lt i e).1;rw[HSB.out];exact this)));clear hHeld;go_wp2
      go_roundg (gk-1)
      case measure=>omega
      case rel=>exact⟨k+1,some ⟨g6,0,none⟩,c6,i2,ac++[⟨(n1:Int),(n2:Int),x.k,0⟩],by omega,by simp,by simp,HST2,HL2,Qh (by simp;have:=hal.out;omega),HM6,Qh (by have:=HO6.out;rw[Zmd];simpa[HArc.cells]using this),HUF⟩
    ·have d2:decide (x.k≤3)=false:=decide_eq_false k2;have hbr:ZJ mask x.k=false:=by unfold ZJ;rw[d1,d2];rfl
     have HN:=Qh (show ZcW ids ac (Zj (l.drop (k+1)) mask)=(II,AA) by have:=hst.out;rw[X.out,ZhF hbr]at this;exact this);clear hst X hbr;go_wp2
     go_roundg (gk-1)
     case measure=>omega
     case rel=>exact⟨k+1,A5,c5,ids,ac,by omega,by simp,rfl,HN,Qh (by have:=hil.out;omega),Qh (by have:=hal.out;omega),Qh (hM.out.upd uz id),Qh (Zb hown.out uz (fun _ _=>id)),Qh (hu.out.then_ uz (fun _ e=>e.elim))⟩
   ·have d1:decide (1≤x.k)=false:=decide_eq_false k1;have hbr:ZJ mask x.k=false:=by unfold ZJ;rw[d1];rfl
    have HN:=Qh (show ZcW ids ac (Zj (l.drop (k+1)) mask)=(II,AA) by have:=hst.out;rw[X.out,ZhF hbr]at this;exact this);clear hst X hbr;go_wp2
    go_roundg (gk-1)
    case measure=>omega
    case rel=>exact⟨k+1,A5,c5,ids,ac,by omega,by simp,rfl,HN,Qh (by have:=hil.out;omega),Qh (by have:=hal.out;omega),Qh (hM.out.upd uz id),Qh (Zb hown.out uz (fun _ _=>id)),Qh (hu.out.then_ uz (fun _ e=>e.elim))⟩
  ·obtain rfl:k=l.length:=by omega
   have hfin:=hst.out;rw[List.drop_length]at hfin;have hf1:ids=II:=congrArg Prod.fst hfin;have hf2:ac=AA:=congrArg Prod.snd hfin;subst hf1 hf2;clear hfin hst;have hln:=Zem (ty:=3) Tryz.underlying191 hM.out;rw[Zgj]at hln;have n1:decide (4096<(ids.length:Int))=false:=decide_eq_false (by have:=HLI.out;omega);have hm1:=BM.out.upd hu.out (by unfold One;omega);have CN:=Qh (Zsq wr (ids.length:Int));rw[HROOM.out]at CN;have HAC:=Qh (show ArcsL (fun i=>z+2≤i) wr A5 ac from Recs.weak (ZnM hown.out) (fun i _ e=>(hown.out.lt i e).1));have HMC:=Qh hm1;have HUR:=Qh (show Upd No w wr from U0.out.then_ hu.out (fun i e=>Or.inr (by unfold One at e;have:=HZ.out;omega)));clear hm1 hown hu hM
   go_wp2_with fail
   refine(CN.out).mono ?_;rintro e w3 ⟨g,rfl,hd3⟩;have HD3:=Qh hd3;obtain⟨RQ,hRQ⟩:∃RQ,Zc9 ids.length [] ac=RQ:=⟨_,rfl⟩;have HQ0:=Qh (show Zc9 ids.length [] (ac.drop 0)=RQ by rw[List.drop_zero];exact hRQ);rw[hRQ]at HANY;obtain⟨wo,hwo⟩:∃wo,wo=wr:=⟨_,rfl⟩;subst hwo;have hacl:ac.length≤2000:=by have:=HLA.out;omega
   clear hd3 CN hln hRQ;go_wp2
   generalize gk=GK at*
   go_loopg [65] ac.length (fun gk i wx=>∃(j:Nat) (q:List HArc),j+gk=ac.length∧i= .int .i64 (j:Int)∧Hid (DMa wo g ids.length j q wx)∧Hid (Zc9 ids.length q (ac.drop j)=RQ))
   case atStart=>exact⟨0,[],by omega,rfl,HD3,HQ0⟩
   case round=>
    clear HD3 HQ0;obtain⟨j,q,hgj,rfl,hd,hq⟩:=hrel
    by_cases hlt:j<ac.length
    ·obtain⟨ax,rfl,q0,q1,q2,q3⟩:=(HAC.out.upd hd.out.upd (fun _ _=>id)).at_ hlt;obtain⟨x,hx⟩:∃x,ac[j]=x:=⟨_,rfl⟩;rw[hx]at q0 q1 q2 q3;have hst:=hq.out;rw[show ac.drop j=x::ac.drop (j+1) by rw[←hx];exact List.drop_eq_getElem_cons hlt,Zg1]at hst;have HS:=Qh hst;clear hx hst hq;have b1:(0:Int)≤(j:Int):=Qn _;have b2:(j:Int)<(ac.length:Int):=by omega
     have jw:IntKind.i64.wrap ((j:Int)+1)=(j:Int)+1:=IntWalk.i64_in _ (by omega);have bo:=Blk.new wr 34 [.int .i64 x.f,.int .i64 x.t,.int .i64 x.kind,.int .i64 x.label];have g0:=bo.cell 0;have g1:=bo.cell 1;have g2:=bo.cell 2;have g3:=bo.cell 3;simp only[Qz,Qs]at g0 g1 g2 g3;have HD:=Qh (hd.out.no ((Upd.refl No wr).alloc (.cells #[.int .i64 x.f,.int .i64 x.t,.int .i64 x.kind,.int .i64 x.label] 34)));clear bo hd
     go_wp2_with fail
     refine(Zsr HD.out (by omega) x).mono ?_;rintro e w3 ⟨rfl,hd3⟩;go_wp2
     go_roundg (gk-1)
     case measure=>omega
     case rel=>exact⟨j+1,Zc0 ids.length q x,by omega,by simp,Qh hd3,HS⟩
    ·obtain rfl:j=ac.length:=by omega
     have hqR:q=RQ:=by have:=hq.out;rw[List.drop_length]at this;exact this
     subst hqR;clear hq;obtain⟨G,hDG⟩:=hd.out.is;have HUD:=Qh hd.out.upd;have CL:=Qh (ZqG hDG (by have:=HLI.out;omega) 14);clear hd hDG
     go_wp2_with fail
     refine(CL.out).mono ?_;rintro e w4 ⟨A4,c4,rfl,ho4,hu4⟩;obtain⟨LL,hLL⟩:∃LL,Zcs ids.length (ofA 14 q)=LL:=⟨_,rfl⟩;have hLN:LL.length=ids.length:=by rw[←hLL];unfold Zcs;simp
     rw[hLL]at ho4 HANY ⊢;obtain⟨wl,hwl⟩:∃wl,w4.alloc (.cells #[.slice A4 LL.length c4] 24)=wl:=⟨_,rfl⟩;have ul:Upd No w4 wl:=by rw[←hwl];exact(Upd.refl No w4).alloc _
     have bl:Blk wl w4.heap.size 24 [.slice A4 LL.length c4]:=by rw[←hwl];exact Blk.new w4 _ _
     have HU4:=Qh ((HUD.out.trans hu4).trans ul);have CC:=Qh (Zrb (d:=c5) (HAC.out.upd HU4.out (fun _ _=>id)) (by omega) (bl.cell 0) ((HMC.out.upd HU4.out id).cell 0) ((Ints.of_own ho4).upd ul (fun _ _=>id)) (by rw[hLN];exact HOK.out) (by rw[hLN];have:=HLI.out;omega));rw[HANY.out,←HZ.out]at CC;clear ho4 hu4 ul bl hLL hLN
     go_wp2_with fail
     refine(CC.out).mono ?_;rintro e w5 ⟨rfl,hu5⟩;go_wp2
     go_ret
     exact⟨rfl,(HUR.out.trans HU4.out).trans hu5⟩
end
end Go.Proofs.YtonblekdfinpkaaGreat
