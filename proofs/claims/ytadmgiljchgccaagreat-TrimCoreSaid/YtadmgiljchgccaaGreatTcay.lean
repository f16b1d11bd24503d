/- Looking at a history: who is done; which version is the last one; who is next. -/
import Derived.Test.YtadmgiljchgccaaGreatTcax
namespace Go.Proofs.YtadmgiljchgccaaGreat
open Go.RowKit
set_option linter.unusedVariables false
set_option linter.unusedSimpArgs false
set_option maxRecDepth 100000
set_option maxHeartbeats 8000000
def ZjC(w:I0)(o:Option HTx)(e:Ending)(w':I0):Prop:=
 (match o with
  |some t=>∃A c,e= .returned (.tuple #[.agg #[Qi t.id,.bool t.done,.slice A t.ops.length c],.bool t.done])∧t.ops.length<=c∧HOps (fun i=>w.heap.size<=i) w' A t.ops
  |none=>e= .returned (.tuple #[.agg #[Qi 0,.bool false,.slice none 0 0],.bool false]))∧Upd No w w'
theorem ZxJ(F:Iw)(w:I0)(txs:List HTx)(ords:List HOrd)(A:OA)(c:Nat)(B:OA)(d:Nat)(i:Int)(H:Hist.lies F w ⟨txs,ords,A,c,B,d⟩):
  Calls Tryz.prog 101 #[.agg #[.slice A txs.length c,.slice B ords.length d],Qi i] w (ZjC w (Ze txs i)):=by
 have u0:=((Il No w).alloc (.cells #[.slice A txs.length c,.slice B ords.length d] 92)).alloc (.cells #[Qi 0,.bool false,.slice none 0 0] 39);have b1:=Im (w.alloc (.cells #[.slice A txs.length c,.slice B ords.length d] 92)) 39 [Qi 0,.bool false,.slice none 0 0];simp only[Ij]at b1;have B1:=Qh b1;have HH:=Qh (H.upd u0 Qo);clear b1
 cases hf:Ze txs i with
 |none=>
  have Hf:=Qh hf;clear hf;go_enter Tryz.func101,Tryz.ntmps101;go_wp2_with fail;refine Ck (Zep F _ txs ords A c B d i HH.out Hf.out) fun w1 hu1=>?_;have bt:=Im w1 39 [Qi 0,.bool false,.slice none 0 0];have bz:=B1.out.upd hu1 id;have bs:=Im (((w1.setCell ⟨w.heap.size+1,0,none⟩ (Qi 0)).setCell ⟨w.heap.size+1,1,none⟩ (.bool false)).setCell ⟨w.heap.size+1,2,none⟩ (.slice none 0 0)) 39 [Qi 0,.bool false,.slice none 0 0];simp only[World.size_setCell]at bs;have b3:=((((bz.set_ 0 (Qi 0)).set_ 1 (.bool false)).set_ 2 (.slice none 0 0)).alloc (.cells #[Qi 0,.bool false,.slice none 0 0] 39)).drew;simp only[List.set_cons_zero,List.set_cons_succ]at b3;obtain⟨k0,k1,k2⟩:=bt.c3;obtain⟨s0,s1,s2⟩:=bs.c3;obtain⟨z0,z1,z2⟩:=bz.c3;obtain⟨f0,f1,f2⟩:=bz.f3;have B3:=Qh b3;have hz:w.heap.size+1<w1.heap.size:=bz.lt;have U3:=Qh ((((((u0.trans hu1).setCell (p:=⟨w.heap.size+1,0,none⟩) (.inr (Nat.le_succ _)) (Qi 0)).setCell (p:=⟨w.heap.size+1,1,none⟩) (.inr (Nat.le_succ _)) (.bool false)).setCell (p:=⟨w.heap.size+1,2,none⟩) (.inr (Nat.le_succ _)) (.slice none 0 0)).alloc (.cells #[Qi 0,.bool false,.slice none 0 0] 39)).drew);have V3:=Qh ((((((Il (One (w.heap.size+1)) w1).setOne 0 (Qi 0)).setOne 1 (.bool false)).setOne 2 (.slice none 0 0)).alloc (.cells #[Qi 0,.bool false,.slice none 0 0] 39)).drew)
  clear bt bz bs b3;go_wp2;refine wpS (fun w'=>w'.cell? ⟨w1.heap.size,0,none⟩=some (Qi 0)∧w'.cell? ⟨w1.heap.size,1,none⟩=some (.bool false)∧w'.cell? ⟨w1.heap.size,2,none⟩=some (.slice none 0 0)) ?_ fun jH=>?_
  ·(first|exact⟨k0,k1,k2⟩|exact⟨s0,s1,s2⟩)
  (iterate 6 refine wpF ?_);refine wpZ 6 rfl fun K hK=>?_;go_simp;refine hK.out _ _ ?_ fun jH=>?_
  ·(first|exact⟨k0,k1,k2⟩|exact⟨s0,s1,s2⟩)
  try simp only[Qa]
  refine wpK 7 rfl ?_;refine wpD (Ii ?_);clear jH k0 k1 k2 s0 s1 s2 z0 z1 z2 f0 f1 f2;go_wp2;obtain⟨r0,r1,r2⟩:=B3.out.c3;refine bodyPost_ret (v:= .tuple #[.agg #[Qi 0,.bool false,.slice none 0 0],.bool false]) (by simp[results,Tryz.results101,go_sem,r0,r1,r2]) rfl ?_;unfold ZjC;exact⟨rfl,U3.out⟩
 |some t=>
  have Hf:=Qh hf;clear hf;go_enter Tryz.func101,Tryz.ntmps101;go_wp2_with fail;refine(ZcU F _ txs ords A c B d i HH.out Hf.out).mono ?_;rintro e w1 ⟨A1,c1,rfl,dP,cD,hu1⟩;have zM:=Qh cD;clear cD;obtain⟨td,vS⟩:=Qe t.done;have AB:=Qh vS;rw[vS];clear vS
  cases td
  ·have bt:=Im w1 39 [Qi t.id,.bool false,.slice A1 t.ops.length c1];have bz:=B1.out.upd hu1 id;have bs:=Im (((w1.setCell ⟨w.heap.size+1,0,none⟩ (Qi t.id)).setCell ⟨w.heap.size+1,1,none⟩ (.bool false)).setCell ⟨w.heap.size+1,2,none⟩ (.slice A1 t.ops.length c1)) 39 [Qi t.id,.bool false,.slice A1 t.ops.length c1];simp only[World.size_setCell]at bs;have b3:=((((bz.set_ 0 (Qi t.id)).set_ 1 (.bool false)).set_ 2 (.slice A1 t.ops.length c1)).alloc (.cells #[Qi t.id,.bool false,.slice A1 t.ops.length c1] 39)).drew;simp only[List.set_cons_zero,List.set_cons_succ]at b3;obtain⟨k0,k1,k2⟩:=bt.c3;obtain⟨s0,s1,s2⟩:=bs.c3;obtain⟨z0,z1,z2⟩:=bz.c3;obtain⟨f0,f1,f2⟩:=bz.f3;have B3:=Qh b3;have hz:w.heap.size+1<w1.heap.size:=bz.lt;have U3:=Qh ((((((u0.trans hu1).setCell (p:=⟨w.heap.size+1,0,none⟩) (.inr (Nat.le_succ _)) (Qi t.id)).setCell (p:=⟨w.heap.size+1,1,none⟩) (.inr (Nat.le_succ _)) (.bool false)).setCell (p:=⟨w.heap.size+1,2,none⟩) (.inr (Nat.le_succ _)) (.slice A1 t.ops.length c1)).alloc (.cells #[Qi t.id,.bool false,.slice A1 t.ops.length c1] 39)).drew);have V3:=Qh ((((((Il (One (w.heap.size+1)) w1).setOne 0 (Qi t.id)).setOne 1 (.bool false)).setOne 2 (.slice A1 t.ops.length c1)).alloc (.cells #[Qi t.id,.bool false,.slice A1 t.ops.length c1] 39)).drew)
   clear bt bz bs b3;go_wp2;refine wpS (fun w'=>w'.cell? ⟨w1.heap.size,0,none⟩=some (Qi t.id)∧w'.cell? ⟨w1.heap.size,1,none⟩=some (.bool false)∧w'.cell? ⟨w1.heap.size,2,none⟩=some (.slice A1 t.ops.length c1)) ?_ fun jH=>?_
   ·(first|exact⟨k0,k1,k2⟩|exact⟨s0,s1,s2⟩)
   (iterate 6 refine wpF ?_);refine wpZ 6 rfl fun K hK=>?_;go_simp;refine hK.out _ _ ?_ fun jH=>?_
   ·(first|exact⟨k0,k1,k2⟩|exact⟨s0,s1,s2⟩)
   try simp only[Qa]
   refine wpK 7 rfl ?_;refine wpD (Ii ?_);clear jH k0 k1 k2 s0 s1 s2 z0 z1 z2 f0 f1 f2;go_wp2;obtain⟨r0,r1,r2⟩:=B3.out.c3;refine bodyPost_ret (v:= .tuple #[.agg #[Qi t.id,.bool false,.slice A1 t.ops.length c1],.bool false]) (by simp[results,Tryz.results101,go_sem,r0,r1,r2]) rfl ?_;unfold ZjC;have rM:=zM.out;simp only[Ij]at rM;exact⟨⟨A1,c1,by rw[AB.out],dP,(Recs.upd rM V3.out (fun i hi e=>by cases e;omega)).weak (fun i _ e=>by omega)⟩,U3.out⟩
  ·have bt:=Im w1 39 [Qi t.id,.bool true,.slice A1 t.ops.length c1];have bz:=B1.out.upd hu1 id;have bs:=Im (((w1.setCell ⟨w.heap.size+1,0,none⟩ (Qi t.id)).setCell ⟨w.heap.size+1,1,none⟩ (.bool true)).setCell ⟨w.heap.size+1,2,none⟩ (.slice A1 t.ops.length c1)) 39 [Qi t.id,.bool true,.slice A1 t.ops.length c1];simp only[World.size_setCell]at bs;have b3:=((((bz.set_ 0 (Qi t.id)).set_ 1 (.bool true)).set_ 2 (.slice A1 t.ops.length c1)).alloc (.cells #[Qi t.id,.bool true,.slice A1 t.ops.length c1] 39)).drew;simp only[List.set_cons_zero,List.set_cons_succ]at b3;obtain⟨k0,k1,k2⟩:=bt.c3;obtain⟨s0,s1,s2⟩:=bs.c3;obtain⟨z0,z1,z2⟩:=bz.c3;obtain⟨f0,f1,f2⟩:=bz.f3;have B3:=Qh b3;have hz:w.heap.size+1<w1.heap.size:=bz.lt;have U3:=Qh ((((((u0.trans hu1).setCell (p:=⟨w.heap.size+1,0,none⟩) (.inr (Nat.le_succ _)) (Qi t.id)).setCell (p:=⟨w.heap.size+1,1,none⟩) (.inr (Nat.le_succ _)) (.bool true)).setCell (p:=⟨w.heap.size+1,2,none⟩) (.inr (Nat.le_succ _)) (.slice A1 t.ops.length c1)).alloc (.cells #[Qi t.id,.bool true,.slice A1 t.ops.length c1] 39)).drew);have V3:=Qh ((((((Il (One (w.heap.size+1)) w1).setOne 0 (Qi t.id)).setOne 1 (.bool true)).setOne 2 (.slice A1 t.ops.length c1)).alloc (.cells #[Qi t.id,.bool true,.slice A1 t.ops.length c1] 39)).drew)
   clear bt bz bs b3;go_wp2;refine wpS (fun w'=>w'.cell? ⟨w1.heap.size,0,none⟩=some (Qi t.id)∧w'.cell? ⟨w1.heap.size,1,none⟩=some (.bool true)∧w'.cell? ⟨w1.heap.size,2,none⟩=some (.slice A1 t.ops.length c1)) ?_ fun jH=>?_
   ·(first|exact⟨k0,k1,k2⟩|exact⟨s0,s1,s2⟩)
   (iterate 6 refine wpF ?_);refine wpZ 6 rfl fun K hK=>?_;go_simp;refine hK.out _ _ ?_ fun jH=>?_
   ·(first|exact⟨k0,k1,k2⟩|exact⟨s0,s1,s2⟩)
   try simp only[Qa]
   refine wpK 7 rfl ?_;refine wpD (Ii ?_);clear jH k0 k1 k2 s0 s1 s2 z0 z1 z2 f0 f1 f2;go_wp2;obtain⟨r0,r1,r2⟩:=B3.out.c3;refine bodyPost_ret (v:= .tuple #[.agg #[Qi t.id,.bool true,.slice A1 t.ops.length c1],.bool true]) (by simp[results,Tryz.results101,go_sem,r0,r1,r2]) rfl ?_;unfold ZjC;have rM:=zM.out;simp only[Ij]at rM;exact⟨⟨A1,c1,by rw[AB.out],dP,(Recs.upd rM V3.out (fun i hi e=>by cases e;omega)).weak (fun i _ e=>by omega)⟩,U3.out⟩
theorem Zpn{txs:List HTx}{i:Int}(h:Ze txs i=none):Zh txs i=none:=by unfold Zh;rw[h]
theorem Zrq{txs:List HTx}{i:Int}{t:HTx}(h:Ze txs i=some t)(hd:t.done=false):Zh txs i=none:=by unfold Zh;rw[h];simp[hd]
theorem Zrp{txs:List HTx}{i:Int}{t:HTx}(h:Ze txs i=some t)(hd:t.done=true):Zh txs i=some t:=by unfold Zh;rw[h];simp[hd]
def Zun(w:I0)(o:Option HTx)(e:Ending)(w':I0):Prop:=
 ∃(x:Int) (b dn:Bool) (A:OA) (l:Is) (c:Nat),e= .returned (.tuple #[.agg #[Qi x,.bool dn,.slice A l.length c],.bool b])∧l.length<=c∧Zt l.length∧HOps (fun i=>w.heap.size<=i) w' A l∧
  (match o with|some t=>b=true∧x=t.id∧l=t.ops|none=>b=false)∧Upd No w w'
theorem Zpy(F:Iw)(w:I0)(txs:List HTx)(ords:List HOrd)(A:OA)(c:Nat)(B:OA)(d:Nat)(i:Int)(H:Hist.lies F w ⟨txs,ords,A,c,B,d⟩):
  Calls Tryz.prog 101 #[.agg #[.slice A txs.length c,.slice B ords.length d],Qi i] w (Zun w (Zh txs i)):=by
 refine(ZxJ F w txs ords A c B d i H).mono ?_;intro e w' h;unfold ZjC at h;unfold Zun
 cases hf:Ze txs i with
 |none=>
  rw[hf]at h;rw[Zpn hf];exact⟨0,false,false,none,[],0,h.1,Nat.le_refl _,by unfold Zt;simp,fun h=>absurd rfl h,rfl,h.2⟩
 |some t=>
  rw[hf]at h;obtain⟨⟨A',c',h1,h2,h3⟩,h4⟩:=h;have bD:=(H.tx t (Zdx hf)).2.2.1
  cases hd:t.done
  ·rw[Zrq hf hd];rw[hd]at h1;exact⟨_,_,_,A',t.ops,c',h1,h2,bD,h3,rfl,h4⟩
  ·rw[Zrp hf hd];rw[hd]at h1;exact⟨_,_,_,A',t.ops,c',h1,h2,bD,h3,⟨rfl,rfl,rfl⟩,h4⟩
/- Edges,reads and witnesses by the document,in plain words;for right histories they are what the program tells. -/
section
variable {h:Hist}
theorem ZiH(hr:Zb h=true){i:Nat}(hi:i<h.txs.length):Zdf h.txs i=true:=by
 unfold Zb at hr;simp only[Hj,Hd,Ic]at hr;exact hr.1.1.2 i hi
theorem Zbf(hr:Zb h=true):(h.txs.map (·.id)).Pairwise (·<·):=ZnG fun j hj=>by
 rw[Hw]at hj;have:=ZiH hr hj;unfold Zdf at this;rw[Qg hj]at this;simp only[Hj]at this;have h1:=this.1.1;simp only[Qg (show j<h.txs.length by omega),Gw]at h1;rw[List.getD_eq_getElem?_getD,List.getD_eq_getElem?_getD,List.getElem?_map,List.getElem?_map,Qg hj,Qg (show j<h.txs.length by omega)];exact h1
theorem ZfZ(hr:Zb h=true){t:HTx}(ht:t∈h.txs):Ze h.txs t.id=some t:=by
 obtain⟨k,hk,rfl⟩:=Gl.1 ht;have hp:=List.pairwise_iff_getElem.1 (Zbf hr);refine Zjj hk (fun j hj=>?_) (by simp);have:=hp j k (by simp;omega) (by simpa using hk) hj;simp only[G8]at this;rw[beq_eq_false_iff_ne];omega
theorem Zck{txs:List HTx}{i:Int}{t:HTx}(hf:Ze txs i=some t):t∈txs∧t.id=i:=by
 refine⟨Zdx hf,?_⟩;unfold Ze at hf;have:=List.find?_some hf
 simpa using this
theorem Zc6(hr:Zb h=true){t:HTx}(ht:t∈h.txs):ZaT t.id t.ops=0∧Za0 h.txs t.id t.ops=true:=by
 obtain⟨k,hk,rfl⟩:=Gl.1 ht;have:=ZiH hr hk;unfold Zdf at this;rw[Qg hk]at this;simp only[Hj,beq_iff_eq]at this;exact⟨this.1.2,this.2⟩
theorem ZfY(hr:Zb h=true){t:HTx}(ht:t∈h.txs):1<=t.id:=by
 have:=(Zc6 hr ht).1;unfold ZaT at this
 split at this
 ·cases this
 ·rename_i hid
  unfold idB at hid;simp at hid;exact hid.1
theorem ZgI(id:Int)(l:Is):∀k,k<=l.length->∀j (hj:j<k) (hl:j<l.length),Zch id l[j]=true->Zk l[j]∈ZaH id l k
 |0,_,j,hj,_,_=>by omega
 |k+1,hk,j,hj,hl,hn=>by
  have ih:=ZgI id l k (by omega)
  show Zk l[j]∈(match l[k]? with|some o=>_|none=>_)
  rw[Qg (show k<l.length by omega)]
  by_cases e:j=k
  ·subst e;simp only[hn,Bool.true_and]
   by_cases hc:Zk l[j]∈ZaH id l j
   ·simp[hc]
   ·simp[hc]
  ·have:=ih j (by omega) hl hn;simp only
   split
   ·exact Gp _ this
   ·exact this
theorem Zql(hr:Zb h=true){t:HTx}(ht:t∈h.txs){o:HOp}(ho:o∈t.ops)(hn:Zch t.id o=true):Zam h.txs (Zk o)=true:=by
 have h1:=(Zc6 hr ht).2;unfold Za0 at h1;rw[Hd]at h1;obtain⟨j,hj,rfl⟩:=Gl.1 ho;exact h1 _ (ZgI t.id t.ops _ (Nat.le_refl _) j hj hj hn)
theorem Zfj(hr:Zb h=true){t:HTx}(ht:t∈h.txs){o:HOp}(ho:o∈t.ops)(hrd:o.read=true)(h0:o.tx≠0)(h1:o.tx≠t.id):∃u,Ze h.txs o.tx=some u:=by
 have hv:Zk o=⟨o.tx,o.key,o.nth⟩:=by unfold Zk;rw[if_pos hrd]
 have:=Zql hr ht ho (by unfold Zch;rw[hv];simp[hrd,h0,h1]);rw[hv]at this
 cases hf:Ze h.txs o.tx with
 |some u=>exact⟨u,rfl⟩
 |none=>
  unfold Zam at this;simp[h0,hf]at this
end
/-! how often there is a reason for an edge -/
def p2(f key:Int)(n:Nat)(o:HOp):Bool:=o.read&&o.key==key&&o.tx==f&&o.nth==(n:Int)
def p3(h:Hist)(id key t:Int)(o:HOp):Bool:=o.read&&o.key==key&& !(o.tx==id)&&ZU h.txs ⟨o.tx,o.key,o.nth⟩&&Zav h.ords key o.tx t
def Zap(h:Hist)(e:Edge):Nat:=
 match Zh h.txs e.f,Zh h.txs e.t with
 |some a,some b=>
  if e.f=e.t then 0
  else if e.k=1 then (if Zav h.ords e.key e.f e.t then 1 else 0)
  else if e.k=2 then b.ops.countP (p2 e.f e.key (Z9 a.ops e.key))
  else if e.k=3 then a.ops.countP (p3 h a.id e.key e.t)
  else 0
 |_,_=>0
theorem ZaK{txs:List HTx}{i:Int}{t:HTx}(hd:Zh txs i=some t):Ze txs i=some t∧t.done=true:=by
 unfold Zh at hd
 split at hd
 ·split at hd
  ·rename_i u hf hu
   cases hd
   exact⟨hf,hu⟩
  ·cases hd
 ·cases hd
theorem Zjq{α:Type}(p:α->Bool)(l:List α):decide (0<l.countP p)=l.any p:=by
 rw[Bool.eq_iff_iff,Gw,List.countP_pos_iff,Ha]
theorem Zhb{α:Type}{p q:α->Bool}:∀{l:List α},(∀x∈l,p x=q x)->l.any p=l.any q
 |[],_=>rfl
 |a::l,h=>by
  rw[List.any_cons,List.any_cons,h a (Gv ..),Zhb fun x hx=>h x (Gk _ hx)]
theorem Zvq(c:Prop)[Decidable c](a b:Nat):decide (0<(if c then a else b))=if c then decide (0<a) else decide (0<b):=by split<;>rfl
theorem ZmV{h:Hist}(hr:Zb h=true)(e:Edge):decide (0<Zap h e)=ZS h e:=by
 unfold Zap ZS
 cases hd1:Zh h.txs e.f with
 |none=>rfl
 |some a=>
  cases hd2:Zh h.txs e.t with
  |none=>rfl
  |some b=>
   simp only[Zvq];have ha:=Zck (ZaK hd1).1;have hb:=Zck (ZaK hd2).1
   by_cases h0:e.f=e.t
   ·rw[if_pos h0,if_pos h0];rfl
   ·rw[if_neg h0,if_neg h0]
    by_cases h1:e.k=1
    ·rw[if_pos h1,if_pos h1]
     cases Zav h.ords e.key e.f e.t<;>rfl
    ·rw[if_neg h1,if_neg h1]
     by_cases h2:e.k=2
     ·rw[if_pos h2,if_pos h2,Zjq];unfold ZaW;refine Zhb fun o _=>?_
      unfold p2
      cases hrd:o.read
      ·rfl
      ·have hv:Zk o=⟨o.tx,o.key,o.nth⟩:=by unfold Zk;rw[if_pos hrd]
       rw[hv]
       dsimp only
       by_cases hk:o.key=e.key
       ·by_cases ht:o.tx=e.f
        ·have h3:(o.tx==b.id)=false:=by rw[beq_eq_false_iff_ne,ht,hb.2];exact h0
         have CW:e.f≠0:=by have:=ZfY hr ha.1;rw[ha.2]at this;omega
         have h4:ZU h.txs ⟨o.tx,o.key,o.nth⟩=(o.nth==(Z9 a.ops e.key:Int)):=by
          unfold ZU;simp only[ht,hd1,if_neg CW,hk]
         rw[h3,h4];simp[hk,ht]
        ·have:(o.tx==e.f)=false:=by rw[beq_eq_false_iff_ne];exact ht
         simp[this]
       ·have:(o.key==e.key)=false:=by rw[beq_eq_false_iff_ne];exact hk
        simp[this]
     ·rw[if_neg h2,if_neg h2]
      by_cases h3:e.k=3
      ·rw[if_pos h3,if_pos h3,Zjq];unfold ZaW;refine Zhb fun o _=>?_
       unfold p3
       cases hrd:o.read
       ·rfl
       ·have hv:Zk o=⟨o.tx,o.key,o.nth⟩:=by unfold Zk;rw[if_pos hrd]
        rw[hv];simp[Bool.and_assoc]
      ·rw[if_neg h3,if_neg h3];rfl
/-! bad reads -/
def Zcp(txs:List HTx)(t:HTx)(p:Int)(o:HOp):Bool:=
 t.done&&o.read&& !(o.tx==0)&& !(o.tx==t.id)&&(match Ze txs o.tx with|none=>false|some u=>if p=2 then !u.done else p==3&&decide (o.nth<(Z9 u.ops o.key:Int)))
def Zce(txs:List HTx)(p:Int)(t:HTx)(i:Nat)(acc:Ir):Is->List HBad
 |[]=>acc
 |o::l=>Zce txs p t (i+1) (if Zcp txs t p o then acc++[⟨t.id,i,Zk o⟩] else acc) l
def ZcY(txs:List HTx)(p:Int)(acc:Ir):List HTx->List HBad
 |[]=>acc
 |t::l=>ZcY txs p (Zce txs p t 0 acc t.ops) l
def ZW(h:Hist)(p:Int):Ir:=if Zb h=true then ZcY h.txs p [] h.txs else []
theorem ZkC(txs:List HTx)(p:Int)(t:HTx)(b:HBad):∀(l:Is) (i:Nat) (acc:Ir),b∈Zce txs p t i acc l↔b∈acc∨∃(j:Nat) (o:HOp),l[j]? =some o∧Zcp txs t p o=true∧b=⟨t.id,((i+j:Nat):Int),Zk o⟩
 |[],i,acc=>by simp[Zce]
 |o::l,i,acc=>by
  show b∈Zce txs p t (i+1) (if Zcp txs t p o then acc++[⟨t.id,i,Zk o⟩] else acc) l↔_
  rw[ZkC txs p t b l]
  constructor
  ·rintro(h|⟨j,o',h1,h2,h3⟩)
   ·by_cases hb:Zcp txs t p o=true
    ·rw[if_pos hb,Ib,Gq]at h;rcases h with h|h
     ·exact .inl h
     ·exact .inr ⟨0,o,rfl,hb,by simpa using h⟩
    ·rw[if_neg hb]at h;exact .inl h
   ·exact .inr ⟨j+1,o',by simpa using h1,h2,by rw[h3];congr 2;omega⟩
  ·rintro(h|⟨j,o',h1,h2,h3⟩)
   ·left
    split
    ·exact Gp _ h
    ·exact h
   ·cases j with
    |zero=>
     simp only[Qz,Gy]at h1;subst h1
     left
     rw[if_pos h2,Ib,Gq];exact .inr (by simpa using h3)
    |succ j=>
     right
     exact⟨j,o',by simpa using h1,h2,by rw[h3];congr 2;omega⟩
theorem ZkD(txs:List HTx)(p:Int)(b:HBad):∀(l:List HTx) (acc:Ir),b∈ZcY txs p acc l↔b∈acc∨∃t∈l,∃(j:Nat) (o:HOp),t.ops[j]? =some o∧Zcp txs t p o=true∧b=⟨t.id,(j:Int),Zk o⟩
 |[],acc=>by simp[ZcY]
 |t::l,acc=>by
  show b∈ZcY txs p (Zce txs p t 0 acc t.ops) l↔_
  rw[ZkD txs p b l,ZkC];simp only[Nat.zero_add,Ie,exists_eq_or_imp]
  grind
theorem ZtF{h:Hist}(hr:Zb h=true)(p:Int)(b:HBad):(ZW h p).contains b=ZaS h.txs p b:=by
 unfold ZW;rw[if_pos hr,Bool.eq_iff_iff,List.contains_eq_mem,Gw,ZkD]
 constructor
 ·rintro(h'|⟨t,ht,j,o,h1,h2,rfl⟩)
  ·cases h'
  ·have hf:=ZfZ hr ht;unfold Zcp at h2;simp only[Hj]at h2;obtain⟨⟨⟨⟨hd,hrd⟩,h0⟩,hi⟩,hm⟩:=h2;unfold ZaS Zh;simp only[hf,hd,if_true];rw[if_neg (by omega)];simp only[Int.toNat_natCast,h1];simp only[Bool.not_eq_true',beq_eq_false_iff_ne]at h0 hi;have hv:Zk o=⟨o.tx,o.key,o.nth⟩:=by unfold Zk;rw[if_pos hrd]
   rw[if_neg (by simp[hrd,h0,hi])]
   cases hu:Ze h.txs o.tx with
   |none=>rw[hu]at hm;cases hm
   |some u=>
    rw[hu]at hm;simp only at hm ⊢
    by_cases hp:p=2
    ·rw[if_pos hp]at hm ⊢;exact hm
    ·rw[if_neg hp]at hm ⊢;simp only[Hj,beq_iff_eq]at hm;rw[if_pos hm.1];exact hm.2
 ·intro hb
  right
  unfold ZaS at hb
  cases hd:Zh h.txs b.tx with
  |none=>rw[hd]at hb;cases hb
  |some t=>
   rw[hd]at hb;obtain⟨hf,gc⟩:=ZaK hd;have ht:=Zck hf;simp only at hb
   split at hb
   ·cases hb
   ·rename_i hpl
    cases ho:t.ops[b.place.toNat]? with
    |none=>rw[ho]at hb;cases hb
    |some o=>
     rw[ho]at hb;simp only at hb
     split at hb
     ·cases hb
     ·rename_i hc
      simp only[Ia,Bool.not_eq_true',beq_iff_eq,not_or,Bool.not_eq_false,beq_eq_false_iff_ne,Classical.not_not]at hc;obtain⟨⟨⟨hrd,hv⟩,h0⟩,hi⟩:=hc;have DK:=Gn ho;obtain⟨u,hu⟩:=Zfj hr ht.1 DK hrd h0 hi;refine⟨t,ht.1,b.place.toNat,o,ho,?_,?_⟩
      ·unfold Zcp;rw[hu]at hb ⊢;simp only at hb ⊢;simp only[gc,hrd,Bool.true_and,Hj];refine⟨⟨by simpa using h0,by simpa using hi⟩,?_⟩
       split at hb
       ·rename_i hp;rw[if_pos hp];exact hb
       ·rename_i hp
        rw[if_neg hp]
        split at hb
        ·rename_i hp3;simp[hp3];simpa using hb
        ·cases hb
      ·obtain⟨bt,bp,bo⟩:=b;simp only at hv hpl ht ⊢;rw[ht.2,hv,Int.toNat_of_nonneg (by omega)]
/-! witnesses -/
theorem ZkY{h:Hist}{e:Edge}(he:ZS h e=true):e.k=1∨e.k=2∨e.k=3:=by
 unfold ZS at he
 split at he
 ·split at he
  ·cases he
  ·split at he
   ·exact .inl ‹_›
   ·split at he
    ·exact .inr (.inl ‹_›)
    ·split at he
     ·exact .inr (.inr ‹_›)
     ·cases he
 ·cases he
/- Looking at a history:the last version;the next one;reads that count. -/
theorem ZoS{F:Iw}{w:I0}{h:Hist}(H:h.lies F w)(key:Int):(ZaA h.ords key).length<=17592186044415:=by
 unfold ZaA
 cases hp:h.ords[Zcm h.ords key]? with
 |none=>simp
 |some o=>exact(H.ord o (Gn hp)).2.2.1
theorem Zug(F:Iw)(w:I0)(txs:List HTx)(ords:List HOrd)(A:OA)(c:Nat)(B:OA)(d:Nat)(key x y:Int)(H:Hist.lies F w ⟨txs,ords,A,c,B,d⟩):
  CN 103 #[.agg #[.slice A txs.length c,.slice B ords.length d],Qi key,Qi x,Qi y] w (.bool (Zav ords key x y)):=by
 have u0:=(Il No w).alloc (.cells #[.slice A txs.length c,.slice B ords.length d] 92);have H0:=H.upd u0 Qo;have sR:=ZoS H key;have ho:=Zye F _ ⟨txs,ords,A,c,B,d⟩ key H0;obtain⟨l,hl⟩:=Qe (ZaA ords key);rw[show ZaA (Hist.ords ⟨txs,ords,A,c,B,d⟩) key=l from hl]at ho sR;have HO:=Qh ho;have HV:=Qh (show Zav ords key x y=(ZbL l x==some y) by unfold Zav;rw[hl]);have ED:=Qh sR;clear hl ho sR H0;go_enter Tryz.func103,Tryz.ntmps103;go_wp2_with fail;refine(HO.out).mono ?_;rintro e w1 ⟨A1,c1,rfl,cn,hu1⟩;have hI:=Ints.of_owned cn;have hn:=Zxc _ w1 A1 c1 l x hI ED.out;unfold ZrX at hn;have HU:=Qh (u0.trans hu1);clear u0 hu1 cn hI
 cases hx:ZbL l x with
 |none=>
  rw[hx]at hn;have HN:=Qh hn;have lj:=Qh (show Zav ords key x y=false by rw[HV.out,hx];rfl);clear hx hn;go_wp2_with fail;refine Ck HN.out fun w2 hu2=>?_;go_wp2;go_ret;exact⟨by rw[lj.out];rfl,HU.out.trans hu2⟩
 |some z=>
  rw[hx]at hn;have HN:=Qh hn;have lj:=Qh (show Zav ords key x y=(z==y) by rw[HV.out,hx];rfl);clear hx hn;go_wp2_with fail;refine Ck HN.out fun w2 hu2=>?_;go_wp2;go_ret;exact⟨by rw[lj.out];rfl,HU.out.trans hu2⟩
theorem Zo0{txs:List HTx}{v:Ver}(h:v.tx≠0)(hd:Zh txs v.tx=none):ZU txs v=false:=by unfold ZU;rw[if_neg h,hd]
theorem ZoZ{txs:List HTx}{v:Ver}{t:HTx}(h:v.tx≠0)(hd:Zh txs v.tx=some t):ZU txs v=(v.nth==(Z9 t.ops v.key:Int)):=by unfold ZU;rw[if_neg h,hd]
theorem ZxH(F:Iw)(w:I0)(txs:List HTx)(ords:List HOrd)(A:OA)(c:Nat)(B:OA)(d:Nat)(v:Ver)(H:Hist.lies F w ⟨txs,ords,A,c,B,d⟩):
  CN 106 #[.agg #[.slice A txs.length c,.slice B ords.length d],.agg v.cells.toArray] w (.bool (ZU txs v)):=by
 obtain⟨tx,key,nth⟩:=v;unfold Ver.cells;have u0:=((Il No w).alloc (.cells #[.slice A txs.length c,.slice B ords.length d] 92)).alloc (.cells #[Qi tx,Qi key,Qi nth] 49)
 by_cases h0:tx=0
 ·have hv:=Qh (show ZU txs ⟨tx,key,nth⟩=true by unfold ZU;rw[if_pos h0]);subst h0;go_enter Tryz.func106,Tryz.ntmps106;go_wp2;go_ret;exact⟨by rw[hv.out];rfl,u0⟩
 ·have pO:(tx==0)=false:=by simpa using h0
  have b1:=Im (w.alloc (.cells #[.slice A txs.length c,.slice B ords.length d] 92)) 49 [Qi tx,Qi key,Qi nth];simp only[Ij]at b1;have B1:=Qh b1;have ha:=Qh (Zpy F _ txs ords A c B d tx (H.upd u0 Qo));have zz:=Qh h0;clear h0 b1;go_enter Tryz.func106,Tryz.ntmps106;go_wp2_with fail;refine(ha.out).mono ?_;rintro e w1 ⟨x,b,dn,A1,l,c1,rfl,dP,bD,cD,hm,hu1⟩;have bv:=Qh ((B1.out.upd hu1 id).alloc (.cells #[Qi x,.bool dn,.slice A1 l.length c1] 39));have bt:=Qh (Im w1 39 [Qi x,.bool dn,.slice A1 l.length c1]);have kE:=Qh (HOps.upd cD ((Il No w1).alloc (.cells #[Qi x,.bool dn,.slice A1 l.length c1] 39)).drew Qo);have UU:=Qh ((u0.trans hu1).alloc (.cells #[Qi x,.bool dn,.slice A1 l.length c1] 39));have ot:=Qh bD;obtain⟨g0,g1,g2⟩:=bv.out.c3;obtain⟨k0,k1,k2⟩:=bt.out.c3;clear cD bD u0 hu1
  cases hd:Zh txs tx with
  |none=>
   have hv:Hid (ZU txs ⟨tx,key,nth⟩=false):=Qh (Zo0 (v:=⟨tx,key,nth⟩) zz.out hd);rw[hd]at hm;subst hm;clear hd;go_wp2
   go_quiet (fail)
   go_wp2;go_ret;exact⟨by rw[hv.out];rfl,UU.out.drewN _⟩
  |some t=>
   have hv:Hid (ZU txs ⟨tx,key,nth⟩=(nth==(Z9 t.ops key:Int))):=Qh (ZoZ (v:=⟨tx,key,nth⟩) zz.out hd);rw[hd]at hm;obtain⟨rfl,rfl,rfl⟩:=hm;clear hd;go_wp2;refine wpS (fun w'=>Upd No w w'∧w'.cell? ⟨w.heap.size+1,0,none⟩=some (Qi tx)∧w'.cell? ⟨w.heap.size+1,1,none⟩=some (Qi key)∧w'.cell? ⟨w.heap.size+1,2,none⟩=some (Qi nth)∧w'.cell? ⟨w1.heap.size,0,none⟩=some (Qi t.id)∧w'.cell? ⟨w1.heap.size,1,none⟩=some (.bool dn)∧w'.cell? ⟨w1.heap.size,2,none⟩=some (.slice A1 t.ops.length c1)) ?_ fun jH=>?_
   ·(first|exact⟨UU.out.drew,g0,g1,g2,k0,k1,k2⟩|exact⟨jH.1.trans hu3,hu3.keepNo jH.2.1,hu3.keepNo jH.2.2.1,hu3.keepNo jH.2.2.2.1,hu3.keepNo jH.2.2.2.2.1,hu3.keepNo jH.2.2.2.2.2.1,hu3.keepNo jH.2.2.2.2.2.2⟩)
   (iterate 7 refine wpF ?_);refine wpZ 7 rfl fun K hK=>?_;go_simp
   (first
  |(go_at_call 102;refine Ck (Zez _ _ t.id dn A1 c1 t.ops key kE.out ot.out) fun w3 hu3=>?_))
   try (go_wp2_with fail)
   refine hK.out _ _ ?_ fun jH=>?_
   ·(first|exact⟨UU.out.drew,g0,g1,g2,k0,k1,k2⟩|exact⟨jH.1.trans hu3,hu3.keepNo jH.2.1,hu3.keepNo jH.2.2.1,hu3.keepNo jH.2.2.2.1,hu3.keepNo jH.2.2.2.2.1,hu3.keepNo jH.2.2.2.2.2.1,hu3.keepNo jH.2.2.2.2.2.2⟩)
   try simp only[Qa]
   (iterate 3 refine wpF ?_);refine wpD (Ii ?_);have HU:=Qh jH.1;clear jH;go_wp2;go_ret;exact⟨by rw[hv.out];rfl,HU.out⟩
theorem ZlS{id:Int}{l:Is}{key:Int}{cnt:Ver->Bool}(h:∀(j:Nat) (hj:j<l.length),(l[j].read&&l[j].key==key&& !(l[j].tx==id)&&cnt (Zk l[j]))=false):ZaW id l key cnt=false:=by
 unfold ZaW;rw[List.any_eq_false];intro x hx;obtain⟨k,hk,rfl⟩:=Gl.1 hx;rw[h k hk];simp
theorem Zki{id:Int}{l:Is}{key:Int}{cnt:Ver->Bool}{k:Nat}(hk:k<l.length)(h:(l[k].read&&l[k].key==key&& !(l[k].tx==id)&&cnt (Zk l[k]))=true):ZaW id l key cnt=true:=by
 unfold ZaW;rw[Ha];exact⟨l[k],Hg hk,h⟩
def Za6(id key:Int)(cnt:Ver->Bool)(o:HOp):Bool:=o.read&&o.key==key&& !(o.tx==id)&&cnt (Zk o)
theorem Zvt(F:Iw)(w:I0)(i0:Int)(dn:Bool)(A:OA)(c:Nat)(l:Is)(key:Int)(p1 p2:Addr)(cnt:Ver->Bool)(h:HOps F w A l)(hl:Zt l.length)
  (hc:Hid (∀W v,Upd No w W->CN 105 #[.agg v.cells.toArray,.pointer (some p1),.pointer (some p2)] W (.bool (cnt v)))):
  CN 104 #[.agg #[Qi i0,.bool dn,.slice A l.length c],Qi key,.func (.func 105) #[] #[.pointer (some p1),.pointer (some p2)]] w (.bool (ZaW i0 l key cnt)):=by
 unfold Zt at hl;have uT:=(Il No w).alloc (.cells #[Qi i0,.bool dn,.slice A l.length c] 39);have bT:=Qh (Im w 39 [Qi i0,.bool dn,.slice A l.length c]);go_enter Tryz.func104,Tryz.ntmps104;go_wp2
 go_loopg [12] l.length (fun gk i wr=>∃(k:Nat),k+gk=l.length∧i= Qi k∧Hid (∀(j:Nat) (hj:j<l.length),j<k->Za6 i0 key cnt l[j]=false)∧Upd No (w.alloc (.cells #[Qi i0,.bool dn,.slice A l.length c] 39)) wr)
 case atStart=>exact⟨0,by omega,rfl,Qh (fun j _ hj=>by omega),Il No _⟩
 case round=>
  obtain⟨k,aI,rfl,ah,hu⟩:=hrel
  by_cases hlt:k<l.length
  ·obtain⟨ad,aH,q0,q1,q2,q3⟩:=(h.upd (uT.trans hu) Qo).at_ hlt;obtain⟨x,hx⟩:=Qe (l[k]);rw[hx]at q0 q1 q2 q3;subst aH;have X:=Qh hx;have b1:(0:Int)<=(k:Int):=Qn _;have b2:(k:Int)<(l.length:Int):=by omega
   have uA:=(Il No wr).alloc (.cells #[.bool x.read,Qi x.key,Qi x.tx,Qi x.nth] 66);have bo:=Qh (Im wr 66 [.bool x.read,Qi x.key,Qi x.tx,Qi x.nth]);have bT1:=(bT.out.upd hu id).upd uA id;have t0:=bT1.cell 0;simp only[Qz]at t0;have HU:=Qh (hu.trans uA)
   have NX:=Qh (fun(hn:Za6 i0 key cnt x=false)=>(fun(j:Nat) (hj:j<l.length) (hjk:j<k+1)=>(by
    by_cases e:j=k
    ·subst e;rw[X.out];exact hn
    ·exact ah.out j hj (by omega):Za6 i0 key cnt l[j]=false)))
   clear hx bT1 uA
   cases hr:x.read
   ·rw[hr]at q0 t0;have HN:=Qh (show Za6 i0 key cnt x=false by unfold Za6;rw[hr];rfl);have Hr:=Qh hr;have eC:=HU.out;rw[hr]at eC;clear hr;go_wp2;go_roundg (gk-1);exact⟨k+1,by omega,by go_num,Qh (NX.out HN.out),eC⟩;omega
   ·rw[hr]at q0 t0;have eC:=HU.out;rw[hr]at eC;have Hr:=Qh hr;clear hr
    cases hk:x.key==key
    ·have HN:=Qh (show Za6 i0 key cnt x=false by unfold Za6;rw[hk,Bool.and_false];rfl);go_wp2;go_roundg (gk-1);exact⟨k+1,by omega,by go_num,Qh (NX.out HN.out),eC⟩;omega
    ·cases ht:x.tx != i0
     ·have io:(x.tx==i0)=true:=by simpa using ht
      have HN:=Qh (show Za6 i0 key cnt x=false by unfold Za6;rw[io];simp);clear io;go_wp2;go_roundg (gk-1);exact⟨k+1,by omega,by go_num,Qh (NX.out HN.out),eC⟩;omega
     ·have io:(x.tx==i0)=false:=by simpa using ht
      have HC:=Qh (show Za6 i0 key cnt x=cnt (Zk x) by unfold Za6;rw[Hr.out,hk,io];rfl);obtain⟨v,hv⟩:=Qe (Zk x);have dv:=oof (wr.alloc (.cells #[.bool x.read,Qi x.key,Qi x.tx,Qi x.nth] 66)) x;rw[hv]at dv
      have h2:Calls Tryz.prog 58 #[.agg #[.bool true,Qi x.key,Qi x.tx,Qi x.nth]] (wr.alloc (.cells #[.bool true,Qi x.key,Qi x.tx,Qi x.nth] 66)) fun e w'=>e= .returned (.agg v.cells.toArray)∧Upd No (wr.alloc (.cells #[.bool true,Qi x.key,Qi x.tx,Qi x.nth] 66)) w':=by
       have:=dv;unfold HOp.cells at this
       rwa [Hr.out]at this
      have qY:=Qh h2;have V:=Qh hv;clear dv h2 hv io;go_wp2_with fail;refine Ck qY.out fun w1 hu1=>?_;have gX:=hc.out w1 v ((uT.trans eC).trans hu1)
      cases hcv:cnt v
      ·rw[hcv]at gX;have oJ:=Qh gX;have HN:=Qh (show Za6 i0 key cnt x=false by rw[HC.out,V.out];exact hcv);clear hcv gX;go_wp2_with fail;refine Ck oJ.out fun w2 hu2=>?_;go_wp2;go_roundg (gk-1);exact⟨k+1,by omega,by go_num,Qh (NX.out HN.out),(eC.trans hu1).trans hu2⟩;omega
      ·rw[hcv]at gX;have oJ:=Qh gX;have HN:Hid (ZaW i0 l key cnt=true):=Qh (Zki hlt (by rw[X.out];show Za6 i0 key cnt x=true;rw[HC.out,V.out];exact hcv));clear hcv gX;go_wp2_with fail;refine Ck oJ.out fun w2 hu2=>?_;go_wp2;go_ret;exact⟨by rw[HN.out];rfl,((uT.trans eC).trans hu1).trans hu2⟩
  ·obtain rfl:k=l.length:=by omega
   have HN:Hid (ZaW i0 l key cnt=false):=Qh (ZlS fun j hj=>ah.out j hj hj);go_wp2;go_ret;exact⟨by rw[HN.out];rfl,uT.trans hu⟩
theorem Zvs(F:Iw)(w:I0)(i0:Int)(dn:Bool)(A:OA)(c:Nat)(l:Is)(key:Int)(p1 p2:Addr)(cnt:Ver->Bool)(h:HOps F w A l)(hl:Zt l.length)
  (hc:Hid (∀W v,Upd No w W->CN 107 #[.agg v.cells.toArray,.pointer (some p1),.pointer (some p2)] W (.bool (cnt v)))):
  CN 104 #[.agg #[Qi i0,.bool dn,.slice A l.length c],Qi key,.func (.func 107) #[] #[.pointer (some p1),.pointer (some p2)]] w (.bool (ZaW i0 l key cnt)):=by
 unfold Zt at hl;have uT:=(Il No w).alloc (.cells #[Qi i0,.bool dn,.slice A l.length c] 39);have bT:=Qh (Im w 39 [Qi i0,.bool dn,.slice A l.length c]);go_enter Tryz.func104,Tryz.ntmps104;go_wp2
 go_loopg [12] l.length (fun gk i wr=>∃(k:Nat),k+gk=l.length∧i= Qi k∧Hid (∀(j:Nat) (hj:j<l.length),j<k->Za6 i0 key cnt l[j]=false)∧Upd No (w.alloc (.cells #[Qi i0,.bool dn,.slice A l.length c] 39)) wr)
 case atStart=>exact⟨0,by omega,rfl,Qh (fun j _ hj=>by omega),Il No _⟩
 case round=>
  obtain⟨k,aI,rfl,ah,hu⟩:=hrel
  by_cases hlt:k<l.length
  ·obtain⟨ad,aH,q0,q1,q2,q3⟩:=(h.upd (uT.trans hu) Qo).at_ hlt;obtain⟨x,hx⟩:=Qe (l[k]);rw[hx]at q0 q1 q2 q3;subst aH;have X:=Qh hx;have b1:(0:Int)<=(k:Int):=Qn _;have b2:(k:Int)<(l.length:Int):=by omega
   have uA:=(Il No wr).alloc (.cells #[.bool x.read,Qi x.key,Qi x.tx,Qi x.nth] 66);have bo:=Qh (Im wr 66 [.bool x.read,Qi x.key,Qi x.tx,Qi x.nth]);have bT1:=(bT.out.upd hu id).upd uA id;have t0:=bT1.cell 0;simp only[Qz]at t0;have HU:=Qh (hu.trans uA)
   have NX:=Qh (fun(hn:Za6 i0 key cnt x=false)=>(fun(j:Nat) (hj:j<l.length) (hjk:j<k+1)=>(by
    by_cases e:j=k
    ·subst e;rw[X.out];exact hn
    ·exact ah.out j hj (by omega):Za6 i0 key cnt l[j]=false)))
   clear hx bT1 uA
   cases hr:x.read
   ·rw[hr]at q0 t0;have HN:=Qh (show Za6 i0 key cnt x=false by unfold Za6;rw[hr];rfl);have Hr:=Qh hr;have eC:=HU.out;rw[hr]at eC;clear hr;go_wp2;go_roundg (gk-1);exact⟨k+1,by omega,by go_num,Qh (NX.out HN.out),eC⟩;omega
   ·rw[hr]at q0 t0;have eC:=HU.out;rw[hr]at eC;have Hr:=Qh hr;clear hr
    cases hk:x.key==key
    ·have HN:=Qh (show Za6 i0 key cnt x=false by unfold Za6;rw[hk,Bool.and_false];rfl);go_wp2;go_roundg (gk-1);exact⟨k+1,by omega,by go_num,Qh (NX.out HN.out),eC⟩;omega
    ·cases ht:x.tx != i0
     ·have io:(x.tx==i0)=true:=by simpa using ht
      have HN:=Qh (show Za6 i0 key cnt x=false by unfold Za6;rw[io];simp);clear io;go_wp2;go_roundg (gk-1);exact⟨k+1,by omega,by go_num,Qh (NX.out HN.out),eC⟩;omega
     ·have io:(x.tx==i0)=false:=by simpa using ht
      have HC:=Qh (show Za6 i0 key cnt x=cnt (Zk x) by unfold Za6;rw[Hr.out,hk,io];rfl);obtain⟨v,hv⟩:=Qe (Zk x);have dv:=oof (wr.alloc (.cells #[.bool x.read,Qi x.key,Qi x.tx,Qi x.nth] 66)) x;rw[hv]at dv
      have h2:Calls Tryz.prog 58 #[.agg #[.bool true,Qi x.key,Qi x.tx,Qi x.nth]] (wr.alloc (.cells #[.bool true,Qi x.key,Qi x.tx,Qi x.nth] 66)) fun e w'=>e= .returned (.agg v.cells.toArray)∧Upd No (wr.alloc (.cells #[.bool true,Qi x.key,Qi x.tx,Qi x.nth] 66)) w':=by
       have:=dv;unfold HOp.cells at this
       rwa [Hr.out]at this
      have qY:=Qh h2;have V:=Qh hv;clear dv h2 hv io;go_wp2_with fail;refine Ck qY.out fun w1 hu1=>?_;have gX:=hc.out w1 v ((uT.trans eC).trans hu1)
      cases hcv:cnt v
      ·rw[hcv]at gX;have oJ:=Qh gX;have HN:=Qh (show Za6 i0 key cnt x=false by rw[HC.out,V.out];exact hcv);clear hcv gX;go_wp2_with fail;refine Ck oJ.out fun w2 hu2=>?_;go_wp2;go_roundg (gk-1);exact⟨k+1,by omega,by go_num,Qh (NX.out HN.out),(eC.trans hu1).trans hu2⟩;omega
      ·rw[hcv]at gX;have oJ:=Qh gX;have HN:Hid (ZaW i0 l key cnt=true):=Qh (Zki hlt (by rw[X.out];show Za6 i0 key cnt x=true;rw[HC.out,V.out];exact hcv));clear hcv gX;go_wp2_with fail;refine Ck oJ.out fun w2 hu2=>?_;go_wp2;go_ret;exact⟨by rw[HN.out];rfl,((uT.trans eC).trans hu1).trans hu2⟩
  ·obtain rfl:k=l.length:=by omega
   have HN:Hid (ZaW i0 l key cnt=false):=Qh (ZlS fun j hj=>ah.out j hj hj);go_wp2;go_ret;exact⟨by rw[HN.out];rfl,uT.trans hu⟩
/- Looking at a history:edges. -/
def ZpG(w:I0)(g:Nat)(txs:List HTx)(ords:List HOrd)(A:OA)(c:Nat)(B:OA)(d:Nat):Prop:=Blk w g 92 [.slice A txs.length c,.slice B ords.length d]
theorem ZmY{F:Iw}{w:I0}{txs:List HTx}{ords:List HOrd}{A:OA}{c:Nat}{B:OA}{d:Nat}{tx key nth:Int}{b:Bool}(H:Hist.lies F w ⟨txs,ords,A,c,B,d⟩)(hb:ZU txs ⟨tx,key,nth⟩=b):
  CN 106 #[.agg #[.slice A txs.length c,.slice B ords.length d],.agg #[Qi tx,Qi key,Qi nth]] w (.bool b):=by subst hb;exact ZxH F w txs ords A c B d ⟨tx,key,nth⟩ H
theorem Zwv{F:Iw}{w:I0}{txs:List HTx}{ords:List HOrd}{A:OA}{c:Nat}{B:OA}{d:Nat}{key x y:Int}{b:Bool}(H:Hist.lies F w ⟨txs,ords,A,c,B,d⟩)(hb:Zav ords key x y=b):
  CN 103 #[.agg #[.slice A txs.length c,.slice B ords.length d],Qi key,Qi x,Qi y] w (.bool b):=by subst hb;exact Zug F w txs ords A c B d key x y H
section
variable (F:Iw) (w:I0) (txs:List HTx) (ords:List HOrd) (A:OA) (c:Nat) (B:OA) (d:Nat) (g ge:Nat) (e:Edge) (v:Ver)
theorem ce1(H:Hist.lies F w ⟨txs,ords,A,c,B,d⟩)(hg:ZpG w g txs ords A c B d)(he:Blk w ge 58 e.cells):
  Calls Tryz.prog 105 #[.agg v.cells.toArray,.pointer (some ⟨ge,0,none⟩),.pointer (some ⟨g,0,none⟩)] w fun r w'=>r= .returned (.bool (v.tx==e.f&&ZU txs v))∧Upd No w w':=by
 obtain⟨tx,key,nth⟩:=v;obtain⟨ef,et,ek,ey⟩:=e;unfold Edge.cells at he;unfold ZpG at hg;unfold Ver.cells;have uA:=(Il No w).alloc (.cells #[Qi tx,Qi key,Qi nth] 49);have g0:=(hg.upd uA id).cell 0;have g1:=(hg.upd uA id).cell 1;have e0:=(he.upd uA id).cell 0;simp only[Qz,Qs]at g0 g1 e0;obtain⟨b,hb⟩:=Qe (ZU txs ⟨tx,key,nth⟩);have Hb:=Qh hb;rw[hb];have H1:=H.upd uA Qo;clear hb
 cases ht:tx==ef
 ·go_enter Tryz.func105,Tryz.ntmps105;go_wp2;go_ret;exact⟨rfl,uA⟩
 ·go_enter Tryz.func105,Tryz.ntmps105;go_wp2_with fail;refine Ck (ZmY H1 Hb.out) fun w1 hu1=>?_;go_wp2;go_ret;exact⟨rfl,uA.trans hu1⟩
theorem ce2(H:Hist.lies F w ⟨txs,ords,A,c,B,d⟩)(hg:ZpG w g txs ords A c B d)(he:Blk w ge 58 e.cells):
  Calls Tryz.prog 107 #[.agg v.cells.toArray,.pointer (some ⟨g,0,none⟩),.pointer (some ⟨ge,0,none⟩)] w fun r w'=>r= .returned (.bool (ZU txs v&&Zav ords e.key v.tx e.t))∧Upd No w w':=by
 obtain⟨tx,key,nth⟩:=v;obtain⟨ef,et,ek,ey⟩:=e;unfold Edge.cells at he;unfold ZpG at hg;unfold Ver.cells;have uA:=(Il No w).alloc (.cells #[Qi tx,Qi key,Qi nth] 49);have bv:=Qh (Im w 49 [Qi tx,Qi key,Qi nth]);have wT:=hg.upd uA id;have Cy:=he.upd uA id;obtain⟨g0,g1⟩:=wT.c2;obtain⟨b,hb⟩:=Qe (ZU txs ⟨tx,key,nth⟩);obtain⟨n,hn⟩:=Qe (Zav ords ey tx et);have Hb:=Qh hb;have Hn:=Qh hn;rw[hb]
 show Calls Tryz.prog 107 _ w fun r w'=>r= .returned (.bool (b&&Zav ords ey tx et))∧Upd No w w'
 rw[hn];have H1:=H.upd uA Qo;have eB:=Qh (And.intro wT Cy);have UA:=Qh uA;clear hb hn wT Cy uA
 cases b
 ·go_enter Tryz.func107,Tryz.ntmps107;go_wp2_with fail;refine Ck (ZmY H1 Hb.out) fun w1 hu1=>?_;go_wp2;go_ret;exact⟨rfl,UA.out.trans hu1⟩
 ·go_enter Tryz.func107,Tryz.ntmps107;go_wp2_with fail;refine Ck (ZmY H1 Hb.out) fun w1 hu1=>?_;have q0:=(eB.out.1.upd hu1 id).cell 0;have q1:=(eB.out.1.upd hu1 id).cell 1;have e1:=(eB.out.2.upd hu1 id).cell 1;have e3:=(eB.out.2.upd hu1 id).cell 3;have v0:=(bv.out.upd hu1 id).cell 0;simp only[Qz,Qs]at q0 q1 e1 e3 v0;have H2:=H.upd (UA.out.trans hu1) Qo;have HU:=Qh (UA.out.trans hu1);clear g0 g1 hu1 H1;go_wp2_with fail;refine Ck (Zwv H2 Hn.out) fun w2 hu2=>?_;go_wp2;go_ret;exact⟨rfl,HU.out.trans hu2⟩
end
section
variable {h:Hist} {e:Edge}
theorem Ztn(h1:Zh h.txs e.f=none):ZS h e=false:=by unfold ZS;rw[h1]
theorem Ztm{a:HTx}(h1:Zh h.txs e.f=some a)(h2:Zh h.txs e.t=none):ZS h e=false:=by unfold ZS;rw[h1,h2]
theorem Zrm{a b:HTx}(h1:Zh h.txs e.f=some a)(h2:Zh h.txs e.t=some b):ZS h e=(if e.f=e.t then false
  else if e.k=1 then Zav h.ords e.key e.f e.t
  else if e.k=2 then ZaW b.id b.ops e.key fun v=>v.tx==e.f&&ZU h.txs v
  else if e.k=3 then ZaW a.id a.ops e.key fun v=>ZU h.txs v&&Zav h.ords e.key v.tx e.t
  else false):=by unfold ZS;rw[h1,h2]
end
theorem ZxI(F:Iw)(w:I0)(txs:List HTx)(ords:List HOrd)(A:OA)(c:Nat)(B:OA)(d:Nat)(e:Edge)(H:Hist.lies F w ⟨txs,ords,A,c,B,d⟩):
  Calls Tryz.prog 57 #[.agg #[.slice A txs.length c,.slice B ords.length d],.agg e.cells.toArray] w fun r w'=>r= .returned (.bool (ZS ⟨txs,ords,A,c,B,d⟩ e))∧Upd No w w':=by
 obtain⟨ef,et,ek,ey⟩:=e;unfold Edge.cells;have u0:=((Il No w).alloc (.cells #[.slice A txs.length c,.slice B ords.length d] 92)).alloc (.cells #[Qi ef,Qi et,Qi ek,Qi ey] 58);have bR:=Qh ((Im w 92 [.slice A txs.length c,.slice B ords.length d]).alloc (.cells #[Qi ef,Qi et,Qi ek,Qi ey] 58));have b1:=Im (w.alloc (.cells #[.slice A txs.length c,.slice B ords.length d] 92)) 58 [Qi ef,Qi et,Qi ek,Qi ey];simp only[Ij]at b1;have bE:=Qh b1;have ha:=Qh (Zpy F _ txs ords A c B d ef (H.upd u0 Qo));clear b1;go_enter Tryz.func57,Tryz.ntmps57;go_wp2_with fail;refine(ha.out).mono ?_;rintro e w1 ⟨x1,q1,dn1,A1,l1,c1,rfl,dP,iE,cD,cd,hu1⟩;have uT1:=hu1.alloc (.cells #[Qi x1,.bool dn1,.slice A1 l1.length c1] 39);have bR1:=Qh (bR.out.upd uT1 id);have bE1:=Qh (bE.out.upd uT1 id);have bT1:=Qh (Im w1 39 [Qi x1,.bool dn1,.slice A1 l1.length c1]);have nu:=Qh (HOps.upd cD ((Il No w1).alloc (.cells #[Qi x1,.bool dn1,.slice A1 l1.length c1] 39)) Qo);have hb:=Qh (Zpy F _ txs ords A c B d et (H.upd (u0.trans uT1) Qo));have U1:=Qh (u0.trans uT1);have M1:=Qh cd;have DN:=Qh iE;obtain⟨y0,y1,y2,y3⟩:=bE1.out.c4;have r0:=bR1.out.cell 0;have r1:=bR1.out.cell 1
 simp only[Qz,Qs]at r0 r1;clear u0 hu1 uT1 cD cd iE;go_wp2_with fail;refine(hb.out).mono ?_;rintro e w2 ⟨x2,q2,dn2,A2,l2,c2,rfl,gR,lX,kE,bh,hu2⟩;have uT2:=hu2.alloc (.cells #[Qi x2,.bool dn2,.slice A2 l2.length c2] 39);have bR2:=Qh (bR1.out.upd uT2 id);have bE2:=Qh (bE1.out.upd uT2 id);have bT2:=Qh (Im w2 39 [Qi x2,.bool dn2,.slice A2 l2.length c2]);have bT12:=Qh (bT1.out.upd uT2 id);have vQ:=Qh (HOps.upd nu.out uT2 Qo);have wY:=Qh (HOps.upd kE ((Il No w2).alloc (.cells #[Qi x2,.bool dn2,.slice A2 l2.length c2] 39)) Qo);have U2:=Qh (U1.out.trans uT2);have M2:=Qh bh;have DF:=Qh lX;clear y0 y1 y2 y3 r0 r1;obtain⟨y0,y1,y2,y3⟩:=bE2.out.c4;obtain⟨r0,r1⟩:=bR2.out.c2;obtain⟨s0,s1,s2⟩:=bT12.out.c3;clear hu2 uT2 kE bh lX
 cases hd1:Zh txs ef with
 |none=>
  have hv:Hid (ZS ⟨txs,ords,A,c,B,d⟩ ⟨ef,et,ek,ey⟩=false):=Qh (Ztn hd1);have cd:=M1.out;rw[hd1]at cd;subst cd;clear hd1;go_wp2;go_ret;exact⟨by rw[hv.out];rfl,U2.out⟩
 |some a=>
  have cd:=M1.out;rw[hd1]at cd;obtain⟨rfl,rfl,rfl⟩:=cd;have o6:=Qh hd1;clear hd1 M1
  cases hd2:Zh txs et with
  |none=>
   have hv:Hid (ZS ⟨txs,ords,A,c,B,d⟩ ⟨ef,et,ek,ey⟩=false):=Qh (Ztm o6.out hd2);have bh:=M2.out;rw[hd2]at bh;subst bh;clear hd2;go_wp2;go_ret;exact⟨by rw[hv.out];rfl,U2.out⟩
  |some b=>
   have bh:=M2.out;rw[hd2]at bh;obtain⟨rfl,rfl,rfl⟩:=bh;have hv0:=Zrm (h:=⟨txs,ords,A,c,B,d⟩) (e:=⟨ef,et,ek,ey⟩) o6.out hd2;clear hd2 M2
   by_cases hft:ef=et
   ·rw[if_pos hft]at hv0;have hv:=Qh hv0;have sf:(ef==et)=true:=by simpa using hft
    clear hft hv0;go_wp2;go_ret;exact⟨by rw[hv.out];rfl,U2.out⟩
   ·rw[if_neg hft]at hv0;have sf:(ef==et)=false:=by simpa using hft
    clear hft
    by_cases hk1:ek=1
    ·rw[if_pos hk1]at hv0;have hv:=Qh hv0;have hn:Hid (Calls Tryz.prog 103 #[.agg #[.slice A txs.length c,.slice B ords.length d],Qi ey,Qi ef,Qi et] _ _):=Qh (Zug F _ txs ords A c B d ey ef et (H.upd U2.out Qo));have kD:(ek==1)=true:=by simpa using hk1
     clear hk1 hv0;go_wp2_with fail;refine Ck hn.out fun w3 hu3=>?_;go_wp2;go_ret;exact⟨by rw[hv.out];rfl,U2.out.trans hu3⟩
    ·rw[if_neg hk1]at hv0;have kD:(ek==1)=false:=by simpa using hk1
     clear hk1
     by_cases hk2:ek=2
     ·rw[if_pos hk2]at hv0;have hv:=Qh hv0;have yO:(ek==2)=true:=by simpa using hk2
      have hn:=Qh (Zvt _ _ b.id dn2 A2 c2 b.ops ey ⟨w.heap.size+1,0,none⟩ ⟨w.heap.size,0,none⟩ (fun v=>v.tx==ef&&ZU txs v) wY.out DF.out
       (Qh fun W v hW=>ce1 F W txs ords A c B d w.heap.size (w.heap.size+1) ⟨ef,et,ek,ey⟩ v (H.upd (U2.out.trans hW) Qo) (bR2.out.upd hW id) (bE2.out.upd hW id)))
      clear hk2 hv0;go_wp2_with fail;refine Ck hn.out fun w3 hu3=>?_;go_wp2;go_ret;exact⟨by rw[hv.out];rfl,U2.out.trans hu3⟩
     ·rw[if_neg hk2]at hv0;have yO:(ek==2)=false:=by simpa using hk2
      clear hk2
      by_cases hk3:ek=3
      ·rw[if_pos hk3]at hv0;have hv:=Qh hv0;have uC:(ek==3)=true:=by simpa using hk3
       have hn:=Qh (Zvs _ _ a.id dn1 A1 c1 a.ops ey ⟨w.heap.size,0,none⟩ ⟨w.heap.size+1,0,none⟩ (fun v=>ZU txs v&&Zav ords ey v.tx et) vQ.out DN.out
        (Qh fun W v hW=>ce2 F W txs ords A c B d w.heap.size (w.heap.size+1) ⟨ef,et,ek,ey⟩ v (H.upd (U2.out.trans hW) Qo) (bR2.out.upd hW id) (bE2.out.upd hW id)))
       clear hk3 hv0;go_wp2_with fail;refine Ck hn.out fun w3 hu3=>?_;go_wp2;go_ret;exact⟨by rw[hv.out];rfl,U2.out.trans hu3⟩
      ·rw[if_neg hk3]at hv0;have hv:=Qh hv0;have uC:(ek==3)=false:=by simpa using hk3
       clear hk3 hv0;go_wp2;go_ret;exact⟨by rw[hv.out];rfl,U2.out⟩
/- Looking at a history:reads that may not be. -/
def ZcM(txs:List HTx)(i:Int):Bool:=match Ze txs i with|some u=>u.done|none=>false
def Zcy(txs:List HTx)(i:Int):Is:=match Ze txs i with|some u=>u.ops|none=>[]
theorem ZvY(F:Iw)(w:I0)(txs:List HTx)(ords:List HOrd)(A:OA)(c:Nat)(B:OA)(d:Nat)(i:Int)(H:Hist.lies F w ⟨txs,ords,A,c,B,d⟩):
  Calls Tryz.prog 14 #[.agg #[.slice A txs.length c,.slice B ords.length d],Qi i] w fun e w'=>
  ∃(x:Int) (A':OA) (c':Nat) (b:Bool),e= .returned (.tuple #[.agg #[Qi x,.bool (ZcM txs i),.slice A' (Zcy txs i).length c'],.bool b])∧Zt (Zcy txs i).length∧HOps (fun i=>w.heap.size<=i) w' A' (Zcy txs i)∧Upd No w w':=by
 unfold ZcM Zcy
 cases hf:Ze txs i with
 |none=>
  refine(Zep F w txs ords A c B d i H hf).mono ?_;rintro e w' ⟨rfl,hu⟩;exact⟨0,none,0,false,rfl,by unfold Zt;simp,fun h=>absurd rfl h,hu⟩
 |some t=>
  refine(ZcU F w txs ords A c B d i H hf).mono ?_;rintro e w' ⟨A',c',rfl,h1,h2,h3⟩;exact⟨_,A',c',true,rfl,(H.tx t (Zdx hf)).2.2.1,h2,h3⟩
section
variable {txs:List HTx} {p:Int} {b:HBad}
theorem ZtH(h:Zh txs b.tx=none):ZaS txs p b=false:=by unfold ZaS;rw[h]
theorem Zvy{t:HTx}(h:Zh txs b.tx=some t)(hp:b.place<0):ZaS txs p b=false:=by unfold ZaS;rw[h];simp[hp]
theorem ZtG{t:HTx}(h:Zh txs b.tx=some t)(hp:(t.ops.length:Int)<=b.place):ZaS txs p b=false:=by
 unfold ZaS;rw[h];have h1:¬b.place<0:=by omega
 have h2:t.ops[b.place.toNat]? =none:=List.getElem?_eq_none (by omega);simp only[if_neg h1,h2]
theorem ZwF{t:HTx}{o:HOp}{k:Nat}(h:Zh txs b.tx=some t)(hp:b.place=k)(ho:t.ops[k]? =some o):ZaS txs p b=(if !o.read|| !(Zk o==b.of)||o.tx==0||o.tx==t.id then false
  else if p=2 then !(ZcM txs o.tx) else if p=3 then decide (o.nth<(Z9 (Zcy txs o.tx) o.key:Int)) else false):=by
 unfold ZaS;rw[h];have h1:¬b.place<0:=by omega
 have h2:b.place.toNat=k:=by omega
 simp only[if_neg h1,h2,ho];unfold ZcM Zcy
 cases Ze txs o.tx<;>rfl
end
theorem Zl6(w:I0)(k t n:Int):CN 58 #[.agg #[.bool true,Qi k,Qi t,Qi n]] w (.agg #[Qi t,Qi k,Qi n]):=oof w ⟨true,k,t,n⟩
theorem Zym(F:Iw)(w:I0)(txs:List HTx)(ords:List HOrd)(A:OA)(c:Nat)(B:OA)(d:Nat)(p:Int)(b:HBad)(H:Hist.lies F w ⟨txs,ords,A,c,B,d⟩):
  Calls Tryz.prog 54 #[.agg #[.slice A txs.length c,.slice B ords.length d],Qi p,.agg b.cells.toArray] w fun r w'=>r= .returned (.bool (ZaS txs p b))∧Upd No w w':=by
 obtain⟨bx,bp,⟨vt,vk,vn⟩⟩:=b;unfold HBad.cells;have u0:=((Il No w).alloc (.cells #[.slice A txs.length c,.slice B ords.length d] 92)).alloc (.cells #[Qi bx,Qi bp,Qi vt,Qi vk,Qi vn] 51);have bR:=Qh ((Im w 92 [.slice A txs.length c,.slice B ords.length d]).alloc (.cells #[Qi bx,Qi bp,Qi vt,Qi vk,Qi vn] 51));have b1:=Im (w.alloc (.cells #[.slice A txs.length c,.slice B ords.length d] 92)) 51 [Qi bx,Qi bp,Qi vt,Qi vk,Qi vn];simp only[Ij]at b1;have bM:=Qh b1;have ha:=Qh (Zpy F _ txs ords A c B d bx (H.upd u0 Qo));have qN:=Zuv;unfold ZdA at qN;have HQ:=Qh qN;clear b1 qN;go_enter Tryz.func54,Tryz.ntmps54;go_wp2_with fail;refine(ha.out).mono ?_;rintro e w1 ⟨x1,q1,dn1,A1,l1,c1,rfl,dP,iE,cD,cd,hu1⟩;have uT1:=hu1.alloc (.cells #[Qi x1,.bool dn1,.slice A1 l1.length c1] 39);have bR1:=Qh (bR.out.upd uT1 id);have bM1:=Qh (bM.out.upd uT1 id);have bT1:=Qh (Im w1 39 [Qi x1,.bool dn1,.slice A1 l1.length c1]);have nu:=Qh (HOps.upd cD ((Il No w1).alloc (.cells #[Qi x1,.bool dn1,.slice A1 l1.length c1] 39)) Qo);have U1:=Qh (u0.trans uT1);have M1:=Qh cd;unfold Zt at iE;have m1:=bM1.out.cell 1;have m2:=bM1.out.cell 2;have m3:=bM1.out.cell 3;have m4:=bM1.out.cell 4;have r0:=bR1.out.cell 0;have r1:=bR1.out.cell 1;have t0:=bT1.out.cell 0;have t2:=bT1.out.cell 2
 simp only[Qz,Qs]at m1 m2 m3 m4 r0 r1 t0 t2;clear u0 hu1 uT1 cD cd
 cases hd1:Zh txs bx with
 |none=>
  have hv:Hid (ZaS txs p ⟨bx,bp,⟨vt,vk,vn⟩⟩=false):=Qh (ZtH hd1);have cd:=M1.out;rw[hd1]at cd;subst cd;clear hd1;go_wp2;go_ret;exact⟨by rw[hv.out];rfl,U1.out⟩
 |some t=>
  have cd:=M1.out;rw[hd1]at cd;obtain⟨rfl,rfl,rfl⟩:=cd;have o6:=Qh hd1;clear hd1 M1
  by_cases hp0:bp<0
  ·have hv:Hid (ZaS txs p ⟨bx,bp,⟨vt,vk,vn⟩⟩=false):=Qh (Zvy o6.out hp0);go_wp2;go_ret;exact⟨by rw[hv.out];rfl,U1.out⟩
  ·by_cases hpl:(t.ops.length:Int)<=bp
   ·have hv:Hid (ZaS txs p ⟨bx,bp,⟨vt,vk,vn⟩⟩=false):=Qh (ZtG o6.out hpl);go_wp2;go_ret;exact⟨by rw[hv.out];rfl,U1.out⟩
   ·obtain⟨k,rfl⟩:∃k:Nat,bp=k:=⟨bp.toNat,by omega⟩;have hlt:k<t.ops.length:=by omega
    have aS:(k:Int)<(t.ops.length:Int):=by omega
    have aX:(0:Int)<=(k:Int):=Qn _;have dp:decide ((t.ops.length:Int)<=(k:Int))=false:=Qf hpl;have kH:decide (t.ops.length<=k)=false:=Qf (by omega);obtain⟨ad,aH,y0,y1,y2,y3⟩:=nu.out.at_ hlt;obtain⟨o,ho⟩:=Qe (t.ops[k]);rw[ho]at y0 y1 y2 y3;subst aH;have hv0:=ZwF (txs:=txs) (p:=p) (b:=⟨bx,(k:Int),⟨vt,vk,vn⟩⟩) (k:=k) (o:=o) o6.out rfl (by rw[Qg hlt,ho])
    cases hr:o.read
    ·have hv:=Qh (show ZaS txs p ⟨bx,(k:Int),⟨vt,vk,vn⟩⟩=false by rw[hv0,hr];rfl);rw[hr]at y0;clear hv0 hr ho;have bO:=Qh (Im (w1.alloc (.cells #[Qi t.id,.bool dn1,.slice (some ad) t.ops.length c1] 39)) 66 [.bool false,Qi o.key,Qi o.tx,Qi o.nth]);have uO:=(Il No (w1.alloc (.cells #[Qi t.id,.bool dn1,.slice (some ad) t.ops.length c1] 39))).alloc (.cells #[.bool false,Qi o.key,Qi o.tx,Qi o.nth] 66);have bR3:=Qh (bR1.out.upd uO id);have bM3:=bM1.out.upd uO id;have bT3:=bT1.out.upd uO id;have U3:=Qh (U1.out.trans uO);have o0:=bO.out.cell 0;have o1:=bO.out.cell 1;have o2:=bO.out.cell 2;have o3:=bO.out.cell 3;have n2:=bM3.cell 2;have n3:=bM3.cell 3;have n4:=bM3.cell 4;have s0:=bT3.cell 0;simp only[Qz,Qs,Ij]at o0 o1 o2 o3 n2 n3 n4 s0;clear uO bM3 bT3;go_wp2;clear t0 m2 m3 m4;have t0:=s0;have m2:=n2;have m3:=n3;have m4:=n4;refine wpS (fun w'=>Upd No ((w1.alloc (.cells #[Qi t.id,.bool dn1,.slice (some ad) t.ops.length c1] 39)).alloc (.cells #[.bool false,Qi o.key,Qi o.tx,Qi o.nth] 66)) w'∧w'.cell? ⟨w1.heap.size+1,0,none⟩=some (.bool false)∧w'.cell? ⟨w1.heap.size+1,1,none⟩=some (Qi o.key)∧w'.cell? ⟨w1.heap.size+1,2,none⟩=some (Qi o.tx)∧w'.cell? ⟨w1.heap.size+1,3,none⟩=some (Qi o.nth)∧w'.cell? ⟨w1.heap.size,0,none⟩=some (Qi t.id)∧w'.cell? ⟨w.heap.size+1,2,none⟩=some (Qi vt)∧w'.cell? ⟨w.heap.size+1,3,none⟩=some (Qi vk)∧w'.cell? ⟨w.heap.size+1,4,none⟩=some (Qi vn)) ?_ fun jH=>?_
     ·(first|exact⟨(Il No _).drew,o0,o1,o2,o3,t0,m2,m3,m4⟩|exact⟨jH.1.trans hu3,hu3.keepNo jH.2.1,hu3.keepNo jH.2.2.1,hu3.keepNo jH.2.2.2.1,hu3.keepNo jH.2.2.2.2.1,hu3.keepNo jH.2.2.2.2.2.1,hu3.keepNo jH.2.2.2.2.2.2.1,hu3.keepNo jH.2.2.2.2.2.2.2.1,hu3.keepNo jH.2.2.2.2.2.2.2.2⟩)
     (iterate 5 refine wpF ?_);refine wpN 6 rfl ?_;refine wpN 7 rfl ?_;refine wpZ 5 rfl fun K hK=>?_;go_simp;refine hK.out _ _ ?_ fun jH=>?_
     ·exact jH
     try simp only[Qa]
     (iterate 14 refine wpF ?_);refine wpD (Ii ?_);have HU:=Qh jH.1;clear jH;go_wp2;go_ret;exact⟨by rw[hv.out];rfl,U3.out.trans HU.out⟩
    ·rw[hr]at y0;have Ct:Zk o=⟨o.tx,o.key,o.nth⟩:=by unfold Zk;rw[hr];rfl
     rw[hr,Ct]at hv0;have qn:=fun w=>HQ.out w ⟨o.tx,o.key,o.nth⟩ ⟨vt,vk,vn⟩
     clear hr ho Ct
     cases hne:((⟨o.tx,o.key,o.nth⟩:Ver)==⟨vt,vk,vn⟩)
     ·have jU:((⟨o.tx,o.key,o.nth⟩:Ver) != ⟨vt,vk,vn⟩)=true:=by unfold bne;rw[hne];rfl
      have hv:=Qh (show ZaS txs p ⟨bx,(k:Int),⟨vt,vk,vn⟩⟩=false by rw[hv0];simp[hne]);have qn2:=fun w=>(qn w).trans (by rw[jU])
      clear hv0 jU hne qn;have bO:=Qh (Im (w1.alloc (.cells #[Qi t.id,.bool dn1,.slice (some ad) t.ops.length c1] 39)) 66 [.bool true,Qi o.key,Qi o.tx,Qi o.nth]);have uO:=(Il No (w1.alloc (.cells #[Qi t.id,.bool dn1,.slice (some ad) t.ops.length c1] 39))).alloc (.cells #[.bool true,Qi o.key,Qi o.tx,Qi o.nth] 66);have bR3:=Qh (bR1.out.upd uO id);have bM3:=bM1.out.upd uO id;have bT3:=bT1.out.upd uO id;have U3:=Qh (U1.out.trans uO);have o0:=bO.out.cell 0;have o1:=bO.out.cell 1;have o2:=bO.out.cell 2;have o3:=bO.out.cell 3;have n2:=bM3.cell 2;have n3:=bM3.cell 3;have n4:=bM3.cell 4;have s0:=bT3.cell 0;simp only[Qz,Qs,Ij]at o0 o1 o2 o3 n2 n3 n4 s0;clear uO bM3 bT3;go_wp2;clear t0 m2 m3 m4;have t0:=s0;have m2:=n2;have m3:=n3;have m4:=n4;refine wpS (fun w'=>Upd No ((w1.alloc (.cells #[Qi t.id,.bool dn1,.slice (some ad) t.ops.length c1] 39)).alloc (.cells #[.bool true,Qi o.key,Qi o.tx,Qi o.nth] 66)) w'∧w'.cell? ⟨w1.heap.size+1,0,none⟩=some (.bool true)∧w'.cell? ⟨w1.heap.size+1,1,none⟩=some (Qi o.key)∧w'.cell? ⟨w1.heap.size+1,2,none⟩=some (Qi o.tx)∧w'.cell? ⟨w1.heap.size+1,3,none⟩=some (Qi o.nth)∧w'.cell? ⟨w1.heap.size,0,none⟩=some (Qi t.id)∧w'.cell? ⟨w.heap.size+1,2,none⟩=some (Qi vt)∧w'.cell? ⟨w.heap.size+1,3,none⟩=some (Qi vk)∧w'.cell? ⟨w.heap.size+1,4,none⟩=some (Qi vn)) ?_ fun jH=>?_
      ·(first|exact⟨(Il No _).drew,o0,o1,o2,o3,t0,m2,m3,m4⟩|exact⟨jH.1.trans hu3,hu3.keepNo jH.2.1,hu3.keepNo jH.2.2.1,hu3.keepNo jH.2.2.2.1,hu3.keepNo jH.2.2.2.2.1,hu3.keepNo jH.2.2.2.2.2.1,hu3.keepNo jH.2.2.2.2.2.2.1,hu3.keepNo jH.2.2.2.2.2.2.2.1,hu3.keepNo jH.2.2.2.2.2.2.2.2⟩)
      (iterate 5 refine wpF ?_);refine wpK 6 rfl ?_;refine wpK 7 rfl ?_;refine wpZ 5 rfl fun K hK=>?_;go_simp
      (first
  |(go_at_call 58;refine Ck (Zl6 _ o.key o.tx o.nth) fun w3 hu3=>?_))
      try (go_wp2_with fail)
      refine hK.out _ _ ?_ fun jH=>?_
      ·(first|exact⟨(Il No _).drew,o0,o1,o2,o3,t0,m2,m3,m4⟩|exact⟨jH.1.trans hu3,hu3.keepNo jH.2.1,hu3.keepNo jH.2.2.1,hu3.keepNo jH.2.2.2.1,hu3.keepNo jH.2.2.2.2.1,hu3.keepNo jH.2.2.2.2.2.1,hu3.keepNo jH.2.2.2.2.2.2.1,hu3.keepNo jH.2.2.2.2.2.2.2.1,hu3.keepNo jH.2.2.2.2.2.2.2.2⟩)
      try simp only[Qa]
      (iterate 14 refine wpF ?_);refine wpD (Ii ?_);have HU:=Qh jH.1;clear jH;go_wp2;go_ret;exact⟨by rw[hv.out];rfl,U3.out.trans HU.out⟩
     ·have jU:((⟨o.tx,o.key,o.nth⟩:Ver) != ⟨vt,vk,vn⟩)=false:=by unfold bne;rw[hne];rfl
      have qn2:=fun w=>(qn w).trans (by rw[jU])
      rw[show((⟨o.tx,o.key,o.nth⟩:Ver)==(HBad.mk bx (k:Int) ⟨vt,vk,vn⟩).of)=true from hne]at hv0;clear jU hne qn
      cases h0:o.tx==0
      ·cases hti:o.tx==t.id
       ·rw[h0,hti]at hv0;simp only[Bool.not_true,Bool.or_self,Bool.or_false,if_false,Bool.false_eq_true]at hv0;have HV:=Qh hv0;clear hv0;have bO:=Qh (Im (w1.alloc (.cells #[Qi t.id,.bool dn1,.slice (some ad) t.ops.length c1] 39)) 66 [.bool true,Qi o.key,Qi o.tx,Qi o.nth]);have uO:=(Il No (w1.alloc (.cells #[Qi t.id,.bool dn1,.slice (some ad) t.ops.length c1] 39))).alloc (.cells #[.bool true,Qi o.key,Qi o.tx,Qi o.nth] 66);have bR3:=Qh (bR1.out.upd uO id);have bM3:=bM1.out.upd uO id;have bT3:=bT1.out.upd uO id;have U3:=Qh (U1.out.trans uO);have o0:=bO.out.cell 0;have o1:=bO.out.cell 1;have o2:=bO.out.cell 2;have o3:=bO.out.cell 3;have n2:=bM3.cell 2;have n3:=bM3.cell 3;have n4:=bM3.cell 4;have s0:=bT3.cell 0;simp only[Qz,Qs,Ij]at o0 o1 o2 o3 n2 n3 n4 s0;clear uO bM3 bT3;go_wp2;clear t0 m2 m3 m4;have t0:=s0;have m2:=n2;have m3:=n3;have m4:=n4;refine wpS (fun w'=>Upd No ((w1.alloc (.cells #[Qi t.id,.bool dn1,.slice (some ad) t.ops.length c1] 39)).alloc (.cells #[.bool true,Qi o.key,Qi o.tx,Qi o.nth] 66)) w'∧w'.cell? ⟨w1.heap.size+1,0,none⟩=some (.bool true)∧w'.cell? ⟨w1.heap.size+1,1,none⟩=some (Qi o.key)∧w'.cell? ⟨w1.heap.size+1,2,none⟩=some (Qi o.tx)∧w'.cell? ⟨w1.heap.size+1,3,none⟩=some (Qi o.nth)∧w'.cell? ⟨w1.heap.size,0,none⟩=some (Qi t.id)∧w'.cell? ⟨w.heap.size+1,2,none⟩=some (Qi vt)∧w'.cell? ⟨w.heap.size+1,3,none⟩=some (Qi vk)∧w'.cell? ⟨w.heap.size+1,4,none⟩=some (Qi vn)) ?_ fun jH=>?_
        ·(first|exact⟨(Il No _).drew,o0,o1,o2,o3,t0,m2,m3,m4⟩|exact⟨jH.1.trans hu3,hu3.keepNo jH.2.1,hu3.keepNo jH.2.2.1,hu3.keepNo jH.2.2.2.1,hu3.keepNo jH.2.2.2.2.1,hu3.keepNo jH.2.2.2.2.2.1,hu3.keepNo jH.2.2.2.2.2.2.1,hu3.keepNo jH.2.2.2.2.2.2.2.1,hu3.keepNo jH.2.2.2.2.2.2.2.2⟩)
        (iterate 5 refine wpF ?_);refine wpK 6 rfl ?_;refine wpK 7 rfl ?_;refine wpZ 5 rfl fun K hK=>?_;go_simp
        (first
  |(go_at_call 58;refine Ck (Zl6 _ o.key o.tx o.nth) fun w3 hu3=>?_))
        try (go_wp2_with fail)
        refine hK.out _ _ ?_ fun jH=>?_
        ·(first|exact⟨(Il No _).drew,o0,o1,o2,o3,t0,m2,m3,m4⟩|exact⟨jH.1.trans hu3,hu3.keepNo jH.2.1,hu3.keepNo jH.2.2.1,hu3.keepNo jH.2.2.2.1,hu3.keepNo jH.2.2.2.2.1,hu3.keepNo jH.2.2.2.2.2.1,hu3.keepNo jH.2.2.2.2.2.2.1,hu3.keepNo jH.2.2.2.2.2.2.2.1,hu3.keepNo jH.2.2.2.2.2.2.2.2⟩)
        try simp only[Qa]
        (iterate 14 refine wpF ?_);refine wpD (Ii ?_);have HU:=Qh jH.1;clear jH;have bO3:=Qh (bO.out.upd HU.out id);have bR4:=bR3.out.upd HU.out id;clear o0 o1 o2 o3 n2 n3 n4 s0 t0 m2 m3 m4 r0 r1 t2 m1 qn2;have o2:=bO3.out.cell 2;have r0:=bR4.cell 0;have r1:=bR4.cell 1;simp only[Qz,Qs,Ij]at o2 r0 r1;have HF:=Qh (ZvY F _ txs ords A c B d o.tx (H.upd (U3.out.trans HU.out) Qo));clear bR4;go_wp2_with fail;refine(HF.out).mono ?_;rintro e w4 ⟨x4,A4,c4,b4,rfl,jG,x9,hu4⟩;obtain⟨ud,fw⟩:=Qe (ZcM txs o.tx);obtain⟨ul,kR⟩:=Qe (Zcy txs o.tx);rw[kR]at jG x9;rw[fw,kR];have dS:=HV.out;rw[fw,kR]at dS;have bU:=Im w4 39 [Qi x4,.bool ud,.slice A4 ul.length c4];have uU:=hu4.alloc (.cells #[Qi x4,.bool ud,.slice A4 ul.length c4] 39);have D6:=Qh (HOps.upd x9 ((Il No w4).alloc (.cells #[Qi x4,.bool ud,.slice A4 ul.length c4] 39)).drew Qo);have bO4:=bO3.out.upd uU id;have U5:=Qh ((U3.out.trans HU.out).trans uU);have ot:=Qh jG;clear o2 r0 r1;have o1:=bO4.cell 1;have o3:=bO4.cell 3;have k0:=bU.cell 0;have k1:=bU.cell 1;have k2:=bU.cell 2;simp only[Qz,Qs,Ij]at o1 o3 k0 k1 k2
        clear fw kR x9 jG bU uU bO4 hu4
        by_cases hp2:p=2
        ·rw[if_pos hp2]at dS;have hv:=Qh dS;have z4:(p==2)=true:=by simpa using hp2
         clear hp2 dS;go_wp2;go_ret;exact⟨by rw[hv.out];rfl,U5.out⟩
        ·rw[if_neg hp2]at dS;have z4:(p==2)=false:=by simpa using hp2
         clear hp2
         by_cases hp3:p=3
         ·rw[if_pos hp3]at dS;have hv:=Qh dS;have rx:(p==3)=true:=by simpa using hp3
          clear hp3 dS;go_wp2;refine wpS (fun w'=>Upd No w w'∧w'.cell? ⟨w1.heap.size+1,1,none⟩=some (Qi o.key)∧w'.cell? ⟨w1.heap.size+1,3,none⟩=some (Qi o.nth)∧w'.cell? ⟨w4.heap.size,0,none⟩=some (Qi x4)∧w'.cell? ⟨w4.heap.size,1,none⟩=some (.bool ud)∧w'.cell? ⟨w4.heap.size,2,none⟩=some (.slice A4 ul.length c4)) ?_ fun jH=>?_
          ·(first|exact⟨U5.out.drew,o1,o3,k0,k1,k2⟩|exact⟨jH.1.trans hu5,hu5.keepNo jH.2.1,hu5.keepNo jH.2.2.1,hu5.keepNo jH.2.2.2.1,hu5.keepNo jH.2.2.2.2.1,hu5.keepNo jH.2.2.2.2.2⟩)
          (iterate 5 refine wpF ?_);refine wpZ 5 rfl fun K hK=>?_;go_simp
          (first
  |(go_at_call 102;refine Ck (Zez _ _ x4 ud A4 c4 ul o.key D6.out ot.out) fun w5 hu5=>?_))
          try (go_wp2_with fail)
          refine hK.out _ _ ?_ fun jH=>?_
          ·(first|exact⟨U5.out.drew,o1,o3,k0,k1,k2⟩|exact⟨jH.1.trans hu5,hu5.keepNo jH.2.1,hu5.keepNo jH.2.2.1,hu5.keepNo jH.2.2.2.1,hu5.keepNo jH.2.2.2.2.1,hu5.keepNo jH.2.2.2.2.2⟩)
          try simp only[Qa]
          (iterate 2 refine wpF ?_);refine wpD (Ii ?_);have cF:=Qh jH.1;clear jH;go_wp2;go_ret;exact⟨by rw[hv.out];rfl,cF.out⟩
         ·rw[if_neg hp3]at dS;have hv:=Qh dS;have rx:(p==3)=false:=by simpa using hp3
          clear hp3 dS;go_wp2;go_ret;exact⟨by rw[hv.out];rfl,U5.out⟩
       ·have hv:=Qh (show ZaS txs p ⟨bx,(k:Int),⟨vt,vk,vn⟩⟩=false by rw[hv0];simp[hti]);clear hv0;have bO:=Qh (Im (w1.alloc (.cells #[Qi t.id,.bool dn1,.slice (some ad) t.ops.length c1] 39)) 66 [.bool true,Qi o.key,Qi o.tx,Qi o.nth]);have uO:=(Il No (w1.alloc (.cells #[Qi t.id,.bool dn1,.slice (some ad) t.ops.length c1] 39))).alloc (.cells #[.bool true,Qi o.key,Qi o.tx,Qi o.nth] 66);have bR3:=Qh (bR1.out.upd uO id);have bM3:=bM1.out.upd uO id;have bT3:=bT1.out.upd uO id;have U3:=Qh (U1.out.trans uO);have o0:=bO.out.cell 0;have o1:=bO.out.cell 1;have o2:=bO.out.cell 2;have o3:=bO.out.cell 3;have n2:=bM3.cell 2;have n3:=bM3.cell 3;have n4:=bM3.cell 4;have s0:=bT3.cell 0;simp only[Qz,Qs,Ij]at o0 o1 o2 o3 n2 n3 n4 s0;clear uO bM3 bT3;go_wp2;clear t0 m2 m3 m4;have t0:=s0;have m2:=n2;have m3:=n3;have m4:=n4;refine wpS (fun w'=>Upd No ((w1.alloc (.cells #[Qi t.id,.bool dn1,.slice (some ad) t.ops.length c1] 39)).alloc (.cells #[.bool true,Qi o.key,Qi o.tx,Qi o.nth] 66)) w'∧w'.cell? ⟨w1.heap.size+1,0,none⟩=some (.bool true)∧w'.cell? ⟨w1.heap.size+1,1,none⟩=some (Qi o.key)∧w'.cell? ⟨w1.heap.size+1,2,none⟩=some (Qi o.tx)∧w'.cell? ⟨w1.heap.size+1,3,none⟩=some (Qi o.nth)∧w'.cell? ⟨w1.heap.size,0,none⟩=some (Qi t.id)∧w'.cell? ⟨w.heap.size+1,2,none⟩=some (Qi vt)∧w'.cell? ⟨w.heap.size+1,3,none⟩=some (Qi vk)∧w'.cell? ⟨w.heap.size+1,4,none⟩=some (Qi vn)) ?_ fun jH=>?_
        ·(first|exact⟨(Il No _).drew,o0,o1,o2,o3,t0,m2,m3,m4⟩|exact⟨jH.1.trans hu3,hu3.keepNo jH.2.1,hu3.keepNo jH.2.2.1,hu3.keepNo jH.2.2.2.1,hu3.keepNo jH.2.2.2.2.1,hu3.keepNo jH.2.2.2.2.2.1,hu3.keepNo jH.2.2.2.2.2.2.1,hu3.keepNo jH.2.2.2.2.2.2.2.1,hu3.keepNo jH.2.2.2.2.2.2.2.2⟩)
        (iterate 5 refine wpF ?_);refine wpK 6 rfl ?_;refine wpK 7 rfl ?_;refine wpZ 5 rfl fun K hK=>?_;go_simp
        (first
  |(go_at_call 58;refine Ck (Zl6 _ o.key o.tx o.nth) fun w3 hu3=>?_))
        try (go_wp2_with fail)
        refine hK.out _ _ ?_ fun jH=>?_
        ·(first|exact⟨(Il No _).drew,o0,o1,o2,o3,t0,m2,m3,m4⟩|exact⟨jH.1.trans hu3,hu3.keepNo jH.2.1,hu3.keepNo jH.2.2.1,hu3.keepNo jH.2.2.2.1,hu3.keepNo jH.2.2.2.2.1,hu3.keepNo jH.2.2.2.2.2.1,hu3.keepNo jH.2.2.2.2.2.2.1,hu3.keepNo jH.2.2.2.2.2.2.2.1,hu3.keepNo jH.2.2.2.2.2.2.2.2⟩)
        try simp only[Qa]
        (iterate 14 refine wpF ?_);refine wpD (Ii ?_);have HU:=Qh jH.1;clear jH;go_wp2;go_ret;exact⟨by rw[hv.out];rfl,U3.out.trans HU.out⟩
      ·have hv:=Qh (show ZaS txs p ⟨bx,(k:Int),⟨vt,vk,vn⟩⟩=false by rw[hv0];simp[h0]);clear hv0;have bO:=Qh (Im (w1.alloc (.cells #[Qi t.id,.bool dn1,.slice (some ad) t.ops.length c1] 39)) 66 [.bool true,Qi o.key,Qi o.tx,Qi o.nth]);have uO:=(Il No (w1.alloc (.cells #[Qi t.id,.bool dn1,.slice (some ad) t.ops.length c1] 39))).alloc (.cells #[.bool true,Qi o.key,Qi o.tx,Qi o.nth] 66);have bR3:=Qh (bR1.out.upd uO id);have bM3:=bM1.out.upd uO id;have bT3:=bT1.out.upd uO id;have U3:=Qh (U1.out.trans uO);have o0:=bO.out.cell 0;have o1:=bO.out.cell 1;have o2:=bO.out.cell 2;have o3:=bO.out.cell 3;have n2:=bM3.cell 2;have n3:=bM3.cell 3;have n4:=bM3.cell 4;have s0:=bT3.cell 0;simp only[Qz,Qs,Ij]at o0 o1 o2 o3 n2 n3 n4 s0;clear uO bM3 bT3;go_wp2;clear t0 m2 m3 m4;have t0:=s0;have m2:=n2;have m3:=n3;have m4:=n4;refine wpS (fun w'=>Upd No ((w1.alloc (.cells #[Qi t.id,.bool dn1,.slice (some ad) t.ops.length c1] 39)).alloc (.cells #[.bool true,Qi o.key,Qi o.tx,Qi o.nth] 66)) w'∧w'.cell? ⟨w1.heap.size+1,0,none⟩=some (.bool true)∧w'.cell? ⟨w1.heap.size+1,1,none⟩=some (Qi o.key)∧w'.cell? ⟨w1.heap.size+1,2,none⟩=some (Qi o.tx)∧w'.cell? ⟨w1.heap.size+1,3,none⟩=some (Qi o.nth)∧w'.cell? ⟨w1.heap.size,0,none⟩=some (Qi t.id)∧w'.cell? ⟨w.heap.size+1,2,none⟩=some (Qi vt)∧w'.cell? ⟨w.heap.size+1,3,none⟩=some (Qi vk)∧w'.cell? ⟨w.heap.size+1,4,none⟩=some (Qi vn)) ?_ fun jH=>?_
       ·(first|exact⟨(Il No _).drew,o0,o1,o2,o3,t0,m2,m3,m4⟩|exact⟨jH.1.trans hu3,hu3.keepNo jH.2.1,hu3.keepNo jH.2.2.1,hu3.keepNo jH.2.2.2.1,hu3.keepNo jH.2.2.2.2.1,hu3.keepNo jH.2.2.2.2.2.1,hu3.keepNo jH.2.2.2.2.2.2.1,hu3.keepNo jH.2.2.2.2.2.2.2.1,hu3.keepNo jH.2.2.2.2.2.2.2.2⟩)
       (iterate 5 refine wpF ?_);refine wpK 6 rfl ?_;refine wpK 7 rfl ?_;refine wpZ 5 rfl fun K hK=>?_;go_simp
       (first
  |(go_at_call 58;refine Ck (Zl6 _ o.key o.tx o.nth) fun w3 hu3=>?_))
       try (go_wp2_with fail)
       refine hK.out _ _ ?_ fun jH=>?_
       ·(first|exact⟨(Il No _).drew,o0,o1,o2,o3,t0,m2,m3,m4⟩|exact⟨jH.1.trans hu3,hu3.keepNo jH.2.1,hu3.keepNo jH.2.2.1,hu3.keepNo jH.2.2.2.1,hu3.keepNo jH.2.2.2.2.1,hu3.keepNo jH.2.2.2.2.2.1,hu3.keepNo jH.2.2.2.2.2.2.1,hu3.keepNo jH.2.2.2.2.2.2.2.1,hu3.keepNo jH.2.2.2.2.2.2.2.2⟩)
       try simp only[Qa]
       (iterate 14 refine wpF ?_);refine wpD (Ii ?_);have HU:=Qh jH.1;clear jH;go_wp2;go_ret;exact⟨by rw[hv.out];rfl,U3.out.trans HU.out⟩
