/- Whether a history is right. -/
import Derived.Test.YtblplapkdmhikaaGreatDbax
import Derived.Test.YtblplapkdmhikaaGreatDbbd
import Derived.Test.YtblplapkdmhikaaGreatDbbf
namespace Go.Proofs.YtblplapkdmhikaaGreat
set_option linter.unusedVariables false
set_option linter.unusedSimpArgs false
section
open Go.RowKit
theorem Zen {p:Nat→Bool} {n k:Nat} (hk:k<n) (h:p k=false):(List.range n).all p=false:=by
 rw[List.all_eq_false];exact⟨k,List.mem_range.2 hk,by simp[h]⟩
theorem Zbh {p:Nat→Bool} {k:Nat} (h:(List.range k).all p=true) (hk:p k=true):(List.range (k+1)).all p=true:=by
 rw[List.range_succ,List.all_append,h];simp[hk]
section
variable {h:Hist} {k:Nat}
theorem Zcu (hk:k<h.txs.length) (ht:ZbC h.txs k=false):Za h=false:=by
 unfold Za;rw[Zen hk ht];simp
theorem Zb2 (hk:k<h.ords.length) (ht:ZbT h.txs h.ords k=false):Za h=false:=by
 unfold Za;rw[Zen hk ht];simp
theorem Zkj (hl:((Zv h.txs []).length==h.ords.length)=false):Za h=false:=by
 unfold Za;rw[hl];simp
theorem Zft (hl:4096<h.txs.length):Za h=false:=by
 unfold Za;rw[decide_eq_false (by omega)];simp
theorem Zkh (h1:h.txs.length≤4096) (h2:(List.range h.txs.length).all (ZbC h.txs)=true) (h3:((Zv h.txs []).length==h.ords.length)=true) (h4:(List.range h.ords.length).all (ZbT h.txs h.ords)=true):Za h=true:=by
 unfold Za;rw[decide_eq_true h1,h2,h3,h4];rfl
end
section
variable {txs:List HTx} {k:Nat} {x:HTx}
def Zca (txs:List HTx) (k:Nat) (id:Int):Bool:=match k with|0=>true|j+1=>(match txs[j]? with|some u=>decide (u.id<id)|none=>true)
theorem ZiB (hk:k<txs.length) (hx:txs[k]=x):ZbC txs k=(Zca txs k x.id&&ZJ x.id x.ops==0&&ZaT txs x.id x.ops):=by
 unfold ZbC Zca;rw[Qg hk,hx]
 cases k<;>rfl
theorem Zml {y:HTx} (hk:0<k) (hk2:k<txs.length) (hy:txs[k-1]'(by omega)=y) (id:Int) (h:id≤y.id):Zca txs k id=false:=by
 obtain⟨j,rfl⟩:∃j,k=j+1:=⟨k-1,by omega⟩;simp only[Nat.add_sub_cancel]at hy
 show(match txs[j]? with|some u=>decide (u.id<id)|none=>true)=_
 rw[Qg (by omega),hy];simp only[decide_eq_false_iff_not];omega
theorem Zlh {y:HTx} (hk:0<k) (hk2:k<txs.length) (hy:txs[k-1]'(by omega)=y) (id:Int) (h:y.id<id):Zca txs k id=true:=by
 obtain⟨j,rfl⟩:∃j,k=j+1:=⟨k-1,by omega⟩;simp only[Nat.add_sub_cancel]at hy
 show(match txs[j]? with|some u=>decide (u.id<id)|none=>true)=_
 rw[Qg (by omega),hy];simp only[decide_eq_true_eq];omega
end
section
variable {txs:List HTx} {ords:List HOrd} {k:Nat} {x:HOrd}
def ZcH (ords:List HOrd) (k:Nat) (key:Int):Bool:=match k with|0=>true|j+1=>(match ords[j]? with|some u=>decide (u.key<key)|none=>true)
theorem ZlS (hk:k<ords.length) (hx:ords[k]=x):ZbT txs ords k=(ZcH ords k x.key&& !x.txs.isEmpty&&(ZaH x.txs==ZaH (Zh txs x.key))):=by
 unfold ZbT ZcH;rw[Qg hk,hx]
 cases k<;>rfl
theorem Zlj {y:HOrd} (hk:0<k) (hk2:k<ords.length) (hy:ords[k-1]'(by omega)=y) (key:Int) (h:key≤y.key):ZcH ords k key=false:=by
 obtain⟨j,rfl⟩:∃j,k=j+1:=⟨k-1,by omega⟩;simp only[Nat.add_sub_cancel]at hy
 show(match ords[j]? with|some u=>decide (u.key<key)|none=>true)=_
 rw[Qg (by omega),hy];simp only[decide_eq_false_iff_not];omega
theorem Zj1 {y:HOrd} (hk:0<k) (hk2:k<ords.length) (hy:ords[k-1]'(by omega)=y) (key:Int) (h:y.key<key):ZcH ords k key=true:=by
 obtain⟨j,rfl⟩:∃j,k=j+1:=⟨k-1,by omega⟩;simp only[Nat.add_sub_cancel]at hy
 show(match ords[j]? with|some u=>decide (u.key<key)|none=>true)=_
 rw[Qg (by omega),hy];simp only[decide_eq_true_eq];omega
end
theorem ZlO (a b:List Int):Zfz a b=(ZaH a==ZaH b):=by unfold Zfz;rw[ZeT,ZeT]
section
variable {F:Nat→Prop} {w:World} {i0:Int} {dn:Bool} {A:Option Addr} {c:Nat} {l:List HOp}
theorem Zcm {v:Int} (h:HOps F w A l) (hl:Zg l.length) (hv:ZJ i0 l=v):Calls Tryz.prog 63 #[.agg #[.int .i64 i0,.bool dn,.slice A l.length c]] w fun e w'=>e= .returned (.int .i64 v)∧Upd No w w':=by subst hv;exact Zny F w i0 dn A c l h hl
theorem Zdx {v:Bool} {txs:List HTx} {ords:List HOrd} {A' B:Option Addr} {c' d:Nat} (H:Hist.lies F w ⟨txs,ords,A',c',B,d⟩) (h:HOps F w A l) (hl:Zg l.length) (hv:ZaT txs i0 l=v):
  Calls Tryz.prog 64 #[.agg #[.slice A' txs.length c',.slice B ords.length d],.agg #[.int .i64 i0,.bool dn,.slice A l.length c]] w fun e w'=>e= .returned (.bool v)∧Upd No w w':=by subst hv;exact Znb F w ⟨txs,ords,A',c',B,d⟩ i0 dn A c l H h hl
end
theorem ZfD {F G:Nat→Prop} {w:World} {A B:Option Addr} {c d:Nat} {a b:List Int} {v:Bool} (ha:Ints F w A a) (hb:Ints G w B b) (hl:a.length≤17592186044415) (hl2:b.length≤17592186044415) (hv:Zfz a b=v):
  Calls Tryz.prog 66 #[.slice A a.length c,.slice B b.length d] w fun e w'=>e= .returned (.bool v)∧Upd No w w':=by subst hv;exact ZoA F G w A B c d a b ha hb hl hl2
set_option maxRecDepth 100000 in
set_option maxHeartbeats 8000000 in
theorem ZkT (F:Nat→Prop) (w:World) (h:Hist) (H:h.lies F w):Calls Tryz.prog 17 #[h.val] w fun e w'=>e= .returned (.bool (Za h))∧Upd No w w':=by
 obtain⟨txs,ords,A,c,B,d⟩:=h;have hft:=H.few;have hfo:=H.fewo;simp only at hft hfo;unfold Hist.val;have uH:=(Upd.refl No w).alloc (.cells #[.slice A txs.length c,.slice B ords.length d] 29)
 by_cases hmany:4096<txs.length
 ·have hv:=Qh (Zft (h:=⟨txs,ords,A,c,B,d⟩) hmany)
  go_enter Tryz.func17,Tryz.ntmps17
  go_wp2
  go_ret
  exact⟨by rw[hv.out];rfl,uH⟩
 ·have hmb:decide ((4096:Int)<(txs.length:Int))=false:=decide_eq_false (by omega);have bH0:=Qh (Blk.new w 29 [.slice A txs.length c,.slice B ords.length d])
  go_enter Tryz.func17,Tryz.ntmps17
  go_wp2
  go_loopg [15] txs.length (fun gk i wr=>∃(k:Nat),k+gk=txs.length∧i= .int .i64 k∧Hid ((List.range k).all (ZbC txs)=true)∧Upd No (w.alloc (.cells #[.slice A txs.length c,.slice B ords.length d] 29)) wr)
  case atStart=>exact⟨0,by omega,rfl,Qh rfl,Upd.refl No _⟩
  case round=>
   obtain⟨k,hgk,rfl,hall,hu⟩:=hrel
   by_cases hlt:k<txs.length
   ·have H1:=H.upd (uH.trans hu) (fun _ _=>id);obtain⟨ad,hAd,q0,q1,q2⟩:=H1.tx_at hlt;simp only at hAd q0 q1 q2;have hx0:=H.tx txs[k] (List.getElem_mem hlt);have hx1:=H1.tx txs[k] (List.getElem_mem hlt);obtain⟨x,hx⟩:∃x,txs[k]=x:=⟨_,rfl⟩;rw[hx]at q0 q1 q2 hx1 hx0;subst hAd;have X:=Qh hx;have XL:=Qh hx1;have XL0:=Qh hx0;have b1:(0:Int)≤(k:Int):=Qn _;have b2:(k:Int)<(txs.length:Int):=by omega
    have uA:=(Upd.refl No wr).alloc (.cells #[.int .i64 x.id,.bool x.done,.slice x.A x.ops.length x.c] 81);have bo:=Qh (Blk.new wr 81 [.int .i64 x.id,.bool x.done,.slice x.A x.ops.length x.c]);have bH:=Qh ((bH0.out.upd hu id).upd uA id);have UA:=Qh (hu.trans uA);clear hx hx1 hx0;obtain⟨E,hE0⟩:∃E,ZJ x.id x.ops=E:=⟨_,rfl⟩;obtain⟨N,hN0⟩:∃N,ZaT txs x.id x.ops=N:=⟨_,rfl⟩;have hE:=Qh hE0;have hN:=Qh hN0;have hok:=Qh (show ZbC txs k=(Zca txs k x.id&&E==0&&N) by rw[ZiB hlt X.out,hE0,hN0]);clear hE0 hN0
    by_cases hk0:k=0
    ·have hah:=Qh (show Zca txs k x.id=true by rw[hk0];rfl);have hkk:decide ((0:Int)<(k:Int))=false:=decide_eq_false (by omega);have hkn:decide (0<k)=false:=decide_eq_false (by omega);clear hk0 H1
     by_cases hE1:E=0
     ·subst hE1
      cases N
      ·have hf:=Qh (show Za ⟨txs,ords,some ad,c,B,d⟩=false from Zcu (k:=k) hlt (by rw[hok.out];simp));have g0:=bH.out.cell 0;have g1:=bH.out.cell 1;have k0:=bo.out.cell 0;have k1:=bo.out.cell 1;have k2:=bo.out.cell 2;simp only[Qz,Qs]at g0 g1 k0 k1 k2;go_wp2;refine wp_region_noPanic ?_;refine wp_region_held_drew (S:=(fun w'=>Upd No (w.alloc (.cells #[.slice (some ad) txs.length c,.slice B ords.length d] 29)) w'∧w'.cell? ⟨w.heap.size,0,none⟩=some (.slice (some ad) txs.length c)∧w'.cell? ⟨w.heap.size,1,none⟩=some (.slice B ords.length d)∧w'.cell? ⟨wr.heap.size,0,none⟩=some (.int .i64 x.id)∧w'.cell? ⟨wr.heap.size,1,none⟩=some (.bool x.done)∧w'.cell? ⟨wr.heap.size,2,none⟩=some (.slice x.A x.ops.length x.c))) (by kernel_rfl) ?_ (fun hHeld=> ?_)
       ·(first|exact⟨UA.out.drew,g0,g1,k0,k1,k2⟩|exact⟨hHeld.1.trans hu3,hu3.keepNo hHeld.2.1,hu3.keepNo hHeld.2.2.1,hu3.keepNo hHeld.2.2.2.1,hu3.keepNo hHeld.2.2.2.2.1,hu3.keepNo hHeld.2.2.2.2.2⟩)
       refine wpK 0 rfl ?_;refine wpK 1 rfl ?_;refine wpK 2 rfl ?_;refine wpN 3 rfl ?_;refine wpN 4 rfl ?_;refine wpN 5 rfl ?_;refine wpN 6 rfl ?_;refine wpN 7 rfl ?_;refine wpN 8 rfl ?_;refine wpN 9 rfl ?_;refine wpN 10 rfl ?_;refine wpN 11 rfl ?_;refine wpN 12 rfl ?_;refine wpK 13 rfl ?_;refine wpK 14 rfl ?_;refine wpK 15 rfl ?_;refine wpR [16] ?_;refine wpC rfl (fun K hK=> ?_) AllReadyH.nil;go_simp
       (first
  |(go_at_call 63;refine(Zcm (F:=F) (v:=0) (HOps.upd XL0.out.1 (uH.trans hHeld.1) (fun _ _=>id)) XL.out.2.2.1 hE.out).mono ?_;rintro e w3 ⟨rfl,hu3⟩))
       try (go_wp2_with fail)
       refine hK.out _ _ ?_ (fun hHeld=> ?_)
       ·(first|exact⟨UA.out.drew,g0,g1,k0,k1,k2⟩|exact⟨hHeld.1.trans hu3,hu3.keepNo hHeld.2.1,hu3.keepNo hHeld.2.2.1,hu3.keepNo hHeld.2.2.2.1,hu3.keepNo hHeld.2.2.2.2.1,hu3.keepNo hHeld.2.2.2.2.2⟩)
       clear hK K
       try simp only[Act.put,sT,sS,sZ]
       refine wpK 17 rfl ?_;refine wpK 18 rfl ?_;refine wpK 19 rfl ?_;refine wpK 20 rfl ?_;refine wpK 21 rfl ?_;refine wpR [22] ?_;refine wpC rfl (fun K hK=> ?_) AllReadyH.nil;go_simp
       (first
  |(go_at_call 64;refine(Zdx (F:=F) (v:=false) (H.upd (uH.trans hHeld.1) (fun _ _=>id)) (HOps.upd XL0.out.1 (uH.trans hHeld.1) (fun _ _=>id)) XL.out.2.2.1 hN.out).mono ?_;rintro e w3 ⟨rfl,hu3⟩))
       try (go_wp2_with fail)
       refine hK.out _ _ ?_ (fun hHeld=> ?_)
       ·(first|exact⟨UA.out.drew,g0,g1,k0,k1,k2⟩|exact⟨hHeld.1.trans hu3,hu3.keepNo hHeld.2.1,hu3.keepNo hHeld.2.2.1,hu3.keepNo hHeld.2.2.2.1,hu3.keepNo hHeld.2.2.2.2.1,hu3.keepNo hHeld.2.2.2.2.2⟩)
       clear hK K
       try simp only[Act.put,sT,sS,sZ]
       refine wpK 23 rfl ?_;refine wpK 24 rfl ?_;refine wpD (NoPanic.normal ?_);have HU:=Qh hHeld.1;clear hHeld;go_wp2
       go_ret
       exact⟨by rw[hf.out];rfl,uH.trans HU.out⟩
      ·have HA:=Qh (Zbh hall.out (by rw[hok.out,hah.out];rfl));have g0:=bH.out.cell 0;have g1:=bH.out.cell 1;have k0:=bo.out.cell 0;have k1:=bo.out.cell 1;have k2:=bo.out.cell 2;simp only[Qz,Qs]at g0 g1 k0 k1 k2;go_wp2;refine wp_region_noPanic ?_;refine wp_region_held_drew (S:=(fun w'=>Upd No (w.alloc (.cells #[.slice (some ad) txs.length c,.slice B ords.length d] 29)) w'∧w'.cell? ⟨w.heap.size,0,none⟩=some (.slice (some ad) txs.length c)∧w'.cell? ⟨w.heap.size,1,none⟩=some (.slice B ords.length d)∧w'.cell? ⟨wr.heap.size,0,none⟩=some (.int .i64 x.id)∧w'.cell? ⟨wr.heap.size,1,none⟩=some (.bool x.done)∧w'.cell? ⟨wr.heap.size,2,none⟩=some (.slice x.A x.ops.length x.c))) (by kernel_rfl) ?_ (fun hHeld=> ?_)
       ·(first|exact⟨UA.out.drew,g0,g1,k0,k1,k2⟩|exact⟨hHeld.1.trans hu3,hu3.keepNo hHeld.2.1,hu3.keepNo hHeld.2.2.1,hu3.keepNo hHeld.2.2.2.1,hu3.keepNo hHeld.2.2.2.2.1,hu3.keepNo hHeld.2.2.2.2.2⟩)
       refine wpK 0 rfl ?_;refine wpK 1 rfl ?_;refine wpK 2 rfl ?_;refine wpN 3 rfl ?_;refine wpN 4 rfl ?_;refine wpN 5 rfl ?_;refine wpN 6 rfl ?_;refine wpN 7 rfl ?_;refine wpN 8 rfl ?_;refine wpN 9 rfl ?_;refine wpN 10 rfl ?_;refine wpN 11 rfl ?_;refine wpN 12 rfl ?_;refine wpK 13 rfl ?_;refine wpK 14 rfl ?_;refine wpK 15 rfl ?_;refine wpR [16] ?_;refine wpC rfl (fun K hK=> ?_) AllReadyH.nil;go_simp
       (first
  |(go_at_call 63;refine(Zcm (F:=F) (v:=0) (HOps.upd XL0.out.1 (uH.trans hHeld.1) (fun _ _=>id)) XL.out.2.2.1 hE.out).mono ?_;rintro e w3 ⟨rfl,hu3⟩))
       try (go_wp2_with fail)
       refine hK.out _ _ ?_ (fun hHeld=> ?_)
       ·(first|exact⟨UA.out.drew,g0,g1,k0,k1,k2⟩|exact⟨hHeld.1.trans hu3,hu3.keepNo hHeld.2.1,hu3.keepNo hHeld.2.2.1,hu3.keepNo hHeld.2.2.2.1,hu3.keepNo hHeld.2.2.2.2.1,hu3.keepNo hHeld.2.2.2.2.2⟩)
       clear hK K
       try simp only[Act.put,sT,sS,sZ]
       refine wpK 17 rfl ?_;refine wpK 18 rfl ?_;refine wpK 19 rfl ?_;refine wpK 20 rfl ?_;refine wpK 21 rfl ?_;refine wpR [22] ?_;refine wpC rfl (fun K hK=> ?_) AllReadyH.nil;go_simp
       (first
  |(go_at_call 64;refine(Zdx (F:=F) (v:=true) (H.upd (uH.trans hHeld.1) (fun _ _=>id)) (HOps.upd XL0.out.1 (uH.trans hHeld.1) (fun _ _=>id)) XL.out.2.2.1 hN.out).mono ?_;rintro e w3 ⟨rfl,hu3⟩))
       try (go_wp2_with fail)
       refine hK.out _ _ ?_ (fun hHeld=> ?_)
       ·(first|exact⟨UA.out.drew,g0,g1,k0,k1,k2⟩|exact⟨hHeld.1.trans hu3,hu3.keepNo hHeld.2.1,hu3.keepNo hHeld.2.2.1,hu3.keepNo hHeld.2.2.2.1,hu3.keepNo hHeld.2.2.2.2.1,hu3.keepNo hHeld.2.2.2.2.2⟩)
       clear hK K
       try simp only[Act.put,sT,sS,sZ]
       refine wpK 23 rfl ?_;refine wpK 24 rfl ?_;refine wpD (NoPanic.normal ?_);have HU:=Qh hHeld.1;clear hHeld;go_wp2
       go_roundg (gk-1)
       case measure=>omega
       case rel=>exact⟨k+1,by omega,by go_num,Qh HA.out,HU.out⟩
     ·have hEb:(E != 0)=true:=by simpa using hE1
      have hf:=Qh (show Za ⟨txs,ords,some ad,c,B,d⟩=false from Zcu (k:=k) hlt (by rw[hok.out,beq_eq_false_iff_ne.2 hE1];simp));clear hE1;have g0:=bH.out.cell 0;have g1:=bH.out.cell 1;have k0:=bo.out.cell 0;have k1:=bo.out.cell 1;have k2:=bo.out.cell 2;simp only[Qz,Qs]at g0 g1 k0 k1 k2;go_wp2;refine wp_region_noPanic ?_;refine wp_region_held_drew (S:=(fun w'=>Upd No (w.alloc (.cells #[.slice (some ad) txs.length c,.slice B ords.length d] 29)) w'∧w'.cell? ⟨w.heap.size,0,none⟩=some (.slice (some ad) txs.length c)∧w'.cell? ⟨w.heap.size,1,none⟩=some (.slice B ords.length d)∧w'.cell? ⟨wr.heap.size,0,none⟩=some (.int .i64 x.id)∧w'.cell? ⟨wr.heap.size,1,none⟩=some (.bool x.done)∧w'.cell? ⟨wr.heap.size,2,none⟩=some (.slice x.A x.ops.length x.c))) (by kernel_rfl) ?_ (fun hHeld=> ?_)
      ·(first|exact⟨UA.out.drew,g0,g1,k0,k1,k2⟩|exact⟨hHeld.1.trans hu3,hu3.keepNo hHeld.2.1,hu3.keepNo hHeld.2.2.1,hu3.keepNo hHeld.2.2.2.1,hu3.keepNo hHeld.2.2.2.2.1,hu3.keepNo hHeld.2.2.2.2.2⟩)
      refine wpK 0 rfl ?_;refine wpK 1 rfl ?_;refine wpK 2 rfl ?_;refine wpN 3 rfl ?_;refine wpN 4 rfl ?_;refine wpN 5 rfl ?_;refine wpN 6 rfl ?_;refine wpN 7 rfl ?_;refine wpN 8 rfl ?_;refine wpN 9 rfl ?_;refine wpN 10 rfl ?_;refine wpN 11 rfl ?_;refine wpN 12 rfl ?_;refine wpK 13 rfl ?_;refine wpK 14 rfl ?_;refine wpK 15 rfl ?_;refine wpR [16] ?_;refine wpC rfl (fun K hK=> ?_) AllReadyH.nil;go_simp
      (first
  |(go_at_call 63;refine(Zcm (F:=F) (v:=E) (HOps.upd XL0.out.1 (uH.trans hHeld.1) (fun _ _=>id)) XL.out.2.2.1 hE.out).mono ?_;rintro e w3 ⟨rfl,hu3⟩))
      try (go_wp2_with fail)
      refine hK.out _ _ ?_ (fun hHeld=> ?_)
      ·(first|exact⟨UA.out.drew,g0,g1,k0,k1,k2⟩|exact⟨hHeld.1.trans hu3,hu3.keepNo hHeld.2.1,hu3.keepNo hHeld.2.2.1,hu3.keepNo hHeld.2.2.2.1,hu3.keepNo hHeld.2.2.2.2.1,hu3.keepNo hHeld.2.2.2.2.2⟩)
      clear hK K
      try simp only[Act.put,sT,sS,sZ]
      refine wpK 17 rfl ?_;refine wpK 18 rfl ?_;refine wpK 19 rfl ?_;refine wpN 20 rfl ?_;refine wpN 21 rfl ?_;refine wpR [22] ?_;refine wpC rfl (fun K hK=> ?_) AllReadyH.nil;go_simp;refine hK.out _ _ ?_ (fun hHeld=> ?_)
      ·exact hHeld
      clear hK K
      try simp only[Act.put,sT,sS,sZ]
      refine wpN 23 rfl ?_;refine wpK 24 rfl ?_;refine wpD (NoPanic.normal ?_);have HU:=Qh hHeld.1;clear hHeld;go_wp2
      go_ret
      exact⟨by rw[hf.out];rfl,uH.trans HU.out⟩
    ·obtain⟨ad2,hAd2,p0,_,_⟩:=H1.tx_at (k:=k-1) (show k-1<txs.length by omega);simp only at hAd2 p0
     cases hAd2
     obtain⟨y',hy'⟩:∃y',txs[k-1]'(by omega)=y':=⟨_,rfl⟩;rw[hy']at p0
     replace p0:=uA.keepNo p0
     have hkp:0<k:=by omega
     by_cases hordL:x.id≤y'.id
     ·have hf:=Qh (show Za ⟨txs,ords,some ad,c,B,d⟩=false from Zcu (k:=k) hlt (by rw[hok.out,Zml hkp hlt hy' x.id hordL];simp));obtain⟨y,hy⟩:∃y,y'.id=y:=⟨_,rfl⟩;rw[hy]at p0 hordL;clear hy hy' H1;have hge:decide (x.id≤y)=true:=decide_eq_true hordL;have hkk:decide ((0:Int)<(k:Int))=true:=decide_eq_true (by omega);have hkn:decide (0<k)=true:=decide_eq_true (by omega);have hw1:IntKind.i64.wrap ((k:Int)-1)=(k:Int)-1:=IntWalk.i64_in _ (by omega);have hw2:(0:Int)≤(k:Int)-1:=by omega
      have hw3:(1:Int)≤(k:Int):=by omega
      have hw4:(k:Int)-1<(txs.length:Int):=by omega
      have hw5:((k:Int)-1).toNat=k-1:=by omega
      have g0:=bH.out.cell 0;have g1:=bH.out.cell 1;have k0:=bo.out.cell 0;have k1:=bo.out.cell 1;have k2:=bo.out.cell 2;simp only[Qz,Qs]at g0 g1 k0 k1 k2;go_wp2;refine wp_region_noPanic ?_;refine wp_region_held_drew (S:=(fun w'=>Upd No (w.alloc (.cells #[.slice (some ad) txs.length c,.slice B ords.length d] 29)) w'∧w'.cell? ⟨w.heap.size,0,none⟩=some (.slice (some ad) txs.length c)∧w'.cell? ⟨w.heap.size,1,none⟩=some (.slice B ords.length d)∧w'.cell? ⟨wr.heap.size,0,none⟩=some (.int .i64 x.id)∧w'.cell? ⟨wr.heap.size,1,none⟩=some (.bool x.done)∧w'.cell? ⟨wr.heap.size,2,none⟩=some (.slice x.A x.ops.length x.c)∧w'.cell? (ad.add ((k-1)*3))=some (.int .i64 y))) (by kernel_rfl) ?_ (fun hHeld=> ?_)
      ·(first|exact⟨UA.out.drew,g0,g1,k0,k1,k2,p0⟩|exact⟨hHeld.1.trans hu3,hu3.keepNo hHeld.2.1,hu3.keepNo hHeld.2.2.1,hu3.keepNo hHeld.2.2.2.1,hu3.keepNo hHeld.2.2.2.2.1,hu3.keepNo hHeld.2.2.2.2.2.1,hu3.keepNo hHeld.2.2.2.2.2.2⟩)
      refine wpK 0 rfl ?_;refine wpK 1 rfl ?_;refine wpK 2 rfl ?_;refine wpK 3 rfl ?_;refine wpK 4 rfl ?_;refine wpK 5 rfl ?_;refine wpK 6 rfl ?_;refine wpK 7 rfl ?_;refine wpK 8 rfl ?_;refine wpK 9 rfl ?_;refine wpK 10 rfl ?_;refine wpK 11 rfl ?_;refine wpK 12 rfl ?_;refine wpK 13 rfl ?_;refine wpK 14 rfl ?_;refine wpN 15 rfl ?_;refine wpR [16] ?_;refine wpC rfl (fun K hK=> ?_) AllReadyH.nil;go_simp;refine hK.out _ _ ?_ (fun hHeld=> ?_)
      ·exact hHeld
      clear hK K
      try simp only[Act.put,sT,sS,sZ]
      refine wpN 17 rfl ?_;refine wpK 18 rfl ?_;refine wpK 19 rfl ?_;refine wpN 20 rfl ?_;refine wpN 21 rfl ?_;refine wpR [22] ?_;refine wpC rfl (fun K hK=> ?_) AllReadyH.nil;go_simp;refine hK.out _ _ ?_ (fun hHeld=> ?_)
      ·exact hHeld
      clear hK K
      try simp only[Act.put,sT,sS,sZ]
      refine wpN 23 rfl ?_;refine wpK 24 rfl ?_;refine wpD (NoPanic.normal ?_);have HU:=Qh hHeld.1;clear hHeld;go_wp2
      go_ret
      exact⟨by rw[hf.out];rfl,uH.trans HU.out⟩
     ·have hah:=Qh (show Zca txs k x.id=true from Zlh hkp hlt hy' x.id (by omega));obtain⟨y,hy⟩:∃y,y'.id=y:=⟨_,rfl⟩;rw[hy]at p0 hordL;clear hy hy' H1;have hge:decide (x.id≤y)=false:=decide_eq_false hordL;have hkk:decide ((0:Int)<(k:Int))=true:=decide_eq_true (by omega);have hkn:decide (0<k)=true:=decide_eq_true (by omega);have hw1:IntKind.i64.wrap ((k:Int)-1)=(k:Int)-1:=IntWalk.i64_in _ (by omega);have hw2:(0:Int)≤(k:Int)-1:=by omega
      have hw3:(1:Int)≤(k:Int):=by omega
      have hw4:(k:Int)-1<(txs.length:Int):=by omega
      have hw5:((k:Int)-1).toNat=k-1:=by omega
      by_cases hE1:E=0
      ·subst hE1
       cases N
       ·have hf:=Qh (show Za ⟨txs,ords,some ad,c,B,d⟩=false from Zcu (k:=k) hlt (by rw[hok.out];simp));have g0:=bH.out.cell 0;have g1:=bH.out.cell 1;have k0:=bo.out.cell 0;have k1:=bo.out.cell 1;have k2:=bo.out.cell 2;simp only[Qz,Qs]at g0 g1 k0 k1 k2;go_wp2;refine wp_region_noPanic ?_;refine wp_region_held_drew (S:=(fun w'=>Upd No (w.alloc (.cells #[.slice (some ad) txs.length c,.slice B ords.length d] 29)) w'∧w'.cell? ⟨w.heap.size,0,none⟩=some (.slice (some ad) txs.length c)∧w'.cell? ⟨w.heap.size,1,none⟩=some (.slice B ords.length d)∧w'.cell? ⟨wr.heap.size,0,none⟩=some (.int .i64 x.id)∧w'.cell? ⟨wr.heap.size,1,none⟩=some (.bool x.done)∧w'.cell? ⟨wr.heap.size,2,none⟩=some (.slice x.A x.ops.length x.c)∧w'.cell? (ad.add ((k-1)*3))=some (.int .i64 y))) (by kernel_rfl) ?_ (fun hHeld=> ?_)
        ·(first|exact⟨UA.out.drew,g0,g1,k0,k1,k2,p0⟩|exact⟨hHeld.1.trans hu3,hu3.keepNo hHeld.2.1,hu3.keepNo hHeld.2.2.1,hu3.keepNo hHeld.2.2.2.1,hu3.keepNo hHeld.2.2.2.2.1,hu3.keepNo hHeld.2.2.2.2.2.1,hu3.keepNo hHeld.2.2.2.2.2.2⟩)
        refine wpK 0 rfl ?_;refine wpK 1 rfl ?_;refine wpK 2 rfl ?_;refine wpK 3 rfl ?_;refine wpK 4 rfl ?_;refine wpK 5 rfl ?_;refine wpK 6 rfl ?_;refine wpK 7 rfl ?_;refine wpK 8 rfl ?_;refine wpK 9 rfl ?_;refine wpK 10 rfl ?_;refine wpK 11 rfl ?_;refine wpK 12 rfl ?_;refine wpK 13 rfl ?_;refine wpK 14 rfl ?_;refine wpK 15 rfl ?_;refine wpR [16] ?_;refine wpC rfl (fun K hK=> ?_) AllReadyH.nil;go_simp
        (first
  |(go_at_call 63;refine(Zcm (F:=F) (v:=0) (HOps.upd XL0.out.1 (uH.trans hHeld.1) (fun _ _=>id)) XL.out.2.2.1 hE.out).mono ?_;rintro e w3 ⟨rfl,hu3⟩))
        try (go_wp2_with fail)
        refine hK.out _ _ ?_ (fun hHeld=> ?_)
        ·(first|exact⟨UA.out.drew,g0,g1,k0,k1,k2,p0⟩|exact⟨hHeld.1.trans hu3,hu3.keepNo hHeld.2.1,hu3.keepNo hHeld.2.2.1,hu3.keepNo hHeld.2.2.2.1,hu3.keepNo hHeld.2.2.2.2.1,hu3.keepNo hHeld.2.2.2.2.2.1,hu3.keepNo hHeld.2.2.2.2.2.2⟩)
        clear hK K
        try simp only[Act.put,sT,sS,sZ]
        refine wpK 17 rfl ?_;refine wpK 18 rfl ?_;refine wpK 19 rfl ?_;refine wpK 20 rfl ?_;refine wpK 21 rfl ?_;refine wpR [22] ?_;refine wpC rfl (fun K hK=> ?_) AllReadyH.nil;go_simp
        (first
  |(go_at_call 64;refine(Zdx (F:=F) (v:=false) (H.upd (uH.trans hHeld.1) (fun _ _=>id)) (HOps.upd XL0.out.1 (uH.trans hHeld.1) (fun _ _=>id)) XL.out.2.2.1 hN.out).mono ?_;rintro e w3 ⟨rfl,hu3⟩))
        try (go_wp2_with fail)
        refine hK.out _ _ ?_ (fun hHeld=> ?_)
        ·(first|exact⟨UA.out.drew,g0,g1,k0,k1,k2,p0⟩|exact⟨hHeld.1.trans hu3,hu3.keepNo hHeld.2.1,hu3.keepNo hHeld.2.2.1,hu3.keepNo hHeld.2.2.2.1,hu3.keepNo hHeld.2.2.2.2.1,hu3.keepNo hHeld.2.2.2.2.2.1,hu3.keepNo hHeld.2.2.2.2.2.2⟩)
        clear hK K
        try simp only[Act.put,sT,sS,sZ]
        refine wpK 23 rfl ?_;refine wpK 24 rfl ?_;refine wpD (NoPanic.normal ?_);have HU:=Qh hHeld.1;clear hHeld;go_wp2
        go_ret
        exact⟨by rw[hf.out];rfl,uH.trans HU.out⟩
       ·have HA:=Qh (Zbh hall.out (by rw[hok.out,hah.out];rfl));have g0:=bH.out.cell 0;have g1:=bH.out.cell 1;have k0:=bo.out.cell 0;have k1:=bo.out.cell 1;have k2:=bo.out.cell 2;simp only[Qz,Qs]at g0 g1 k0 k1 k2;go_wp2;refine wp_region_noPanic ?_;refine wp_region_held_drew (S:=(fun w'=>Upd No (w.alloc (.cells #[.slice (some ad) txs.length c,.slice B ords.length d] 29)) w'∧w'.cell? ⟨w.heap.size,0,none⟩=some (.slice (some ad) txs.length c)∧w'.cell? ⟨w.heap.size,1,none⟩=some (.slice B ords.length d)∧w'.cell? ⟨wr.heap.size,0,none⟩=some (.int .i64 x.id)∧w'.cell? ⟨wr.heap.size,1,none⟩=some (.bool x.done)∧w'.cell? ⟨wr.heap.size,2,none⟩=some (.slice x.A x.ops.length x.c)∧w'.cell? (ad.add ((k-1)*3))=some (.int .i64 y))) (by kernel_rfl) ?_ (fun hHeld=> ?_)
        ·(first|exact⟨UA.out.drew,g0,g1,k0,k1,k2,p0⟩|exact⟨hHeld.1.trans hu3,hu3.keepNo hHeld.2.1,hu3.keepNo hHeld.2.2.1,hu3.keepNo hHeld.2.2.2.1,hu3.keepNo hHeld.2.2.2.2.1,hu3.keepNo hHeld.2.2.2.2.2.1,hu3.keepNo hHeld.2.2.2.2.2.2⟩)
        refine wpK 0 rfl ?_;refine wpK 1 rfl ?_;refine wpK 2 rfl ?_;refine wpK 3 rfl ?_;refine wpK 4 rfl ?_;refine wpK 5 rfl ?_;refine wpK 6 rfl ?_;refine wpK 7 rfl ?_;refine wpK 8 rfl ?_;refine wpK 9 rfl ?_;refine wpK 10 rfl ?_;refine wpK 11 rfl ?_;refine wpK 12 rfl ?_;refine wpK 13 rfl ?_;refine wpK 14 rfl ?_;refine wpK 15 rfl ?_;refine wpR [16] ?_;refine wpC rfl (fun K hK=> ?_) AllReadyH.nil;go_simp
        (first
  |(go_at_call 63;refine(Zcm (F:=F) (v:=0) (HOps.upd XL0.out.1 (uH.trans hHeld.1) (fun _ _=>id)) XL.out.2.2.1 hE.out).mono ?_;rintro e w3 ⟨rfl,hu3⟩))
        try (go_wp2_with fail)
        refine hK.out _ _ ?_ (fun hHeld=> ?_)
        ·(first|exact⟨UA.out.drew,g0,g1,k0,k1,k2,p0⟩|exact⟨hHeld.1.trans hu3,hu3.keepNo hHeld.2.1,hu3.keepNo hHeld.2.2.1,hu3.keepNo hHeld.2.2.2.1,hu3.keepNo hHeld.2.2.2.2.1,hu3.keepNo hHeld.2.2.2.2.2.1,hu3.keepNo hHeld.2.2.2.2.2.2⟩)
        clear hK K
        try simp only[Act.put,sT,sS,sZ]
        refine wpK 17 rfl ?_;refine wpK 18 rfl ?_;refine wpK 19 rfl ?_;refine wpK 20 rfl ?_;refine wpK 21 rfl ?_;refine wpR [22] ?_;refine wpC rfl (fun K hK=> ?_) AllReadyH.nil;go_simp
        (first
  |(go_at_call 64;refine(Zdx (F:=F) (v:=true) (H.upd (uH.trans hHeld.1) (fun _ _=>id)) (HOps.upd XL0.out.1 (uH.trans hHeld.1) (fun _ _=>id)) XL.out.2.2.1 hN.out).mono ?_;rintro e w3 ⟨rfl,hu3⟩))
        try (go_wp2_with fail)
        refine hK.out _ _ ?_ (fun hHeld=> ?_)
        ·(first|exact⟨UA.out.drew,g0,g1,k0,k1,k2,p0⟩|exact⟨hHeld.1.trans hu3,hu3.keepNo hHeld.2.1,hu3.keepNo hHeld.2.2.1,hu3.keepNo hHeld.2.2.2.1,hu3.keepNo hHeld.2.2.2.2.1,hu3.keepNo hHeld.2.2.2.2.2.1,hu3.keepNo hHeld.2.2.2.2.2.2⟩)
        clear hK K
        try simp only[Act.put,sT,sS,sZ]
        refine wpK 23 rfl ?_;refine wpK 24 rfl ?_;refine wpD (NoPanic.normal ?_);have HU:=Qh hHeld.1;clear hHeld;go_wp2
        go_roundg (gk-1)
        case measure=>omega
        case rel=>exact⟨k+1,by omega,by go_num,Qh HA.out,HU.out⟩
      ·have hEb:(E != 0)=true:=by simpa using hE1
       have hf:=Qh (show Za ⟨txs,ords,some ad,c,B,d⟩=false from Zcu (k:=k) hlt (by rw[hok.out,beq_eq_false_iff_ne.2 hE1];simp));clear hE1;have g0:=bH.out.cell 0;have g1:=bH.out.cell 1;have k0:=bo.out.cell 0;have k1:=bo.out.cell 1;have k2:=bo.out.cell 2;simp only[Qz,Qs]at g0 g1 k0 k1 k2;go_wp2;refine wp_region_noPanic ?_;refine wp_region_held_drew (S:=(fun w'=>Upd No (w.alloc (.cells #[.slice (some ad) txs.length c,.slice B ords.length d] 29)) w'∧w'.cell? ⟨w.heap.size,0,none⟩=some (.slice (some ad) txs.length c)∧w'.cell? ⟨w.heap.size,1,none⟩=some (.slice B ords.length d)∧w'.cell? ⟨wr.heap.size,0,none⟩=some (.int .i64 x.id)∧w'.cell? ⟨wr.heap.size,1,none⟩=some (.bool x.done)∧w'.cell? ⟨wr.heap.size,2,none⟩=some (.slice x.A x.ops.length x.c)∧w'.cell? (ad.add ((k-1)*3))=some (.int .i64 y))) (by kernel_rfl) ?_ (fun hHeld=> ?_)
       ·(first|exact⟨UA.out.drew,g0,g1,k0,k1,k2,p0⟩|exact⟨hHeld.1.trans hu3,hu3.keepNo hHeld.2.1,hu3.keepNo hHeld.2.2.1,hu3.keepNo hHeld.2.2.2.1,hu3.keepNo hHeld.2.2.2.2.1,hu3.keepNo hHeld.2.2.2.2.2.1,hu3.keepNo hHeld.2.2.2.2.2.2⟩)
       refine wpK 0 rfl ?_;refine wpK 1 rfl ?_;refine wpK 2 rfl ?_;refine wpK 3 rfl ?_;refine wpK 4 rfl ?_;refine wpK 5 rfl ?_;refine wpK 6 rfl ?_;refine wpK 7 rfl ?_;refine wpK 8 rfl ?_;refine wpK 9 rfl ?_;refine wpK 10 rfl ?_;refine wpK 11 rfl ?_;refine wpK 12 rfl ?_;refine wpK 13 rfl ?_;refine wpK 14 rfl ?_;refine wpK 15 rfl ?_;refine wpR [16] ?_;refine wpC rfl (fun K hK=> ?_) AllReadyH.nil;go_simp
       (first
  |(go_at_call 63;refine(Zcm (F:=F) (v:=E) (HOps.upd XL0.out.1 (uH.trans hHeld.1) (fun _ _=>id)) XL.out.2.2.1 hE.out).mono ?_;rintro e w3 ⟨rfl,hu3⟩))
       try (go_wp2_with fail)
       refine hK.out _ _ ?_ (fun hHeld=> ?_)
       ·(first|exact⟨UA.out.drew,g0,g1,k0,k1,k2,p0⟩|exact⟨hHeld.1.trans hu3,hu3.keepNo hHeld.2.1,hu3.keepNo hHeld.2.2.1,hu3.keepNo hHeld.2.2.2.1,hu3.keepNo hHeld.2.2.2.2.1,hu3.keepNo hHeld.2.2.2.2.2.1,hu3.keepNo hHeld.2.2.2.2.2.2⟩)
       clear hK K
       try simp only[Act.put,sT,sS,sZ]
       refine wpK 17 rfl ?_;refine wpK 18 rfl ?_;refine wpK 19 rfl ?_;refine wpN 20 rfl ?_;refine wpN 21 rfl ?_;refine wpR [22] ?_;refine wpC rfl (fun K hK=> ?_) AllReadyH.nil;go_simp;refine hK.out _ _ ?_ (fun hHeld=> ?_)
       ·exact hHeld
       clear hK K
       try simp only[Act.put,sT,sS,sZ]
       refine wpN 23 rfl ?_;refine wpK 24 rfl ?_;refine wpD (NoPanic.normal ?_);have HU:=Qh hHeld.1;clear hHeld;go_wp2
       go_ret
       exact⟨by rw[hf.out];rfl,uH.trans HU.out⟩
   ·obtain rfl:k=txs.length:=by omega
    have hall1:=Qh hall.out;have hg0:=bH0.out.upd hu id;have g0':=hg0.cell 0;have g1':=hg0.cell 1;simp only[Qz,Qs]at g0' g1';have HW:=Qh (Zl1 F _ ⟨txs,ords,A,c,B,d⟩ (H.upd (uH.trans hu) (fun _ _=>id)) (by show txs.length≤4096;omega));clear hg0
    go_wp2_with fail
    refine(HW.out).mono ?_;rintro e w1 ⟨b,m,rfl,hb1,hb2,hmk,hms,hu1⟩;have bH1:=Qh ((bH0.out.upd hu id).upd hu1 id);have U1:=Qh ((uH.trans hu).trans hu1);have hln:=ZlA Tryz.underlying117 hms.is;have hml:m.length=(Zv txs []).length:=by rw[←hmk,List.length_map]
    have g1:=bH1.out.cell 1;simp only[Qz,Qs]at g1;have HMS:=Qh hms;have hln':=fun ty=>hln ty
    clear g0' g1' hms hmk hln hu1 hall
    by_cases hle:(Zv txs []).length=ords.length
    ·have hne:((m.length:Int) != (ords.length:Int))=false:=by rw[hml,hle];simp
     have hlb:=Qh (show((Zv (Hist.txs ⟨txs,ords,A,c,B,d⟩) []).length==(Hist.ords ⟨txs,ords,A,c,B,d⟩).length)=true by show((Zv txs []).length==ords.length)=true;rw[hle];simp);clear hml hle;go_wp2;clear hln' hne
     go_loopg [57] ords.length (fun gk i wr=>∃(k:Nat),k+gk=ords.length∧i= .int .i64 k∧Hid ((List.range k).all (ZbT txs ords)=true)∧Upd No w1 wr)
     case atStart=>exact⟨0,by omega,rfl,Qh rfl,Upd.refl No _⟩
     case round=>
      obtain⟨k,hgk,rfl,hall2,hu2⟩:=hrel
      by_cases hlt:k<ords.length
      ·have H1:=H.upd (U1.out.trans hu2) (fun _ _=>id);obtain⟨ad,hAd,q0,q1⟩:=H1.ord_at hlt;simp only at hAd q0 q1;have hx0:=H.ord ords[k] (List.getElem_mem hlt);obtain⟨x,hx⟩:∃x,ords[k]=x:=⟨_,rfl⟩;rw[hx]at q0 q1 hx0;subst hAd;have X:=Qh hx;have XL0:=Qh hx0;have b1:(0:Int)≤(k:Int):=Qn _;have b2:(k:Int)<(ords.length:Int):=by omega
       have uA:=(Upd.refl No wr).alloc (.cells #[.int .i64 x.key,.slice x.A x.txs.length x.c] 100);have bo:=Qh (Blk.new wr 100 [.int .i64 x.key,.slice x.A x.txs.length x.c]);have bH:=Qh ((bH1.out.upd hu2 id).upd uA id);have UA:=Qh (hu2.trans uA);obtain⟨Ar,cr,hrow,how⟩:=HMS.out.row x.key;have e1:=Zm ZcA Tryz.underlying117 Zj6 (HMS.out.is.upd UA.out.drew id) x.key;rw[hrow]at e1;have hIw:=Qh (Ints.of_own how);have hwl:=Qh (show(Zh txs x.key).length≤17592186044415 from Nat.le_trans (Zfh txs x.key) (by omega));clear hx hx0 hrow how;obtain⟨N,hN0⟩:∃N,Zfz x.txs (Zh txs x.key)=N:=⟨_,rfl⟩;have hN:=Qh hN0;have hok:=Qh (show ZbT txs ords k=(ZcH ords k x.key&& !x.txs.isEmpty&&N) by rw[ZlS hlt X.out,←ZlO,hN0]);clear hN0
       by_cases hk0:k=0
       ·have hah:=Qh (show ZcH ords k x.key=true by rw[hk0];rfl);have hkk:decide ((0:Int)<(k:Int))=false:=decide_eq_false (by omega);have hkn:decide (0<k)=false:=decide_eq_false (by omega);clear hk0 H1
        by_cases hE1:x.txs.length=0
        ·have hE0:x.txs=[]:=List.eq_nil_of_length_eq_zero hE1;have hf:=Qh (show Za ⟨txs,ords,A,c,some ad,d⟩=false from Zb2 (k:=k) hlt (by rw[hok.out,hE0];simp));have hEb:((x.txs.length:Int)==0)=true:=by rw[beq_iff_eq];omega
         clear hE1 hE0;have g1:=bH.out.cell 1;have k0:=bo.out.cell 0;have k1:=bo.out.cell 1;simp only[Qz,Qs]at g1 k0 k1;go_wp2;refine wp_region_noPanic ?_;refine wp_region_held_drew (S:=(fun w'=>Upd No w1 w'∧w'.cell? ⟨w.heap.size,1,none⟩=some (.slice (some ad) ords.length d)∧w'.cell? ⟨wr.heap.size,0,none⟩=some (.int .i64 x.key)∧w'.cell? ⟨wr.heap.size,1,none⟩=some (.slice x.A x.txs.length x.c))) (by kernel_rfl) ?_ (fun hHeld=> ?_)
         ·(first|exact⟨UA.out.drew,g1,k0,k1⟩|exact⟨hHeld.1.trans hu3,hu3.keepNo hHeld.2.1,hu3.keepNo hHeld.2.2.1,hu3.keepNo hHeld.2.2.2⟩)
         refine wpK 0 rfl ?_;refine wpK 1 rfl ?_;refine wpK 2 rfl ?_;refine wpN 3 rfl ?_;refine wpN 4 rfl ?_;refine wpN 5 rfl ?_;refine wpN 6 rfl ?_;refine wpN 7 rfl ?_;refine wpN 8 rfl ?_;refine wpN 9 rfl ?_;refine wpN 10 rfl ?_;refine wpN 11 rfl ?_;refine wpN 12 rfl ?_;refine wpK 13 rfl ?_;refine wpK 14 rfl ?_;refine wpK 15 rfl ?_;refine wpK 16 rfl ?_;refine wpK 17 rfl ?_;refine wpK 18 rfl ?_;refine wpK 19 rfl ?_;refine wpK 20 rfl ?_;refine wpN 21 rfl ?_;refine wpN 22 rfl ?_;refine wpN 23 rfl ?_;refine wpN 24 rfl ?_;refine wpN 25 rfl ?_;refine wpR [26] ?_;refine wpC rfl (fun K hK=> ?_) AllReadyH.nil;go_simp;refine hK.out _ _ ?_ (fun hHeld=> ?_)
         ·exact hHeld
         clear hK K
         try simp only[Act.put,sT,sS,sZ]
         refine wpR [27] ?_;refine wpC rfl (fun K hK=> ?_) AllReadyH.nil;go_simp;refine hK.out _ _ ?_ (fun hHeld=> ?_)
         ·exact hHeld
         clear hK K
         try simp only[Act.put,sT,sS,sZ]
         refine wpN 28 rfl ?_;refine wpK 29 rfl ?_;refine wpD (NoPanic.normal ?_);have HU:=Qh hHeld.1;clear hHeld;go_wp2
         go_ret
         exact⟨by rw[hf.out];rfl,U1.out.trans HU.out⟩
        ·have hE0:x.txs.isEmpty=false:=by
          cases hh:x.txs with
          |nil=>rw[hh]at hE1;exact absurd rfl hE1
          |cons a l=>rfl
         have hEb:((x.txs.length:Int)==0)=false:=by rw[beq_eq_false_iff_ne];omega
         have HE0:=Qh hE0;clear hE1 hE0
         cases N
         ·have hf:=Qh (show Za ⟨txs,ords,A,c,some ad,d⟩=false from Zb2 (k:=k) hlt (by rw[hok.out];simp));have g1:=bH.out.cell 1;have k0:=bo.out.cell 0;have k1:=bo.out.cell 1;simp only[Qz,Qs]at g1 k0 k1;go_wp2;refine wp_region_noPanic ?_;refine wp_region_held_drew (S:=(fun w'=>Upd No w1 w'∧w'.cell? ⟨w.heap.size,1,none⟩=some (.slice (some ad) ords.length d)∧w'.cell? ⟨wr.heap.size,0,none⟩=some (.int .i64 x.key)∧w'.cell? ⟨wr.heap.size,1,none⟩=some (.slice x.A x.txs.length x.c))) (by kernel_rfl) ?_ (fun hHeld=> ?_)
          ·(first|exact⟨UA.out.drew,g1,k0,k1⟩|exact⟨hHeld.1.trans hu3,hu3.keepNo hHeld.2.1,hu3.keepNo hHeld.2.2.1,hu3.keepNo hHeld.2.2.2⟩)
          refine wpK 0 rfl ?_;refine wpK 1 rfl ?_;refine wpK 2 rfl ?_;refine wpN 3 rfl ?_;refine wpN 4 rfl ?_;refine wpN 5 rfl ?_;refine wpN 6 rfl ?_;refine wpN 7 rfl ?_;refine wpN 8 rfl ?_;refine wpN 9 rfl ?_;refine wpN 10 rfl ?_;refine wpN 11 rfl ?_;refine wpN 12 rfl ?_;refine wpK 13 rfl ?_;refine wpK 14 rfl ?_;refine wpK 15 rfl ?_;refine wpK 16 rfl ?_;refine wpK 17 rfl ?_;refine wpK 18 rfl ?_;refine wpK 19 rfl ?_;refine wpK 20 rfl ?_;refine wpK 21 rfl ?_;refine wpK 22 rfl ?_;refine wpK 23 rfl ?_;refine wpK 24 rfl ?_;refine wpK 25 rfl ?_;refine wpR [26] ?_;refine wpC rfl (fun K hK=> ?_) AllReadyH.nil;go_simp;refine hK.out _ _ ?_ (fun hHeld=> ?_)
          ·(first|exact⟨UA.out.drew,g1,k0,k1⟩|exact⟨hHeld.1.trans hu3,hu3.keepNo hHeld.2.1,hu3.keepNo hHeld.2.2.1,hu3.keepNo hHeld.2.2.2⟩)
          clear hK K
          try simp only[Act.put,sT,sS,sZ]
          refine wpR [27] ?_;refine wpC rfl (fun K hK=> ?_) AllReadyH.nil;go_simp
          (first
  |(go_at_call 66;refine(ZfD (v:=false) (XL0.out.1.upd (U1.out.trans hHeld.1) (fun _ _=>id)) (hIw.out.upd hHeld.1 (fun _ _=>id)) XL0.out.2.2.1 hwl.out hN.out).mono ?_;rintro e w3 ⟨rfl,hu3⟩))
          try (go_wp2_with fail)
          refine hK.out _ _ ?_ (fun hHeld=> ?_)
          ·(first|exact⟨UA.out.drew,g1,k0,k1⟩|exact⟨hHeld.1.trans hu3,hu3.keepNo hHeld.2.1,hu3.keepNo hHeld.2.2.1,hu3.keepNo hHeld.2.2.2⟩)
          clear hK K
          try simp only[Act.put,sT,sS,sZ]
          refine wpK 28 rfl ?_;refine wpK 29 rfl ?_;refine wpD (NoPanic.normal ?_);have HU:=Qh hHeld.1;clear hHeld;go_wp2
          go_ret
          exact⟨by rw[hf.out];rfl,U1.out.trans HU.out⟩
         ·have HA:=Qh (Zbh hall2.out (by rw[hok.out,hah.out,HE0.out];rfl));have g1:=bH.out.cell 1;have k0:=bo.out.cell 0;have k1:=bo.out.cell 1;simp only[Qz,Qs]at g1 k0 k1;go_wp2;refine wp_region_noPanic ?_;refine wp_region_held_drew (S:=(fun w'=>Upd No w1 w'∧w'.cell? ⟨w.heap.size,1,none⟩=some (.slice (some ad) ords.length d)∧w'.cell? ⟨wr.heap.size,0,none⟩=some (.int .i64 x.key)∧w'.cell? ⟨wr.heap.size,1,none⟩=some (.slice x.A x.txs.length x.c))) (by kernel_rfl) ?_ (fun hHeld=> ?_)
          ·(first|exact⟨UA.out.drew,g1,k0,k1⟩|exact⟨hHeld.1.trans hu3,hu3.keepNo hHeld.2.1,hu3.keepNo hHeld.2.2.1,hu3.keepNo hHeld.2.2.2⟩)
          refine wpK 0 rfl ?_;refine wpK 1 rfl ?_;refine wpK 2 rfl ?_;refine wpN 3 rfl ?_;refine wpN 4 rfl ?_;refine wpN 5 rfl ?_;refine wpN 6 rfl ?_;refine wpN 7 rfl ?_;refine wpN 8 rfl ?_;refine wpN 9 rfl ?_;refine wpN 10 rfl ?_;refine wpN 11 rfl ?_;refine wpN 12 rfl ?_;refine wpK 13 rfl ?_;refine wpK 14 rfl ?_;refine wpK 15 rfl ?_;refine wpK 16 rfl ?_;refine wpK 17 rfl ?_;refine wpK 18 rfl ?_;refine wpK 19 rfl ?_;refine wpK 20 rfl ?_;refine wpK 21 rfl ?_;refine wpK 22 rfl ?_;refine wpK 23 rfl ?_;refine wpK 24 rfl ?_;refine wpK 25 rfl ?_;refine wpR [26] ?_;refine wpC rfl (fun K hK=> ?_) AllReadyH.nil;go_simp;refine hK.out _ _ ?_ (fun hHeld=> ?_)
          ·(first|exact⟨UA.out.drew,g1,k0,k1⟩|exact⟨hHeld.1.trans hu3,hu3.keepNo hHeld.2.1,hu3.keepNo hHeld.2.2.1,hu3.keepNo hHeld.2.2.2⟩)
          clear hK K
          try simp only[Act.put,sT,sS,sZ]
          refine wpR [27] ?_;refine wpC rfl (fun K hK=> ?_) AllReadyH.nil;go_simp
          (first
  |(go_at_call 66;refine(ZfD (v:=true) (XL0.out.1.upd (U1.out.trans hHeld.1) (fun _ _=>id)) (hIw.out.upd hHeld.1 (fun _ _=>id)) XL0.out.2.2.1 hwl.out hN.out).mono ?_;rintro e w3 ⟨rfl,hu3⟩))
          try (go_wp2_with fail)
          refine hK.out _ _ ?_ (fun hHeld=> ?_)
          ·(first|exact⟨UA.out.drew,g1,k0,k1⟩|exact⟨hHeld.1.trans hu3,hu3.keepNo hHeld.2.1,hu3.keepNo hHeld.2.2.1,hu3.keepNo hHeld.2.2.2⟩)
          clear hK K
          try simp only[Act.put,sT,sS,sZ]
          refine wpK 28 rfl ?_;refine wpK 29 rfl ?_;refine wpD (NoPanic.normal ?_);have HU:=Qh hHeld.1;clear hHeld;go_wp2
          go_roundg (gk-1)
          case measure=>omega
          case rel=>exact⟨k+1,by omega,by go_num,Qh HA.out,HU.out⟩
       ·obtain⟨ad2,hAd2,p0,_⟩:=H1.ord_at (k:=k-1) (show k-1<ords.length by omega);simp only at hAd2 p0
        cases hAd2
        obtain⟨y',hy'⟩:∃y',ords[k-1]'(by omega)=y':=⟨_,rfl⟩;rw[hy']at p0
        replace p0:=uA.keepNo p0
        have hkp:0<k:=by omega
        by_cases hordL:x.key≤y'.key
        ·have hf:=Qh (show Za ⟨txs,ords,A,c,some ad,d⟩=false from Zb2 (k:=k) hlt (by rw[hok.out,Zlj hkp hlt hy' x.key hordL];simp));obtain⟨y,hy⟩:∃y,y'.key=y:=⟨_,rfl⟩;rw[hy]at p0 hordL;clear hy hy' H1;have hge:decide (x.key≤y)=true:=decide_eq_true hordL;have hkk:decide ((0:Int)<(k:Int))=true:=decide_eq_true (by omega);have hkn:decide (0<k)=true:=decide_eq_true (by omega);have hw1:IntKind.i64.wrap ((k:Int)-1)=(k:Int)-1:=IntWalk.i64_in _ (by omega);have hw2:(0:Int)≤(k:Int)-1:=by omega
         have hw3:(1:Int)≤(k:Int):=by omega
         have hw4:(k:Int)-1<(ords.length:Int):=by omega
         have hw5:((k:Int)-1).toNat=k-1:=by omega
         have g1:=bH.out.cell 1;have k0:=bo.out.cell 0;have k1:=bo.out.cell 1;simp only[Qz,Qs]at g1 k0 k1;go_wp2;refine wp_region_noPanic ?_;refine wp_region_held_drew (S:=(fun w'=>Upd No w1 w'∧w'.cell? ⟨w.heap.size,1,none⟩=some (.slice (some ad) ords.length d)∧w'.cell? ⟨wr.heap.size,0,none⟩=some (.int .i64 x.key)∧w'.cell? ⟨wr.heap.size,1,none⟩=some (.slice x.A x.txs.length x.c)∧w'.cell? (ad.add ((k-1)*2))=some (.int .i64 y))) (by kernel_rfl) ?_ (fun hHeld=> ?_)
         ·(first|exact⟨UA.out.drew,g1,k0,k1,p0⟩|exact⟨hHeld.1.trans hu3,hu3.keepNo hHeld.2.1,hu3.keepNo hHeld.2.2.1,hu3.keepNo hHeld.2.2.2.1,hu3.keepNo hHeld.2.2.2.2⟩)
         refine wpK 0 rfl ?_;refine wpK 1 rfl ?_;refine wpK 2 rfl ?_;refine wpK 3 rfl ?_;refine wpK 4 rfl ?_;refine wpK 5 rfl ?_;refine wpK 6 rfl ?_;refine wpK 7 rfl ?_;refine wpK 8 rfl ?_;refine wpK 9 rfl ?_;refine wpK 10 rfl ?_;refine wpK 11 rfl ?_;refine wpK 12 rfl ?_;refine wpK 13 rfl ?_;refine wpK 14 rfl ?_;refine wpN 15 rfl ?_;refine wpN 16 rfl ?_;refine wpN 17 rfl ?_;refine wpN 18 rfl ?_;refine wpK 19 rfl ?_;refine wpK 20 rfl ?_;refine wpN 21 rfl ?_;refine wpN 22 rfl ?_;refine wpN 23 rfl ?_;refine wpN 24 rfl ?_;refine wpN 25 rfl ?_;refine wpR [26] ?_;refine wpC rfl (fun K hK=> ?_) AllReadyH.nil;go_simp;refine hK.out _ _ ?_ (fun hHeld=> ?_)
         ·exact hHeld
         clear hK K
         try simp only[Act.put,sT,sS,sZ]
         refine wpR [27] ?_;refine wpC rfl (fun K hK=> ?_) AllReadyH.nil;go_simp;refine hK.out _ _ ?_ (fun hHeld=> ?_)
         ·exact hHeld
         clear hK K
         try simp only[Act.put,sT,sS,sZ]
         refine wpN 28 rfl ?_;refine wpK 29 rfl ?_;refine wpD (NoPanic.normal ?_);have HU:=Qh hHeld.1;clear hHeld;go_wp2
         go_ret
         exact⟨by rw[hf.out];rfl,U1.out.trans HU.out⟩
        ·have hah:=Qh (show ZcH ords k x.key=true from Zj1 hkp hlt hy' x.key (by omega));obtain⟨y,hy⟩:∃y,y'.key=y:=⟨_,rfl⟩;rw[hy]at p0 hordL;clear hy hy' H1;have hge:decide (x.key≤y)=false:=decide_eq_false hordL;have hkk:decide ((0:Int)<(k:Int))=true:=decide_eq_true (by omega);have hkn:decide (0<k)=true:=decide_eq_true (by omega);have hw1:IntKind.i64.wrap ((k:Int)-1)=(k:Int)-1:=IntWalk.i64_in _ (by omega);have hw2:(0:Int)≤(k:Int)-1:=by omega
         have hw3:(1:Int)≤(k:Int):=by omega
         have hw4:(k:Int)-1<(ords.length:Int):=by omega
         have hw5:((k:Int)-1).toNat=k-1:=by omega
         by_cases hE1:x.txs.length=0
         ·have hE0:x.txs=[]:=List.eq_nil_of_length_eq_zero hE1;have hf:=Qh (show Za ⟨txs,ords,A,c,some ad,d⟩=false from Zb2 (k:=k) hlt (by rw[hok.out,hE0];simp));have hEb:((x.txs.length:Int)==0)=true:=by rw[beq_iff_eq];omega
          clear hE1 hE0;have g1:=bH.out.cell 1;have k0:=bo.out.cell 0;have k1:=bo.out.cell 1;simp only[Qz,Qs]at g1 k0 k1;go_wp2;refine wp_region_noPanic ?_;refine wp_region_held_drew (S:=(fun w'=>Upd No w1 w'∧w'.cell? ⟨w.heap.size,1,none⟩=some (.slice (some ad) ords.length d)∧w'.cell? ⟨wr.heap.size,0,none⟩=some (.int .i64 x.key)∧w'.cell? ⟨wr.heap.size,1,none⟩=some (.slice x.A x.txs.length x.c)∧w'.cell? (ad.add ((k-1)*2))=some (.int .i64 y))) (by kernel_rfl) ?_ (fun hHeld=> ?_)
          ·(first|exact⟨UA.out.drew,g1,k0,k1,p0⟩|exact⟨hHeld.1.trans hu3,hu3.keepNo hHeld.2.1,hu3.keepNo hHeld.2.2.1,hu3.keepNo hHeld.2.2.2.1,hu3.keepNo hHeld.2.2.2.2⟩)
          refine wpK 0 rfl ?_;refine wpK 1 rfl ?_;refine wpK 2 rfl ?_;refine wpK 3 rfl ?_;refine wpK 4 rfl ?_;refine wpK 5 rfl ?_;refine wpK 6 rfl ?_;refine wpK 7 rfl ?_;refine wpK 8 rfl ?_;refine wpK 9 rfl ?_;refine wpK 10 rfl ?_;refine wpK 11 rfl ?_;refine wpK 12 rfl ?_;refine wpK 13 rfl ?_;refine wpK 14 rfl ?_;refine wpK 15 rfl ?_;refine wpK 16 rfl ?_;refine wpK 17 rfl ?_;refine wpK 18 rfl ?_;refine wpK 19 rfl ?_;refine wpK 20 rfl ?_;refine wpN 21 rfl ?_;refine wpN 22 rfl ?_;refine wpN 23 rfl ?_;refine wpN 24 rfl ?_;refine wpN 25 rfl ?_;refine wpR [26] ?_;refine wpC rfl (fun K hK=> ?_) AllReadyH.nil;go_simp;refine hK.out _ _ ?_ (fun hHeld=> ?_)
          ·exact hHeld
          clear hK K
          try simp only[Act.put,sT,sS,sZ]
          refine wpR [27] ?_;refine wpC rfl (fun K hK=> ?_) AllReadyH.nil;go_simp;refine hK.out _ _ ?_ (fun hHeld=> ?_)
          ·exact hHeld
          clear hK K
          try simp only[Act.put,sT,sS,sZ]
          refine wpN 28 rfl ?_;refine wpK 29 rfl ?_;refine wpD (NoPanic.normal ?_);have HU:=Qh hHeld.1;clear hHeld;go_wp2
          go_ret
          exact⟨by rw[hf.out];rfl,U1.out.trans HU.out⟩
         ·have hE0:x.txs.isEmpty=false:=by
           cases hh:x.txs with
           |nil=>rw[hh]at hE1;exact absurd rfl hE1
           |cons a l=>rfl
          have hEb:((x.txs.length:Int)==0)=false:=by rw[beq_eq_false_iff_ne];omega
          have HE0:=Qh hE0;clear hE1 hE0
          cases N
          ·have hf:=Qh (show Za ⟨txs,ords,A,c,some ad,d⟩=false from Zb2 (k:=k) hlt (by rw[hok.out];simp));have g1:=bH.out.cell 1;have k0:=bo.out.cell 0;have k1:=bo.out.cell 1;simp only[Qz,Qs]at g1 k0 k1;go_wp2;refine wp_region_noPanic ?_;refine wp_region_held_drew (S:=(fun w'=>Upd No w1 w'∧w'.cell? ⟨w.heap.size,1,none⟩=some (.slice (some ad) ords.length d)∧w'.cell? ⟨wr.heap.size,0,none⟩=some (.int .i64 x.key)∧w'.cell? ⟨wr.heap.size,1,none⟩=some (.slice x.A x.txs.length x.c)∧w'.cell? (ad.add ((k-1)*2))=some (.int .i64 y))) (by kernel_rfl) ?_ (fun hHeld=> ?_)
           ·(first|exact⟨UA.out.drew,g1,k0,k1,p0⟩|exact⟨hHeld.1.trans hu3,hu3.keepNo hHeld.2.1,hu3.keepNo hHeld.2.2.1,hu3.keepNo hHeld.2.2.2.1,hu3.keepNo hHeld.2.2.2.2⟩)
           refine wpK 0 rfl ?_;refine wpK 1 rfl ?_;refine wpK 2 rfl ?_;refine wpK 3 rfl ?_;refine wpK 4 rfl ?_;refine wpK 5 rfl ?_;refine wpK 6 rfl ?_;refine wpK 7 rfl ?_;refine wpK 8 rfl ?_;refine wpK 9 rfl ?_;refine wpK 10 rfl ?_;refine wpK 11 rfl ?_;refine wpK 12 rfl ?_;refine wpK 13 rfl ?_;refine wpK 14 rfl ?_;refine wpK 15 rfl ?_;refine wpK 16 rfl ?_;refine wpK 17 rfl ?_;refine wpK 18 rfl ?_;refine wpK 19 rfl ?_;refine wpK 20 rfl ?_;refine wpK 21 rfl ?_;refine wpK 22 rfl ?_;refine wpK 23 rfl ?_;refine wpK 24 rfl ?_;refine wpK 25 rfl ?_;refine wpR [26] ?_;refine wpC rfl (fun K hK=> ?_) AllReadyH.nil;go_simp;refine hK.out _ _ ?_ (fun hHeld=> ?_)
           ·(first|exact⟨UA.out.drew,g1,k0,k1,p0⟩|exact⟨hHeld.1.trans hu3,hu3.keepNo hHeld.2.1,hu3.keepNo hHeld.2.2.1,hu3.keepNo hHeld.2.2.2.1,hu3.keepNo hHeld.2.2.2.2⟩)
           clear hK K
           try simp only[Act.put,sT,sS,sZ]
           refine wpR [27] ?_;refine wpC rfl (fun K hK=> ?_) AllReadyH.nil;go_simp
           (first
  |(go_at_call 66;refine(ZfD (v:=false) (XL0.out.1.upd (U1.out.trans hHeld.1) (fun _ _=>id)) (hIw.out.upd hHeld.1 (fun _ _=>id)) XL0.out.2.2.1 hwl.out hN.out).mono ?_;rintro e w3 ⟨rfl,hu3⟩))
           try (go_wp2_with fail)
           refine hK.out _ _ ?_ (fun hHeld=> ?_)
           ·(first|exact⟨UA.out.drew,g1,k0,k1,p0⟩|exact⟨hHeld.1.trans hu3,hu3.keepNo hHeld.2.1,hu3.keepNo hHeld.2.2.1,hu3.keepNo hHeld.2.2.2.1,hu3.keepNo hHeld.2.2.2.2⟩)
           clear hK K
           try simp only[Act.put,sT,sS,sZ]
           refine wpK 28 rfl ?_;refine wpK 29 rfl ?_;refine wpD (NoPanic.normal ?_);have HU:=Qh hHeld.1;clear hHeld;go_wp2
           go_ret
           exact⟨by rw[hf.out];rfl,U1.out.trans HU.out⟩
          ·have HA:=Qh (Zbh hall2.out (by rw[hok.out,hah.out,HE0.out];rfl));have g1:=bH.out.cell 1;have k0:=bo.out.cell 0;have k1:=bo.out.cell 1;simp only[Qz,Qs]at g1 k0 k1;go_wp2;refine wp_region_noPanic ?_;refine wp_region_held_drew (S:=(fun w'=>Upd No w1 w'∧w'.cell? ⟨w.heap.size,1,none⟩=some (.slice (some ad) ords.length d)∧w'.cell? ⟨wr.heap.size,0,none⟩=some (.int .i64 x.key)∧w'.cell? ⟨wr.heap.size,1,none⟩=some (.slice x.A x.txs.length x.c)∧w'.cell? (ad.add ((k-1)*2))=some (.int .i64 y))) (by kernel_rfl) ?_ (fun hHeld=> ?_)
           ·(first|exact⟨UA.out.drew,g1,k0,k1,p0⟩|exact⟨hHeld.1.trans hu3,hu3.keepNo hHeld.2.1,hu3.keepNo hHeld.2.2.1,hu3.keepNo hHeld.2.2.2.1,hu3.keepNo hHeld.2.2.2.2⟩)
           refine wpK 0 rfl ?_;refine wpK 1 rfl ?_;refine wpK 2 rfl ?_;refine wpK 3 rfl ?_;refine wpK 4 rfl ?_;refine wpK 5 rfl ?_;refine wpK 6 rfl ?_;refine wpK 7 rfl ?_;refine wpK 8 rfl ?_;refine wpK 9 rfl ?_;refine wpK 10 rfl ?_;refine wpK 11 rfl ?_;refine wpK 12 rfl ?_;refine wpK 13 rfl ?_;refine wpK 14 rfl ?_;refine wpK 15 rfl ?_;refine wpK 16 rfl ?_;refine wpK 17 rfl ?_;refine wpK 18 rfl ?_;refine wpK 19 rfl ?_;refine wpK 20 rfl ?_;refine wpK 21 rfl ?_;refine wpK 22 rfl ?_;refine wpK 23 rfl ?_;refine wpK 24 rfl ?_;refine wpK 25 rfl ?_;refine wpR [26] ?_;refine wpC rfl (fun K hK=> ?_) AllReadyH.nil;go_simp;refine hK.out _ _ ?_ (fun hHeld=> ?_)
           ·(first|exact⟨UA.out.drew,g1,k0,k1,p0⟩|exact⟨hHeld.1.trans hu3,hu3.keepNo hHeld.2.1,hu3.keepNo hHeld.2.2.1,hu3.keepNo hHeld.2.2.2.1,hu3.keepNo hHeld.2.2.2.2⟩)
           clear hK K
           try simp only[Act.put,sT,sS,sZ]
           refine wpR [27] ?_;refine wpC rfl (fun K hK=> ?_) AllReadyH.nil;go_simp
           (first
  |(go_at_call 66;refine(ZfD (v:=true) (XL0.out.1.upd (U1.out.trans hHeld.1) (fun _ _=>id)) (hIw.out.upd hHeld.1 (fun _ _=>id)) XL0.out.2.2.1 hwl.out hN.out).mono ?_;rintro e w3 ⟨rfl,hu3⟩))
           try (go_wp2_with fail)
           refine hK.out _ _ ?_ (fun hHeld=> ?_)
           ·(first|exact⟨UA.out.drew,g1,k0,k1,p0⟩|exact⟨hHeld.1.trans hu3,hu3.keepNo hHeld.2.1,hu3.keepNo hHeld.2.2.1,hu3.keepNo hHeld.2.2.2.1,hu3.keepNo hHeld.2.2.2.2⟩)
           clear hK K
           try simp only[Act.put,sT,sS,sZ]
           refine wpK 28 rfl ?_;refine wpK 29 rfl ?_;refine wpD (NoPanic.normal ?_);have HU:=Qh hHeld.1;clear hHeld;go_wp2
           go_roundg (gk-1)
           case measure=>omega
           case rel=>exact⟨k+1,by omega,by go_num,Qh HA.out,HU.out⟩
      ·obtain rfl:k=ords.length:=by omega
       have hv:=Qh (Zkh (h:=⟨txs,ords,A,c,B,d⟩) (by show txs.length≤4096;omega) hall1.out hlb.out hall2.out);go_wp2
       go_ret
       exact⟨by rw[hv.out];rfl,U1.out.trans hu2⟩
    ·have hne:((m.length:Int) != (ords.length:Int))=true:=by rw[hml,bne_iff_ne];omega
     have hf:=Qh (show Za ⟨txs,ords,A,c,B,d⟩=false from Zkj (by show((Zv txs []).length==ords.length)=false;rw[beq_eq_false_iff_ne];exact hle));clear hml hle;go_wp2
     go_ret
     exact⟨by rw[hf.out];rfl,U1.out⟩
end
end Go.Proofs.YtblplapkdmhikaaGreat
