/- Whether a history is right. -/
import Derived.Test.YtonblekdfinpkaaGreatWqap
import Derived.Test.YtonblekdfinpkaaGreatWqaw
import Derived.Test.YtonblekdfinpkaaGreatWqay
import Derived.Test.YtonblekdfinpkaaGreatWqbf
import Derived.Test.YtonblekdfinpkaaGreatWqbg
namespace Go.Proofs.YtonblekdfinpkaaGreat
set_option linter.unusedVariables false
set_option linter.unusedSimpArgs false
section
open Go.RowKit
theorem Zgk {p:Nat→Bool} {n k:Nat} (hk:k<n) (h:p k=false):(List.range n).all p=false:=by
 rw[List.all_eq_false];exact⟨k,List.mem_range.2 hk,by simp[h]⟩
theorem Zca {p:Nat→Bool} {k:Nat} (h:(List.range k).all p=true) (hk:p k=true):(List.range (k+1)).all p=true:=by
 rw[List.range_succ,List.all_append,h];simp[hk]
section
variable {h:Hist} {k:Nat}
theorem ZdX (hk:k<h.txs.length) (ht:Zev h.txs k=false):Zc h=false:=by
 unfold Zc;rw[Zgk hk ht];simp
theorem Zdi (hk:k<h.ords.length) (ht:Zc7 h.txs h.ords k=false):Zc h=false:=by
 unfold Zc;rw[Zgk hk ht];simp
theorem Zob (hl:((Zae h.txs []).length==h.ords.length)=false):Zc h=false:=by
 unfold Zc;rw[hl];simp
theorem ZhK (hl:4096<h.txs.length):Zc h=false:=by
 unfold Zc;rw[decide_eq_false (by omega)];simp
theorem Zn9 (h1:h.txs.length≤4096) (h2:(List.range h.txs.length).all (Zev h.txs)=true) (h3:((Zae h.txs []).length==h.ords.length)=true) (h4:(List.range h.ords.length).all (Zc7 h.txs h.ords)=true):Zc h=true:=by
 unfold Zc;rw[decide_eq_true h1,h2,h3,h4];rfl
end
section
variable {txs:List HTx} {k:Nat} {x:HTx}
def Zee (txs:List HTx) (k:Nat) (id:Int):Bool:=match k with|0=>true|j+1=>(match txs[j]? with|some u=>decide (u.id<id)|none=>true)
theorem Zrf (hk:k<txs.length) (hx:txs[k]=x):Zev txs k=(Zee txs k x.id&&ZaF x.id x.ops==0&&ZbI txs x.id x.ops):=by
 unfold Zev Zee;rw[Qg hk,hx]
 cases k<;>rfl
theorem ZqH {y:HTx} (hk:0<k) (hk2:k<txs.length) (hy:txs[k-1]'(by omega)=y) (id:Int) (h:id≤y.id):Zee txs k id=false:=by
 obtain⟨j,rfl⟩:∃j,k=j+1:=⟨k-1,by omega⟩;simp only[Nat.add_sub_cancel]at hy
 show(match txs[j]? with|some u=>decide (u.id<id)|none=>true)=_
 rw[Qg (by omega),hy];simp only[decide_eq_false_iff_not];omega
theorem Zpf {y:HTx} (hk:0<k) (hk2:k<txs.length) (hy:txs[k-1]'(by omega)=y) (id:Int) (h:y.id<id):Zee txs k id=true:=by
 obtain⟨j,rfl⟩:∃j,k=j+1:=⟨k-1,by omega⟩;simp only[Nat.add_sub_cancel]at hy
 show(match txs[j]? with|some u=>decide (u.id<id)|none=>true)=_
 rw[Qg (by omega),hy];simp only[decide_eq_true_eq];omega
end
section
variable {txs:List HTx} {ords:List HOrd} {k:Nat} {x:HOrd}
def Zed (ords:List HOrd) (k:Nat) (key:Int):Bool:=match k with|0=>true|j+1=>(match ords[j]? with|some u=>decide (u.key<key)|none=>true)
theorem ZpZ (hk:k<ords.length) (hx:ords[k]=x):Zc7 txs ords k=(Zed ords k x.key&& !x.txs.isEmpty&&(Zbi x.txs==Zbi (Zr txs x.key))):=by
 unfold Zc7 Zed;rw[Qg hk,hx]
 cases k<;>rfl
theorem Zpg {y:HOrd} (hk:0<k) (hk2:k<ords.length) (hy:ords[k-1]'(by omega)=y) (key:Int) (h:key≤y.key):Zed ords k key=false:=by
 obtain⟨j,rfl⟩:∃j,k=j+1:=⟨k-1,by omega⟩;simp only[Nat.add_sub_cancel]at hy
 show(match ords[j]? with|some u=>decide (u.key<key)|none=>true)=_
 rw[Qg (by omega),hy];simp only[decide_eq_false_iff_not];omega
theorem ZnH {y:HOrd} (hk:0<k) (hk2:k<ords.length) (hy:ords[k-1]'(by omega)=y) (key:Int) (h:y.key<key):Zed ords k key=true:=by
 obtain⟨j,rfl⟩:∃j,k=j+1:=⟨k-1,by omega⟩;simp only[Nat.add_sub_cancel]at hy
 show(match ords[j]? with|some u=>decide (u.key<key)|none=>true)=_
 rw[Qg (by omega),hy];simp only[decide_eq_true_eq];omega
end
theorem ZpT (a b:List Int):ZhO a b=(Zbi a==Zbi b):=by unfold ZhO;rw[ZgU,ZgU]
section
variable {F:Nat→Prop} {w:World} {i0:Int} {dn:Bool} {A:Option Addr} {c:Nat} {l:List HOp}
theorem ZdK {v:Int} (h:HOps F w A l) (hl:ZM l.length) (hv:ZaF i0 l=v):Calls Tryz.prog 90 #[.agg #[.int .i64 i0,.bool dn,.slice A l.length c]] w fun e w'=>e= .returned (.int .i64 v)∧Upd No w w':=by subst hv;exact Zr9 F w i0 dn A c l h hl
theorem Zfp {v:Bool} {txs:List HTx} {ords:List HOrd} {A' B:Option Addr} {c' d:Nat} (H:Hist.lies F w ⟨txs,ords,A',c',B,d⟩) (h:HOps F w A l) (hl:ZM l.length) (hv:ZbI txs i0 l=v):
  Calls Tryz.prog 91 #[.agg #[.slice A' txs.length c',.slice B ords.length d],.agg #[.int .i64 i0,.bool dn,.slice A l.length c]] w fun e w'=>e= .returned (.bool v)∧Upd No w w':=by subst hv;exact ZrJ F w ⟨txs,ords,A',c',B,d⟩ i0 dn A c l H h hl
end
theorem ZhS {F G:Nat→Prop} {w:World} {A B:Option Addr} {c d:Nat} {a b:List Int} {v:Bool} (ha:Ints F w A a) (hb:Ints G w B b) (hl:a.length≤17592186044415) (hl2:b.length≤17592186044415) (hv:ZhO a b=v):
  Calls Tryz.prog 73 #[.slice A a.length c,.slice B b.length d] w fun e w'=>e= .returned (.bool v)∧Upd No w w':=by subst hv;exact Ztn F G w A B c d a b ha hb hl hl2
set_option maxRecDepth 100000 in
set_option maxHeartbeats 8000000 in
theorem ZoN (F:Nat→Prop) (w:World) (h:Hist) (H:h.lies F w):Calls Tryz.prog 41 #[h.val] w fun e w'=>e= .returned (.bool (Zc h))∧Upd No w w':=by
 obtain⟨txs,ords,A,c,B,d⟩:=h;have hft:=H.few;have hfo:=H.fewo;simp only at hft hfo;unfold Hist.val;have uH:=(Upd.refl No w).alloc (.cells #[.slice A txs.length c,.slice B ords.length d] 50)
 by_cases hmany:4096<txs.length
 ·have hv:=Qh (ZhK (h:=⟨txs,ords,A,c,B,d⟩) hmany)
  go_enter Tryz.func41,Tryz.ntmps41
  go_wp2
  go_ret
  exact⟨by rw[hv.out];rfl,uH⟩
 ·have hmb:decide ((4096:Int)<(txs.length:Int))=false:=decide_eq_false (by omega);have bH0:=Qh (Blk.new w 50 [.slice A txs.length c,.slice B ords.length d])
  go_enter Tryz.func41,Tryz.ntmps41
  go_wp2
  go_loopg [15] txs.length (fun gk i wr=>∃(k:Nat),k+gk=txs.length∧i= .int .i64 k∧Hid ((List.range k).all (Zev txs)=true)∧Upd No (w.alloc (.cells #[.slice A txs.length c,.slice B ords.length d] 50)) wr)
  case atStart=>exact⟨0,by omega,rfl,Qh rfl,Upd.refl No _⟩
  case round=>
   obtain⟨k,hgk,rfl,hall,hu⟩:=hrel
   by_cases hlt:k<txs.length
   ·have H1:=H.upd (uH.trans hu) (fun _ _=>id);obtain⟨ad,hAd,q0,q1,q2⟩:=H1.tx_at hlt;simp only at hAd q0 q1 q2;have hx0:=H.tx txs[k] (List.getElem_mem hlt);have hx1:=H1.tx txs[k] (List.getElem_mem hlt);obtain⟨x,hx⟩:∃x,txs[k]=x:=⟨_,rfl⟩;rw[hx]at q0 q1 q2 hx1 hx0;subst hAd;have X:=Qh hx;have XL:=Qh hx1;have XL0:=Qh hx0;have b1:(0:Int)≤(k:Int):=Qn _;have b2:(k:Int)<(txs.length:Int):=by omega
    have uA:=(Upd.refl No wr).alloc (.cells #[.int .i64 x.id,.bool x.done,.slice x.A x.ops.length x.c] 85);have bo:=Qh (Blk.new wr 85 [.int .i64 x.id,.bool x.done,.slice x.A x.ops.length x.c]);have bH:=Qh ((bH0.out.upd hu id).upd uA id);have UA:=Qh (hu.trans uA);clear hx hx1 hx0;obtain⟨E,hE0⟩:∃E,ZaF x.id x.ops=E:=⟨_,rfl⟩;obtain⟨N,hN0⟩:∃N,ZbI txs x.id x.ops=N:=⟨_,rfl⟩;have hE:=Qh hE0;have hN:=Qh hN0;have hok:=Qh (show Zev txs k=(Zee txs k x.id&&E==0&&N) by rw[Zrf hlt X.out,hE0,hN0]);clear hE0 hN0
    by_cases hk0:k=0
    ·have hah:=Qh (show Zee txs k x.id=true by rw[hk0];rfl);have hkk:decide ((0:Int)<(k:Int))=false:=decide_eq_false (by omega);have hkn:decide (0<k)=false:=decide_eq_false (by omega);clear hk0 H1
     by_cases hE1:E=0
     ·subst hE1
      cases N
      ·have hf:=Qh (show Zc ⟨txs,ords,some ad,c,B,d⟩=false from ZdX (k:=k) hlt (by rw[hok.out];simp));have g0:=bH.out.cell 0;have g1:=bH.out.cell 1;have k0:=bo.out.cell 0;have k1:=bo.out.cell 1;have k2:=bo.out.cell 2;simp only[Qz,Qs]at g0 g1 k0 k1 k2;go_wp2;refine wp_region_noPanic ?_;refine wp_region_held_drew (S:=(fun w'=>Upd No (w.alloc (.cells #[.slice (some ad) txs.length c,.slice B ords.length d] 50)) w'∧w'.cell? ⟨w.heap.size,0,none⟩=some (.slice (some ad) txs.length c)∧w'.cell? ⟨w.heap.size,1,none⟩=some (.slice B ords.length d)∧w'.cell? ⟨wr.heap.size,0,none⟩=some (.int .i64 x.id)∧w'.cell? ⟨wr.heap.size,1,none⟩=some (.bool x.done)∧w'.cell? ⟨wr.heap.size,2,none⟩=some (.slice x.A x.ops.length x.c))) (by kernel_rfl) ?_ (fun hHeld=> ?_)
       ·(first|exact⟨UA.out.drew,g0,g1,k0,k1,k2⟩|exact⟨hHeld.1.trans hu3,hu3.keepNo hHeld.2.1,hu3.keepNo hHeld.2.2.1,hu3.keepNo hHeld.2.2.2.1,hu3.keepNo hHeld.2.2.2.2.1,hu3.keepNo hHeld.2.2.2.2.2⟩)
       refine wpK 0 rfl ?_;refine wpK 1 rfl ?_;refine wpK 2 rfl ?_;refine wpN 3 rfl ?_;refine wpN 4 rfl ?_;refine wpN 5 rfl ?_;refine wpN 6 rfl ?_;refine wpN 7 rfl ?_;refine wpN 8 rfl ?_;refine wpN 9 rfl ?_;refine wpN 10 rfl ?_;refine wpN 11 rfl ?_;refine wpN 12 rfl ?_;refine wpK 13 rfl ?_;refine wpK 14 rfl ?_;refine wpK 15 rfl ?_;refine wpR [16] ?_;refine wpC rfl (fun K hK=> ?_) AllReadyH.nil;go_simp
       (first
  |(go_at_call 90;refine(ZdK (F:=F) (v:=0) (HOps.upd XL0.out.1 (uH.trans hHeld.1) (fun _ _=>id)) XL.out.2.2.1 hE.out).mono ?_;rintro e w3 ⟨rfl,hu3⟩))
       try (go_wp2_with fail)
       refine hK.out _ _ ?_ (fun hHeld=> ?_)
       ·(first|exact⟨UA.out.drew,g0,g1,k0,k1,k2⟩|exact⟨hHeld.1.trans hu3,hu3.keepNo hHeld.2.1,hu3.keepNo hHeld.2.2.1,hu3.keepNo hHeld.2.2.2.1,hu3.keepNo hHeld.2.2.2.2.1,hu3.keepNo hHeld.2.2.2.2.2⟩)
       clear hK K
       try simp only[Act.put,sT,sS,sZ]
       refine wpK 17 rfl ?_;refine wpK 18 rfl ?_;refine wpK 19 rfl ?_;refine wpK 20 rfl ?_;refine wpK 21 rfl ?_;refine wpR [22] ?_;refine wpC rfl (fun K hK=> ?_) AllReadyH.nil;go_simp
       (first
  |(go_at_call 91;refine(Zfp (F:=F) (v:=false) (H.upd (uH.trans hHeld.1) (fun _ _=>id)) (HOps.upd XL0.out.1 (uH.trans hHeld.1) (fun _ _=>id)) XL.out.2.2.1 hN.out).mono ?_;rintro e w3 ⟨rfl,hu3⟩))
       try (go_wp2_with fail)
       refine hK.out _ _ ?_ (fun hHeld=> ?_)
       ·(first|exact⟨UA.out.drew,g0,g1,k0,k1,k2⟩|exact⟨hHeld.1.trans hu3,hu3.keepNo hHeld.2.1,hu3.keepNo hHeld.2.2.1,hu3.keepNo hHeld.2.2.2.1,hu3.keepNo hHeld.2.2.2.2.1,hu3.keepNo hHeld.2.2.2.2.2⟩)
       clear hK K
       try simp only[Act.put,sT,sS,sZ]
       refine wpK 23 rfl ?_;refine wpK 24 rfl ?_;refine wpD (NoPanic.normal ?_);have HU:=Qh hHeld.1;clear hHeld;go_wp2
       go_ret
       exact⟨by rw[hf.out];rfl,uH.trans HU.out⟩
      ·have HA:=Qh (Zca hall.out (by rw[hok.out,hah.out];rfl));have g0:=bH.out.cell 0;have g1:=bH.out.cell 1;have k0:=bo.out.cell 0;have k1:=bo.out.cell 1;have k2:=bo.out.cell 2;simp only[Qz,Qs]at g0 g1 k0 k1 k2;go_wp2;refine wp_region_noPanic ?_;refine wp_region_held_drew (S:=(fun w'=>Upd No (w.alloc (.cells #[.slice (some ad) txs.length c,.slice B ords.length d] 50)) w'∧w'.cell? ⟨w.heap.size,0,none⟩=some (.slice (some ad) txs.length c)∧w'.cell? ⟨w.heap.size,1,none⟩=some (.slice B ords.length d)∧w'.cell? ⟨wr.heap.size,0,none⟩=some (.int .i64 x.id)∧w'.cell? ⟨wr.heap.size,1,none⟩=some (.bool x.done)∧w'.cell? ⟨wr.heap.size,2,none⟩=some (.slice x.A x.ops.length x.c))) (by kernel_rfl) ?_ (fun hHeld=> ?_)
       ·(first|exact⟨UA.out.drew,g0,g1,k0,k1,k2⟩|exact⟨hHeld.1.trans hu3,hu3.keepNo hHeld.2.1,hu3.keepNo hHeld.2.2.1,hu3.keepNo hHeld.2.2.2.1,hu3.keepNo hHeld.2.2.2.2.1,hu3.keepNo hHeld.2.2.2.2.2⟩)
       refine wpK 0 rfl ?_;refine wpK 1 rfl ?_;refine wpK 2 rfl ?_;refine wpN 3 rfl ?_;refine wpN 4 rfl ?_;refine wpN 5 rfl ?_;refine wpN 6 rfl ?_;refine wpN 7 rfl ?_;refine wpN 8 rfl ?_;refine wpN 9 rfl ?_;refine wpN 10 rfl ?_;refine wpN 11 rfl ?_;refine wpN 12 rfl ?_;refine wpK 13 rfl ?_;refine wpK 14 rfl ?_;refine wpK 15 rfl ?_;refine wpR [16] ?_;refine wpC rfl (fun K hK=> ?_) AllReadyH.nil;go_simp
       (first
  |(go_at_call 90;refine(ZdK (F:=F) (v:=0) (HOps.upd XL0.out.1 (uH.trans hHeld.1) (fun _ _=>id)) XL.out.2.2.1 hE.out).mono ?_;rintro e w3 ⟨rfl,hu3⟩))
       try (go_wp2_with fail)
       refine hK.out _ _ ?_ (fun hHeld=> ?_)
       ·(first|exact⟨UA.out.drew,g0,g1,k0,k1,k2⟩|exact⟨hHeld.1.trans hu3,hu3.keepNo hHeld.2.1,hu3.keepNo hHeld.2.2.1,hu3.keepNo hHeld.2.2.2.1,hu3.keepNo hHeld.2.2.2.2.1,hu3.keepNo hHeld.2.2.2.2.2⟩)
       clear hK K
       try simp only[Act.put,sT,sS,sZ]
       refine wpK 17 rfl ?_;refine wpK 18 rfl ?_;refine wpK 19 rfl ?_;refine wpK 20 rfl ?_;refine wpK 21 rfl ?_;refine wpR [22] ?_;refine wpC rfl (fun K hK=> ?_) AllReadyH.nil;go_simp
       (first
  |(go_at_call 91;refine(Zfp (F:=F) (v:=true) (H.upd (uH.trans hHeld.1) (fun _ _=>id)) (HOps.upd XL0.out.1 (uH.trans hHeld.1) (fun _ _=>id)) XL.out.2.2.1 hN.out).mono ?_;rintro e w3 ⟨rfl,hu3⟩))
       try (go_wp2_with fail)
       refine hK.out _ _ ?_ (fun hHeld=> ?_)
       ·(first|exact⟨UA.out.drew,g0,g1,k0,k1,k2⟩|exact⟨hHeld.1.trans hu3,hu3.keepNo hHeld.2.1,hu3.keepNo hHeld.2.2.1,hu3.keepNo hHeld.2.2.2.1,hu3.keepNo hHeld.2.2.2.2.1,hu3.keepNo hHeld.2.2.2.2.2⟩)
       clear hK K
       try simp only[Act.put,sT,sS,sZ]
       refine wpK 23 rfl ?_;refine wpK 24 rfl ?_;refine wpD (NoPanic.normal ?_);have HU:=Qh hHeld.1;clear hHeld;go_wp2
       go_roundg (gk-1)
       case measure=>omega
       case rel=>exact⟨k+1,by omega,by go_num,Qh HA.out,HU.out⟩
     ·have hEb:(E != 0)=true:=by simpa using hE1
      have hf:=Qh (show Zc ⟨txs,ords,some ad,c,B,d⟩=false from ZdX (k:=k) hlt (by rw[hok.out,beq_eq_false_iff_ne.2 hE1];simp));clear hE1;have g0:=bH.out.cell 0;have g1:=bH.out.cell 1;have k0:=bo.out.cell 0;have k1:=bo.out.cell 1;have k2:=bo.out.cell 2;simp only[Qz,Qs]at g0 g1 k0 k1 k2;go_wp2;refine wp_region_noPanic ?_;refine wp_region_held_drew (S:=(fun w'=>Upd No (w.alloc (.cells #[.slice (some ad) txs.length c,.slice B ords.length d] 50)) w'∧w'.cell? ⟨w.heap.size,0,none⟩=some (.slice (some ad) txs.length c)∧w'.cell? ⟨w.heap.size,1,none⟩=some (.slice B ords.length d)∧w'.cell? ⟨wr.heap.size,0,none⟩=some (.int .i64 x.id)∧w'.cell? ⟨wr.heap.size,1,none⟩=some (.bool x.done)∧w'.cell? ⟨wr.heap.size,2,none⟩=some (.slice x.A x.ops.length x.c))) (by kernel_rfl) ?_ (fun hHeld=> ?_)
      ·(first|exact⟨UA.out.drew,g0,g1,k0,k1,k2⟩|exact⟨hHeld.1.trans hu3,hu3.keepNo hHeld.2.1,hu3.keepNo hHeld.2.2.1,hu3.keepNo hHeld.2.2.2.1,hu3.keepNo hHeld.2.2.2.2.1,hu3.keepNo hHeld.2.2.2.2.2⟩)
      refine wpK 0 rfl ?_;refine wpK 1 rfl ?_;refine wpK 2 rfl ?_;refine wpN 3 rfl ?_;refine wpN 4 rfl ?_;refine wpN 5 rfl ?_;refine wpN 6 rfl ?_;refine wpN 7 rfl ?_;refine wpN 8 rfl ?_;refine wpN 9 rfl ?_;refine wpN 10 rfl ?_;refine wpN 11 rfl ?_;refine wpN 12 rfl ?_;refine wpK 13 rfl ?_;refine wpK 14 rfl ?_;refine wpK 15 rfl ?_;refine wpR [16] ?_;refine wpC rfl (fun K hK=> ?_) AllReadyH.nil;go_simp
      (first
  |(go_at_call 90;refine(ZdK (F:=F) (v:=E) (HOps.upd XL0.out.1 (uH.trans hHeld.1) (fun _ _=>id)) XL.out.2.2.1 hE.out).mono ?_;rintro e w3 ⟨rfl,hu3⟩))
      try (go_wp2_with fail)
      refine hK.out _ _ ?_ (fun hHeld=> ?_)
      ·(first|exact⟨UA.out.drew,g0,g1,k0,k1,k2⟩|exact⟨hHeld.1.trans hu3,hu3.keepNo hHeld.2.1,hu3.keepNo hHeld.2.2.1,hu3.keepNo hHeld.2.2.2.1,hu3.keepNo hHeld.2.2.2.2.1,hu3.keepNo hHeld.2.2.2.2.2⟩)
      clear hK K
      try simp only[Act.put,sT,sS,sZ]
      refine wpK 17 rfl ?_;refine wpK 18 rfl ?_;refine wpK 19 rfl ?_;refine wpN 20 rfl ?_;refine wpN 21 rfl ?_;refine wpR [22] ?_;refine wpC rfl (fun K hK=> ?_) AllReadyH.nil;go_simp;refine hK.out _ _ ?_ (fun hHeld=> ?_)
      ·exact hHeld
      clear hK K
      try simp only[Act.put,sT,sS,sZ]
      refine wpN 23 rfl ?_;refine wpK 24 rfl ?_;refine wpD (NoPanic.normal ?_);have HU:=Qh hHeld.1;clear hHeld;go_wp2
      go_ret
      exact⟨by rw[hf.out];rfl,uH.trans HU.out⟩
    ·obtain⟨ad2,hAd2,p0,_,_⟩:=H1.tx_at (k:=k-1) (show k-1<txs.length by omega);simp only at hAd2 p0
     cases hAd2
     obtain⟨y',hy'⟩:∃y',txs[k-1]'(by omega)=y':=⟨_,rfl⟩;rw[hy']at p0
     replace p0:=uA.keepNo p0
     have hkp:0<k:=by omega
     by_cases hordL:x.id≤y'.id
     ·have hf:=Qh (show Zc ⟨txs,ords,some ad,c,B,d⟩=false from ZdX (k:=k) hlt (by rw[hok.out,ZqH hkp hlt hy' x.id hordL];simp));obtain⟨y,hy⟩:∃y,y'.id=y:=⟨_,rfl⟩;rw[hy]at p0 hordL;clear hy hy' H1;have hge:decide (x.id≤y)=true:=decide_eq_true hordL;have hkk:decide ((0:Int)<(k:Int))=true:=decide_eq_true (by omega);have hkn:decide (0<k)=true:=decide_eq_true (by omega);have hw1:IntKind.i64.wrap ((k:Int)-1)=(k:Int)-1:=IntWalk.i64_in _ (by omega);have hw2:(0:Int)≤(k:Int)-1:=by omega
      have hw3:(1:Int)≤(k:Int):=by omega
      have hw4:(k:Int)-1<(txs.length:Int):=by omega
      have hw5:((k:Int)-1).toNat=k-1:=by omega
      have g0:=bH.out.cell 0;have g1:=bH.out.cell 1;have k0:=bo.out.cell 0;have k1:=bo.out.cell 1;have k2:=bo.out.cell 2;simp only[Qz,Qs]at g0 g1 k0 k1 k2;go_wp2;refine wp_region_noPanic ?_;refine wp_region_held_drew (S:=(fun w'=>Upd No (w.alloc (.cells #[.slice (some ad) txs.length c,.slice B ords.length d] 50)) w'∧w'.cell? ⟨w.heap.size,0,none⟩=some (.slice (some ad) txs.length c)∧w'.cell? ⟨w.heap.size,1,none⟩=some (.slice B ords.length d)∧w'.cell? ⟨wr.heap.size,0,none⟩=some (.int .i64 x.id)∧w'.cell? ⟨wr.heap.size,1,none⟩=some (.bool x.done)∧w'.cell? ⟨wr.heap.size,2,none⟩=some (.slice x.A x.ops.length x.c)∧w'.cell? (ad.add ((k-1)*3))=some (.int .i64 y))) (by kernel_rfl) ?_ (fun hHeld=> ?_)
      ·(first|exact⟨UA.out.drew,g0,g1,k0,k1,k2,p0⟩|exact⟨hHeld.1.trans hu3,hu3.keepNo hHeld.2.1,hu3.keepNo hHeld.2.2.1,hu3.keepNo hHeld.2.2.2.1,hu3.keepNo hHeld.2.2.2.2.1,hu3.keepNo hHeld.2.2.2.2.2.1,hu3.keepNo hHeld.2.2.2.2.2.2⟩)
      refine wpK 0 rfl ?_;refine wpK 1 rfl ?_;refine wpK 2 rfl ?_;refine wpK 3 rfl ?_;refine wpK 4 rfl ?_;refine wpK 5 rfl ?_;refine wpK 6 rfl ?_;refine wpK 7 rfl ?_;refine wpK 8 rfl ?_;refine wpK 9 rfl ?_;refine wpK 10 rfl ?_;refine wpK 11 rfl ?_;refine wpK 12 rfl ?_;refine wpK 13 rfl ?_;refine wpK 14 rfl ?_;refine wpN 15 rfl ?_;refine wpR [16] ?_;refine wpC rfl (fun K hK=> ?_) AllReadyH.nil;go_simp;refine hK.out _ _ ?_ (fun hHeld=> ?_)
      ·exact hHeld
      clear hK K
      try simp only[Act.put,sT,sS,sZ]
      refine wpN 17 rfl ?_;refine wpK 18 rfl ?_;refine wpK 19 rfl ?_;refine wpN 20 rfl ?_;refine wpN 21 rfl ?_;refine wpR [22] ?_;refine wpC rfl (fun K hK=> ?_) AllReadyH.nil;go_simp;refine hK.out _ _ ?_ (fun hHeld=> ?_)
      ·exact hHeld
      clear hK K
      try simp only[Act.put,sT,sS,sZ]
      refine wpN 23 rfl ?_;refine wpK 24 rfl ?_;refine wpD (NoPanic.normal ?_);have HU:=Qh hHeld.1;clear hHeld;go_wp2
      go_ret
      exact⟨by rw[hf.out];rfl,uH.trans HU.out⟩
     ·have hah:=Qh (show Zee txs k x.id=true from Zpf hkp hlt hy' x.id (by omega));obtain⟨y,hy⟩:∃y,y'.id=y:=⟨_,rfl⟩;rw[hy]at p0 hordL;clear hy hy' H1;have hge:decide (x.id≤y)=false:=decide_eq_false hordL;have hkk:decide ((0:Int)<(k:Int))=true:=decide_eq_true (by omega);have hkn:decide (0<k)=true:=decide_eq_true (by omega);have hw1:IntKind.i64.wrap ((k:Int)-1)=(k:Int)-1:=IntWalk.i64_in _ (by omega);have hw2:(0:Int)≤(k:Int)-1:=by omega
      have hw3:(1:Int)≤(k:Int):=by omega
      have hw4:(k:Int)-1<(txs.length:Int):=by omega
      have hw5:((k:Int)-1).toNat=k-1:=by omega
      by_cases hE1:E=0
      ·subst hE1
       cases N
       ·have hf:=Qh (show Zc ⟨txs,ords,some ad,c,B,d⟩=false from ZdX (k:=k) hlt (by rw[hok.out];simp));have g0:=bH.out.cell 0;have g1:=bH.out.cell 1;have k0:=bo.out.cell 0;have k1:=bo.out.cell 1;have k2:=bo.out.cell 2;simp only[Qz,Qs]at g0 g1 k0 k1 k2;go_wp2;refine wp_region_noPanic ?_;refine wp_region_held_drew (S:=(fun w'=>Upd No (w.alloc (.cells #[.slice (some ad) txs.length c,.slice B ords.length d] 50)) w'∧w'.cell? ⟨w.heap.size,0,none⟩=some (.slice (some ad) txs.length c)∧w'.cell? ⟨w.heap.size,1,none⟩=some (.slice B ords.length d)∧w'.cell? ⟨wr.heap.size,0,none⟩=some (.int .i64 x.id)∧w'.cell? ⟨wr.heap.size,1,none⟩=some (.bool x.done)∧w'.cell? ⟨wr.heap.size,2,none⟩=some (.slice x.A x.ops.length x.c)∧w'.cell? (ad.add ((k-1)*3))=some (.int .i64 y))) (by kernel_rfl) ?_ (fun hHeld=> ?_)
        ·(first|exact⟨UA.out.drew,g0,g1,k0,k1,k2,p0⟩|exact⟨hHeld.1.trans hu3,hu3.keepNo hHeld.2.1,hu3.keepNo hHeld.2.2.1,hu3.keepNo hHeld.2.2.2.1,hu3.keepNo hHeld.2.2.2.2.1,hu3.keepNo hHeld.2.2.2.2.2.1,hu3.keepNo hHeld.2.2.2.2.2.2⟩)
        refine wpK 0 rfl ?_;refine wpK 1 rfl ?_;refine wpK 2 rfl ?_;refine wpK 3 rfl ?_;refine wpK 4 rfl ?_;refine wpK 5 rfl ?_;refine wpK 6 rfl ?_;refine wpK 7 rfl ?_;refine wpK 8 rfl ?_;refine wpK 9 rfl ?_;refine wpK 10 rfl ?_;refine wpK 11 rfl ?_;refine wpK 12 rfl ?_;refine wpK 13 rfl ?_;refine wpK 14 rfl ?_;refine wpK 15 rfl ?_;refine wpR [16] ?_;refine wpC rfl (fun K hK=> ?_) AllReadyH.nil;go_simp
        (first
  |(go_at_call 90;refine(ZdK (F:=F) (v:=0) (HOps.upd XL0.out.1 (uH.trans hHeld.1) (fun _ _=>id)) XL.out.2.2.1 hE.out).mono ?_;rintro e w3 ⟨rfl,hu3⟩))
        try (go_wp2_with fail)
        refine hK.out _ _ ?_ (fun hHeld=> ?_)
        ·(first|exact⟨UA.out.drew,g0,g1,k0,k1,k2,p0⟩|exact⟨hHeld.1.trans hu3,hu3.keepNo hHeld.2.1,hu3.keepNo hHeld.2.2.1,hu3.keepNo hHeld.2.2.2.1,hu3.keepNo hHeld.2.2.2.2.1,hu3.keepNo hHeld.2.2.2.2.2.1,hu3.keepNo hHeld.2.2.2.2.2.2⟩)
        clear hK K
        try simp only[Act.put,sT,sS,sZ]
        refine wpK 17 rfl ?_;refine wpK 18 rfl ?_;refine wpK 19 rfl ?_;refine wpK 20 rfl ?_;refine wpK 21 rfl ?_;refine wpR [22] ?_;refine wpC rfl (fun K hK=> ?_) AllReadyH.nil;go_simp
        (first
  |(go_at_call 91;refine(Zfp (F:=F) (v:=false) (H.upd (uH.trans hHeld.1) (fun _ _=>id)) (HOps.upd XL0.out.1 (uH.trans hHeld.1) (fun _ _=>id)) XL.out.2.2.1 hN.out).mono ?_;rintro e w3 ⟨rfl,hu3⟩))
        try (go_wp2_with fail)
        refine hK.out _ _ ?_ (fun hHeld=> ?_)
        ·(first|exact⟨UA.out.drew,g0,g1,k0,k1,k2,p0⟩|exact⟨hHeld.1.trans hu3,hu3.keepNo hHeld.2.1,hu3.keepNo hHeld.2.2.1,hu3.keepNo hHeld.2.2.2.1,hu3.keepNo hHeld.2.2.2.2.1,hu3.keepNo hHeld.2.2.2.2.2.1,hu3.keepNo hHeld.2.2.2.2.2.2⟩)
        clear hK K
        try simp only[Act.put,sT,sS,sZ]
        refine wpK 23 rfl ?_;refine wpK 24 rfl ?_;refine wpD (NoPanic.normal ?_);have HU:=Qh hHeld.1;clear hHeld;go_wp2
        go_ret
        exact⟨by rw[hf.out];rfl,uH.trans HU.out⟩
       ·have HA:=Qh (Zca hall.out (by rw[hok.out,hah.out];rfl));have g0:=bH.out.cell 0;have g1:=bH.out.cell 1;have k0:=bo.out.cell 0;have k1:=bo.out.cell 1;have k2:=bo.out.cell 2;simp only[Qz,Qs]at g0 g1 k0 k1 k2;go_wp2;refine wp_region_noPanic ?_;refine wp_region_held_drew (S:=(fun w'=>Upd No (w.alloc (.cells #[.slice (some ad) txs.length c,.slice B ords.length d] 50)) w'∧w'.cell? ⟨w.heap.size,0,none⟩=some (.slice (some ad) txs.length c)∧w'.cell? ⟨w.heap.size,1,none⟩=some (.slice B ords.length d)∧w'.cell? ⟨wr.heap.size,0,none⟩=some (.int .i64 x.id)∧w'.cell? ⟨wr.heap.size,1,none⟩=some (.bool x.done)∧w'.cell? ⟨wr.heap.size,2,none⟩=some (.slice x.A x.ops.length x.c)∧w'.cell? (ad.add ((k-1)*3))=some (.int .i64 y))) (by kernel_rfl) ?_ (fun hHeld=> ?_)
        ·(first|exact⟨UA.out.drew,g0,g1,k0,k1,k2,p0⟩|exact⟨hHeld.1.trans hu3,hu3.keepNo hHeld.2.1,hu3.keepNo hHeld.2.2.1,hu3.keepNo hHeld.2.2.2.1,hu3.keepNo hHeld.2.2.2.2.1,hu3.keepNo hHeld.2.2.2.2.2.1,hu3.keepNo hHeld.2.2.2.2.2.2⟩)
        refine wpK 0 rfl ?_;refine wpK 1 rfl ?_;refine wpK 2 rfl ?_;refine wpK 3 rfl ?_;refine wpK 4 rfl ?_;refine wpK 5 rfl ?_;refine wpK 6 rfl ?_;refine wpK 7 rfl ?_;refine wpK 8 rfl ?_;refine wpK 9 rfl ?_;refine wpK 10 rfl ?_;refine wpK 11 rfl ?_;refine wpK 12 rfl ?_;refine wpK 13 rfl ?_;refine wpK 14 rfl ?_;refine wpK 15 rfl ?_;refine wpR [16] ?_;refine wpC rfl (fun K hK=> ?_) AllReadyH.nil;go_simp
        (first
  |(go_at_call 90;refine(ZdK (F:=F) (v:=0) (HOps.upd XL0.out.1 (uH.trans hHeld.1) (fun _ _=>id)) XL.out.2.2.1 hE.out).mono ?_;rintro e w3 ⟨rfl,hu3⟩))
        try (go_wp2_with fail)
        refine hK.out _ _ ?_ (fun hHeld=> ?_)
        ·(first|exact⟨UA.out.drew,g0,g1,k0,k1,k2,p0⟩|exact⟨hHeld.1.trans hu3,hu3.keepNo hHeld.2.1,hu3.keepNo hHeld.2.2.1,hu3.keepNo hHeld.2.2.2.1,hu3.keepNo hHeld.2.2.2.2.1,hu3.keepNo hHeld.2.2.2.2.2.1,hu3.keepNo hHeld.2.2.2.2.2.2⟩)
        clear hK K
        try simp only[Act.put,sT,sS,sZ]
        refine wpK 17 rfl ?_;refine wpK 18 rfl ?_;refine wpK 19 rfl ?_;refine wpK 20 rfl ?_;refine wpK 21 rfl ?_;refine wpR [22] ?_;refine wpC rfl (fun K hK=> ?_) AllReadyH.nil;go_simp
        (first
  |(go_at_call 91;refine(Zfp (F:=F) (v:=true) (H.upd (uH.trans hHeld.1) (fun _ _=>id)) (HOps.upd XL0.out.1 (uH.trans hHeld.1) (fun _ _=>id)) XL.out.2.2.1 hN.out).mono ?_;rintro e w3 ⟨rfl,hu3⟩))
        try (go_wp2_with fail)
        refine hK.out _ _ ?_ (fun hHeld=> ?_)
        ·(first|exact⟨UA.out.drew,g0,g1,k0,k1,k2,p0⟩|exact⟨hHeld.1.trans hu3,hu3.keepNo hHeld.2.1,hu3.keepNo hHeld.2.2.1,hu3.keepNo hHeld.2.2.2.1,hu3.keepNo hHeld.2.2.2.2.1,hu3.keepNo hHeld.2.2.2.2.2.1,hu3.keepNo hHeld.2.2.2.2.2.2⟩)
        clear hK K
        try simp only[Act.put,sT,sS,sZ]
        refine wpK 23 rfl ?_;refine wpK 24 rfl ?_;refine wpD (NoPanic.normal ?_);have HU:=Qh hHeld.1;clear hHeld;go_wp2
        go_roundg (gk-1)
        case measure=>omega
        case rel=>exact⟨k+1,by omega,by go_num,Qh HA.out,HU.out⟩
      ·have hEb:(E != 0)=true:=by simpa using hE1
       have hf:=Qh (show Zc ⟨txs,ords,some ad,c,B,d⟩=false from ZdX (k:=k) hlt (by rw[hok.out,beq_eq_false_iff_ne.2 hE1];simp));clear hE1;have g0:=bH.out.cell 0;have g1:=bH.out.cell 1;have k0:=bo.out.cell 0;have k1:=bo.out.cell 1;have k2:=bo.out.cell 2;simp only[Qz,Qs]at g0 g1 k0 k1 k2;go_wp2;refine wp_region_noPanic ?_;refine wp_region_held_drew (S:=(fun w'=>Upd No (w.alloc (.cells #[.slice (some ad) txs.length c,.slice B ords.length d] 50)) w'∧w'.cell? ⟨w.heap.size,0,none⟩=some (.slice (some ad) txs.length c)∧w'.cell? ⟨w.heap.size,1,none⟩=some (.slice B ords.length d)∧w'.cell? ⟨wr.heap.size,0,none⟩=some (.int .i64 x.id)∧w'.cell? ⟨wr.heap.size,1,none⟩=some (.bool x.done)∧w'.cell? ⟨wr.heap.size,2,none⟩=some (.slice x.A x.ops.length x.c)∧w'.cell? (ad.add ((k-1)*3))=some (.int .i64 y))) (by kernel_rfl) ?_ (fun hHeld=> ?_)
       ·(first|exact⟨UA.out.drew,g0,g1,k0,k1,k2,p0⟩|exact⟨hHeld.1.trans hu3,hu3.keepNo hHeld.2.1,hu3.keepNo hHeld.2.2.1,hu3.keepNo hHeld.2.2.2.1,hu3.keepNo hHeld.2.2.2.2.1,hu3.keepNo hHeld.2.2.2.2.2.1,hu3.keepNo hHeld.2.2.2.2.2.2⟩)
       refine wpK 0 rfl ?_;refine wpK 1 rfl ?_;refine wpK 2 rfl ?_;refine wpK 3 rfl ?_;refine wpK 4 rfl ?_;refine wpK 5 rfl ?_;refine wpK 6 rfl ?_;refine wpK 7 rfl ?_;refine wpK 8 rfl ?_;refine wpK 9 rfl ?_;refine wpK 10 rfl ?_;refine wpK 11 rfl ?_;refine wpK 12 rfl ?_;refine wpK 13 rfl ?_;refine wpK 14 rfl ?_;refine wpK 15 rfl ?_;refine wpR [16] ?_;refine wpC rfl (fun K hK=> ?_) AllReadyH.nil;go_simp
       (first
  |(go_at_call 90;refine(ZdK (F:=F) (v:=E) (HOps.upd XL0.out.1 (uH.trans hHeld.1) (fun _ _=>id)) XL.out.2.2.1 hE.out).mono ?_;rintro e w3 ⟨rfl,hu3⟩))
       try (go_wp2_with fail)
       refine hK.out _ _ ?_ (fun hHeld=> ?_)
       ·(first|exact⟨UA.out.drew,g0,g1,k0,k1,k2,p0⟩|exact⟨hHeld.1.trans hu3,hu3.keepNo hHeld.2.1,hu3.keepNo hHeld.2.2.1,hu3.keepNo hHeld.2.2.2.1,hu3.keepNo hHeld.2.2.2.2.1,hu3.keepNo hHeld.2.2.2.2.2.1,hu3.keepNo hHeld.2.2.2.2.2.2⟩)
       clear hK K
       try simp only[Act.put,sT,sS,sZ]
       refine wpK 17 rfl ?_;refine wpK 18 rfl ?_;refine wpK 19 rfl ?_;refine wpN 20 rfl ?_;refine wpN 21 rfl ?_;refine wpR [22] ?_;refine wpC rfl (fun K hK=> ?_) AllReadyH.nil;go_simp;refine hK.out _ _ ?_ (fun hHeld=> ?_)
       ·exact hHeld
       clear hK K
       try simp only[Act.put,sT,sS,sZ]
       refine wpN 23 rfl ?_;refine wpK 24 rfl ?_;refine wpD (NoPanic.normal ?_);have HU:=Qh hHeld.1;clear hHeld;go_wp2
       go_ret
       exact⟨by rw[hf.out];rfl,uH.trans HU.out⟩
   ·obtain rfl:k=txs.length:=by omega
    have hall1:=Qh hall.out;have hg0:=bH0.out.upd hu id;have g0':=hg0.cell 0;have g1':=hg0.cell 1;simp only[Qz,Qs]at g0' g1';have HW:=Qh (Zqc F _ ⟨txs,ords,A,c,B,d⟩ (H.upd (uH.trans hu) (fun _ _=>id)) (by show txs.length≤4096;omega));clear hg0
    go_wp2_with fail
    refine(HW.out).mono ?_;rintro e w1 ⟨b,m,rfl,hb1,hb2,hmk,hms,hu1⟩;have bH1:=Qh ((bH0.out.upd hu id).upd hu1 id);have U1:=Qh ((uH.trans hu).trans hu1);have hln:=ZpC Tryz.underlying125 hms.is;have hml:m.length=(Zae txs []).length:=by rw[←hmk,List.length_map]
    have g1:=bH1.out.cell 1;simp only[Qz,Qs]at g1;have HMS:=Qh hms;have hln':=fun ty=>hln ty
    clear g0' g1' hms hmk hln hu1 hall
    by_cases hle:(Zae txs []).length=ords.length
    ·have hne:((m.length:Int) != (ords.length:Int))=false:=by rw[hml,hle];simp
     have hlb:=Qh (show((Zae (Hist.txs ⟨txs,ords,A,c,B,d⟩) []).length==(Hist.ords ⟨txs,ords,A,c,B,d⟩).length)=true by show((Zae txs []).length==ords.length)=true;rw[hle];simp);clear hml hle;go_wp2;clear hln' hne
     go_loopg [57] ords.length (fun gk i wr=>∃(k:Nat),k+gk=ords.length∧i= .int .i64 k∧Hid ((List.range k).all (Zc7 txs ords)=true)∧Upd No w1 wr)
     case atStart=>exact⟨0,by omega,rfl,Qh rfl,Upd.refl No _⟩
     case round=>
      obtain⟨k,hgk,rfl,hall2,hu2⟩:=hrel
      by_cases hlt:k<ords.length
      ·have H1:=H.upd (U1.out.trans hu2) (fun _ _=>id);obtain⟨ad,hAd,q0,q1⟩:=H1.ord_at hlt;simp only at hAd q0 q1;have hx0:=H.ord ords[k] (List.getElem_mem hlt);obtain⟨x,hx⟩:∃x,ords[k]=x:=⟨_,rfl⟩;rw[hx]at q0 q1 hx0;subst hAd;have X:=Qh hx;have XL0:=Qh hx0;have b1:(0:Int)≤(k:Int):=Qn _;have b2:(k:Int)<(ords.length:Int):=by omega
       have uA:=(Upd.refl No wr).alloc (.cells #[.int .i64 x.key,.slice x.A x.txs.length x.c] 102);have bo:=Qh (Blk.new wr 102 [.int .i64 x.key,.slice x.A x.txs.length x.c]);have bH:=Qh ((bH1.out.upd hu2 id).upd uA id);have UA:=Qh (hu2.trans uA);obtain⟨Ar,cr,hrow,how⟩:=HMS.out.row x.key;have e1:=Zy ZcP Tryz.underlying125 ZnM (HMS.out.is.upd UA.out.drew id) x.key;rw[hrow]at e1;have hIw:=Qh (Ints.of_own how);have hwl:=Qh (show(Zr txs x.key).length≤17592186044415 from Nat.le_trans (Zhw txs x.key) (by omega));clear hx hx0 hrow how;obtain⟨N,hN0⟩:∃N,ZhO x.txs (Zr txs x.key)=N:=⟨_,rfl⟩;have hN:=Qh hN0;have hok:=Qh (show Zc7 txs ords k=(Zed ords k x.key&& !x.txs.isEmpty&&N) by rw[ZpZ hlt X.out,←ZpT,hN0]);clear hN0
       by_cases hk0:k=0
       ·have hah:=Qh (show Zed ords k x.key=true by rw[hk0];rfl);have hkk:decide ((0:Int)<(k:Int))=false:=decide_eq_false (by omega);have hkn:decide (0<k)=false:=decide_eq_false (by omega);clear hk0 H1
        by_cases hE1:x.txs.length=0
        ·have hE0:x.txs=[]:=List.eq_nil_of_length_eq_zero hE1;have hf:=Qh (show Zc ⟨txs,ords,A,c,some ad,d⟩=false from Zdi (k:=k) hlt (by rw[hok.out,hE0];simp));have hEb:((x.txs.length:Int)==0)=true:=by rw[beq_iff_eq];omega
         clear hE1 hE0;have g1:=bH.out.cell 1;have k0:=bo.out.cell 0;have k1:=bo.out.cell 1;simp only[Qz,Qs]at g1 k0 k1;go_wp2;refine wp_region_noPanic ?_;refine wp_region_held_drew (S:=(fun w'=>Upd No w1 w'∧w'.cell? ⟨w.heap.size,1,none⟩=some (.slice (some ad) ords.length d)∧w'.cell? ⟨wr.heap.size,0,none⟩=some (.int .i64 x.key)∧w'.cell? ⟨wr.heap.size,1,none⟩=some (.slice x.A x.txs.length x.c))) (by kernel_rfl) ?_ (fun hHeld=> ?_)
         ·(first|exact⟨UA.out.drew,g1,k0,k1⟩|exact⟨hHeld.1.trans hu3,hu3.keepNo hHeld.2.1,hu3.keepNo hHeld.2.2.1,hu3.keepNo hHeld.2.2.2⟩)
         refine wpK 0 rfl ?_;refine wpK 1 rfl ?_;refine wpK 2 rfl ?_;refine wpN 3 rfl ?_;refine wpN 4 rfl ?_;refine wpN 5 rfl ?_;refine wpN 6 rfl ?_;refine wpN 7 rfl ?_;refine wpN 8 rfl ?_;refine wpN 9 rfl ?_;refine wpN 10 rfl ?_;refine wpN 11 rfl ?_;refine wpN 12 rfl ?_;refine wpK 13 rfl ?_;refine wpK 14 rfl ?_;refine wpK 15 rfl ?_;refine wpK 16 rfl ?_;refine wpK 17 rfl ?_;refine wpK 18 rfl ?_;refine wpK 19 rfl ?_;refine wpK 20 rfl ?_;refine wpN 21 rfl ?_;refine wpN 22 rfl ?_;refine wpN 23 rfl ?_;refine wpN 24 rfl ?_;refine wpN 25 rfl ?_;refine wpR [26] ?_;refine wpC rfl (fun K hK=> ?_) AllReadyH.nil;go_simp;refine hK.out _ _ ?_ (fun hHeld=> ?_)
         ·exact hHeld
         clear hK K
         try simp only[Act.put,sT,sS,sZ]
         refine wpR [27] ?_;refine wpC rfl (fun K hK=> ?_) AllReadyH.nil;go_simp;refine hK.out _ _ ?_ (fun hHeld=> ?_)
         ·exact hHeld
         clear hK K
         try simp only[Act.put,sT,sS,sZ]
         refine wpN 28 rfl ?_;refine wpK 29 rfl ?_;refine wpD (NoPanic.normal ?_);have HU:=Qh hHeld.1;clear hHeld;go_wp2
         go_ret
         exact⟨by rw[hf.out];rfl,U1.out.trans HU.out⟩
        ·have hE0:x.txs.isEmpty=false:=by
          cases hh:x.txs with
          |nil=>rw[hh]at hE1;exact absurd rfl hE1
          |cons a l=>rfl
         have hEb:((x.txs.length:Int)==0)=false:=by rw[beq_eq_false_iff_ne];omega
         have HE0:=Qh hE0;clear hE1 hE0
         cases N
         ·have hf:=Qh (show Zc ⟨txs,ords,A,c,some ad,d⟩=false from Zdi (k:=k) hlt (by rw[hok.out];simp));have g1:=bH.out.cell 1;have k0:=bo.out.cell 0;have k1:=bo.out.cell 1;simp only[Qz,Qs]at g1 k0 k1;go_wp2;refine wp_region_noPanic ?_;refine wp_region_held_drew (S:=(fun w'=>Upd No w1 w'∧w'.cell? ⟨w.heap.size,1,none⟩=some (.slice (some ad) ords.length d)∧w'.cell? ⟨wr.heap.size,0,none⟩=some (.int .i64 x.key)∧w'.cell? ⟨wr.heap.size,1,none⟩=some (.slice x.A x.txs.length x.c))) (by kernel_rfl) ?_ (fun hHeld=> ?_)
          ·(first|exact⟨UA.out.drew,g1,k0,k1⟩|exact⟨hHeld.1.trans hu3,hu3.keepNo hHeld.2.1,hu3.keepNo hHeld.2.2.1,hu3.keepNo hHeld.2.2.2⟩)
          refine wpK 0 rfl ?_;refine wpK 1 rfl ?_;refine wpK 2 rfl ?_;refine wpN 3 rfl ?_;refine wpN 4 rfl ?_;refine wpN 5 rfl ?_;refine wpN 6 rfl ?_;refine wpN 7 rfl ?_;refine wpN 8 rfl ?_;refine wpN 9 rfl ?_;refine wpN 10 rfl ?_;refine wpN 11 rfl ?_;refine wpN 12 rfl ?_;refine wpK 13 rfl ?_;refine wpK 14 rfl ?_;refine wpK 15 rfl ?_;refine wpK 16 rfl ?_;refine wpK 17 rfl ?_;refine wpK 18 rfl ?_;refine wpK 19 rfl ?_;refine wpK 20 rfl ?_;refine wpK 21 rfl ?_;refine wpK 22 rfl ?_;refine wpK 23 rfl ?_;refine wpK 24 rfl ?_;refine wpK 25 rfl ?_;refine wpR [26] ?_;refine wpC rfl (fun K hK=> ?_) AllReadyH.nil;go_simp;refine hK.out _ _ ?_ (fun hHeld=> ?_)
          ·(first|exact⟨UA.out.drew,g1,k0,k1⟩|exact⟨hHeld.1.trans hu3,hu3.keepNo hHeld.2.1,hu3.keepNo hHeld.2.2.1,hu3.keepNo hHeld.2.2.2⟩)
          clear hK K
          try simp only[Act.put,sT,sS,sZ]
          refine wpR [27] ?_;refine wpC rfl (fun K hK=> ?_) AllReadyH.nil;go_simp
          (first
  |(go_at_call 73;refine(ZhS (v:=false) (XL0.out.1.upd (U1.out.trans hHeld.1) (fun _ _=>id)) (hIw.out.upd hHeld.1 (fun _ _=>id)) XL0.out.2.2.1 hwl.out hN.out).mono ?_;rintro e w3 ⟨rfl,hu3⟩))
          try (go_wp2_with fail)
          refine hK.out _ _ ?_ (fun hHeld=> ?_)
          ·(first|exact⟨UA.out.drew,g1,k0,k1⟩|exact⟨hHeld.1.trans hu3,hu3.keepNo hHeld.2.1,hu3.keepNo hHeld.2.2.1,hu3.keepNo hHeld.2.2.2⟩)
          clear hK K
          try simp only[Act.put,sT,sS,sZ]
          refine wpK 28 rfl ?_;refine wpK 29 rfl ?_;refine wpD (NoPanic.normal ?_);have HU:=Qh hHeld.1;clear hHeld;go_wp2
          go_ret
          exact⟨by rw[hf.out];rfl,U1.out.trans HU.out⟩
         ·have HA:=Qh (Zca hall2.out (by rw[hok.out,hah.out,HE0.out];rfl));have g1:=bH.out.cell 1;have k0:=bo.out.cell 0;have k1:=bo.out.cell 1;simp only[Qz,Qs]at g1 k0 k1;go_wp2;refine wp_region_noPanic ?_;refine wp_region_held_drew (S:=(fun w'=>Upd No w1 w'∧w'.cell? ⟨w.heap.size,1,none⟩=some (.slice (some ad) ords.length d)∧w'.cell? ⟨wr.heap.size,0,none⟩=some (.int .i64 x.key)∧w'.cell? ⟨wr.heap.size,1,none⟩=some (.slice x.A x.txs.length x.c))) (by kernel_rfl) ?_ (fun hHeld=> ?_)
          ·(first|exact⟨UA.out.drew,g1,k0,k1⟩|exact⟨hHeld.1.trans hu3,hu3.keepNo hHeld.2.1,hu3.keepNo hHeld.2.2.1,hu3.keepNo hHeld.2.2.2⟩)
          refine wpK 0 rfl ?_;refine wpK 1 rfl ?_;refine wpK 2 rfl ?_;refine wpN 3 rfl ?_;refine wpN 4 rfl ?_;refine wpN 5 rfl ?_;refine wpN 6 rfl ?_;refine wpN 7 rfl ?_;refine wpN 8 rfl ?_;refine wpN 9 rfl ?_;refine wpN 10 rfl ?_;refine wpN 11 rfl ?_;refine wpN 12 rfl ?_;refine wpK 13 rfl ?_;refine wpK 14 rfl ?_;refine wpK 15 rfl ?_;refine wpK 16 rfl ?_;refine wpK 17 rfl ?_;refine wpK 18 rfl ?_;refine wpK 19 rfl ?_;refine wpK 20 rfl ?_;refine wpK 21 rfl ?_;refine wpK 22 rfl ?_;refine wpK 23 rfl ?_;refine wpK 24 rfl ?_;refine wpK 25 rfl ?_;refine wpR [26] ?_;refine wpC rfl (fun K hK=> ?_) AllReadyH.nil;go_simp;refine hK.out _ _ ?_ (fun hHeld=> ?_)
          ·(first|exact⟨UA.out.drew,g1,k0,k1⟩|exact⟨hHeld.1.trans hu3,hu3.keepNo hHeld.2.1,hu3.keepNo hHeld.2.2.1,hu3.keepNo hHeld.2.2.2⟩)
          clear hK K
          try simp only[Act.put,sT,sS,sZ]
          refine wpR [27] ?_;refine wpC rfl (fun K hK=> ?_) AllReadyH.nil;go_simp
          (first
  |(go_at_call 73;refine(ZhS (v:=true) (XL0.out.1.upd (U1.out.trans hHeld.1) (fun _ _=>id)) (hIw.out.upd hHeld.1 (fun _ _=>id)) XL0.out.2.2.1 hwl.out hN.out).mono ?_;rintro e w3 ⟨rfl,hu3⟩))
          try (go_wp2_with fail)
          refine hK.out _ _ ?_ (fun hHeld=> ?_)
          ·(first|exact⟨UA.out.drew,g1,k0,k1⟩|exact⟨hHeld.1.trans hu3,hu3.keepNo hHeld.2.1,hu3.keepNo hHeld.2.2.1,hu3.keepNo hHeld.2.2.2⟩)
          clear hK K
          try simp only[Act.put,sT,sS,sZ]
          refine wpK 28 rfl ?_;refine wpK 29 rfl ?_;refine wpD (NoPanic.normal ?_);have HU:=Qh hHeld.1;clear hHeld;go_wp2
          go_roundg (gk-1)
          case measure=>omega
          case rel=>exact⟨k+1,by omega,by go_num,Qh HA.out,HU.out⟩
       ·obtain⟨ad2,hAd2,p0,_⟩:=H1.ord_at (k:=k-1) (show k-1<ords.length by omega);simp only at hAd2 p0
        cases hAd2
        obtain⟨y',hy'⟩:∃y',ords[k-1]'(by omega)=y':=⟨_,rfl⟩;rw[hy']at p0
        replace p0:=uA.keepNo p0
        have hkp:0<k:=by omega
        by_cases hordL:x.key≤y'.key
        ·have hf:=Qh (show Zc ⟨txs,ords,A,c,some ad,d⟩=false from Zdi (k:=k) hlt (by rw[hok.out,Zpg hkp hlt hy' x.key hordL];simp));obtain⟨y,hy⟩:∃y,y'.key=y:=⟨_,rfl⟩;rw[hy]at p0 hordL;clear hy hy' H1;have hge:decide (x.key≤y)=true:=decide_eq_true hordL;have hkk:decide ((0:Int)<(k:Int))=true:=decide_eq_true (by omega);have hkn:decide (0<k)=true:=decide_eq_true (by omega);have hw1:IntKind.i64.wrap ((k:Int)-1)=(k:Int)-1:=IntWalk.i64_in _ (by omega);have hw2:(0:Int)≤(k:Int)-1:=by omega
         have hw3:(1:Int)≤(k:Int):=by omega
         have hw4:(k:Int)-1<(ords.length:Int):=by omega
         have hw5:((k:Int)-1).toNat=k-1:=by omega
         have g1:=bH.out.cell 1;have k0:=bo.out.cell 0;have k1:=bo.out.cell 1;simp only[Qz,Qs]at g1 k0 k1;go_wp2;refine wp_region_noPanic ?_;refine wp_region_held_drew (S:=(fun w'=>Upd No w1 w'∧w'.cell? ⟨w.heap.size,1,none⟩=some (.slice (some ad) ords.length d)∧w'.cell? ⟨wr.heap.size,0,none⟩=some (.int .i64 x.key)∧w'.cell? ⟨wr.heap.size,1,none⟩=some (.slice x.A x.txs.length x.c)∧w'.cell? (ad.add ((k-1)*2))=some (.int .i64 y))) (by kernel_rfl) ?_ (fun hHeld=> ?_)
         ·(first|exact⟨UA.out.drew,g1,k0,k1,p0⟩|exact⟨hHeld.1.trans hu3,hu3.keepNo hHeld.2.1,hu3.keepNo hHeld.2.2.1,hu3.keepNo hHeld.2.2.2.1,hu3.keepNo hHeld.2.2.2.2⟩)
         refine wpK 0 rfl ?_;refine wpK 1 rfl ?_;refine wpK 2 rfl ?_;refine wpK 3 rfl ?_;refine wpK 4 rfl ?_;refine wpK 5 rfl ?_;refine wpK 6 rfl ?_;refine wpK 7 rfl ?_;refine wpK 8 rfl ?_;refine wpK 9 rfl ?_;refine wpK 10 rfl ?_;refine wpK 11 rfl ?_;refine wpK 12 rfl ?_;refine wpK 13 rfl ?_;refine wpK 14 rfl ?_;refine wpN 15 rfl ?_;refine wpN 16 rfl ?_;refine wpN 17 rfl ?_;refine wpN 18 rfl ?_;refine wpK 19 rfl ?_;refine wpK 20 rfl ?_;refine wpN 21 rfl ?_;refine wpN 22 rfl ?_;refine wpN 23 rfl ?_;refine wpN 24 rfl ?_;refine wpN 25 rfl ?_;refine wpR [26] ?_;refine wpC rfl (fun K hK=> ?_) AllReadyH.nil;go_simp;refine hK.out _ _ ?_ (fun hHeld=> ?_)
         ·exact hHeld
         clear hK K
         try simp only[Act.put,sT,sS,sZ]
         refine wpR [27] ?_;refine wpC rfl (fun K hK=> ?_) AllReadyH.nil;go_simp;refine hK.out _ _ ?_ (fun hHeld=> ?_)
         ·exact hHeld
         clear hK K
         try simp only[Act.put,sT,sS,sZ]
         refine wpN 28 rfl ?_;refine wpK 29 rfl ?_;refine wpD (NoPanic.normal ?_);have HU:=Qh hHeld.1;clear hHeld;go_wp2
         go_ret
         exact⟨by rw[hf.out];rfl,U1.out.trans HU.out⟩
        ·have hah:=Qh (show Zed ords k x.key=true from ZnH hkp hlt hy' x.key (by omega));obtain⟨y,hy⟩:∃y,y'.key=y:=⟨_,rfl⟩;rw[hy]at p0 hordL;clear hy hy' H1;have hge:decide (x.key≤y)=false:=decide_eq_false hordL;have hkk:decide ((0:Int)<(k:Int))=true:=decide_eq_true (by omega);have hkn:decide (0<k)=true:=decide_eq_true (by omega);have hw1:IntKind.i64.wrap ((k:Int)-1)=(k:Int)-1:=IntWalk.i64_in _ (by omega);have hw2:(0:Int)≤(k:Int)-1:=by omega
         have hw3:(1:Int)≤(k:Int):=by omega
         have hw4:(k:Int)-1<(ords.length:Int):=by omega
         have hw5:((k:Int)-1).toNat=k-1:=by omega
         by_cases hE1:x.txs.length=0
         ·have hE0:x.txs=[]:=List.eq_nil_of_length_eq_zero hE1;have hf:=Qh (show Zc ⟨txs,ords,A,c,some ad,d⟩=false from Zdi (k:=k) hlt (by rw[hok.out,hE0];simp));have hEb:((x.txs.length:Int)==0)=true:=by rw[beq_iff_eq];omega
          clear hE1 hE0;have g1:=bH.out.cell 1;have k0:=bo.out.cell 0;have k1:=bo.out.cell 1;simp only[Qz,Qs]at g1 k0 k1;go_wp2;refine wp_region_noPanic ?_;refine wp_region_held_drew (S:=(fun w'=>Upd No w1 w'∧w'.cell? ⟨w.heap.size,1,none⟩=some (.slice (some ad) ords.length d)∧w'.cell? ⟨wr.heap.size,0,none⟩=some (.int .i64 x.key)∧w'.cell? ⟨wr.heap.size,1,none⟩=some (.slice x.A x.txs.length x.c)∧w'.cell? (ad.add ((k-1)*2))=some (.int .i64 y))) (by kernel_rfl) ?_ (fun hHeld=> ?_)
          ·(first|exact⟨UA.out.drew,g1,k0,k1,p0⟩|exact⟨hHeld.1.trans hu3,hu3.keepNo hHeld.2.1,hu3.keepNo hHeld.2.2.1,hu3.keepNo hHeld.2.2.2.1,hu3.keepNo hHeld.2.2.2.2⟩)
          refine wpK 0 rfl ?_;refine wpK 1 rfl ?_;refine wpK 2 rfl ?_;refine wpK 3 rfl ?_;refine wpK 4 rfl ?_;refine wpK 5 rfl ?_;refine wpK 6 rfl ?_;refine wpK 7 rfl ?_;refine wpK 8 rfl ?_;refine wpK 9 rfl ?_;refine wpK 10 rfl ?_;refine wpK 11 rfl ?_;refine wpK 12 rfl ?_;refine wpK 13 rfl ?_;refine wpK 14 rfl ?_;refine wpK 15 rfl ?_;refine wpK 16 rfl ?_;refine wpK 17 rfl ?_;refine wpK 18 rfl ?_;refine wpK 19 rfl ?_;refine wpK 20 rfl ?_;refine wpN 21 rfl ?_;refine wpN 22 rfl ?_;refine wpN 23 rfl ?_;refine wpN 24 rfl ?_;refine wpN 25 rfl ?_;refine wpR [26] ?_;refine wpC rfl (fun K hK=> ?_) AllReadyH.nil;go_simp;refine hK.out _ _ ?_ (fun hHeld=> ?_)
          ·exact hHeld
          clear hK K
          try simp only[Act.put,sT,sS,sZ]
          refine wpR [27] ?_;refine wpC rfl (fun K hK=> ?_) AllReadyH.nil;go_simp;refine hK.out _ _ ?_ (fun hHeld=> ?_)
          ·exact hHeld
          clear hK K
          try simp only[Act.put,sT,sS,sZ]
          refine wpN 28 rfl ?_;refine wpK 29 rfl ?_;refine wpD (NoPanic.normal ?_);have HU:=Qh hHeld.1;clear hHeld;go_wp2
          go_ret
          exact⟨by rw[hf.out];rfl,U1.out.trans HU.out⟩
         ·have hE0:x.txs.isEmpty=false:=by
           cases hh:x.txs with
           |nil=>rw[hh]at hE1;exact absurd rfl hE1
           |cons a l=>rfl
          have hEb:((x.txs.length:Int)==0)=false:=by rw[beq_eq_false_iff_ne];omega
          have HE0:=Qh hE0;clear hE1 hE0
          cases N
          ·have hf:=Qh (show Zc ⟨txs,ords,A,c,some ad,d⟩=false from Zdi (k:=k) hlt (by rw[hok.out];simp));have g1:=bH.out.cell 1;have k0:=bo.out.cell 0;have k1:=bo.out.cell 1;simp only[Qz,Qs]at g1 k0 k1;go_wp2;refine wp_region_noPanic ?_;refine wp_region_held_drew (S:=(fun w'=>Upd No w1 w'∧w'.cell? ⟨w.heap.size,1,none⟩=some (.slice (some ad) ords.length d)∧w'.cell? ⟨wr.heap.size,0,none⟩=some (.int .i64 x.key)∧w'.cell? ⟨wr.heap.size,1,none⟩=some (.slice x.A x.txs.length x.c)∧w'.cell? (ad.add ((k-1)*2))=some (.int .i64 y))) (by kernel_rfl) ?_ (fun hHeld=> ?_)
           ·(first|exact⟨UA.out.drew,g1,k0,k1,p0⟩|exact⟨hHeld.1.trans hu3,hu3.keepNo hHeld.2.1,hu3.keepNo hHeld.2.2.1,hu3.keepNo hHeld.2.2.2.1,hu3.keepNo hHeld.2.2.2.2⟩)
           refine wpK 0 rfl ?_;refine wpK 1 rfl ?_;refine wpK 2 rfl ?_;refine wpK 3 rfl ?_;refine wpK 4 rfl ?_;refine wpK 5 rfl ?_;refine wpK 6 rfl ?_;refine wpK 7 rfl ?_;refine wpK 8 rfl ?_;refine wpK 9 rfl ?_;refine wpK 10 rfl ?_;refine wpK 11 rfl ?_;refine wpK 12 rfl ?_;refine wpK 13 rfl ?_;refine wpK 14 rfl ?_;refine wpK 15 rfl ?_;refine wpK 16 rfl ?_;refine wpK 17 rfl ?_;refine wpK 18 rfl ?_;refine wpK 19 rfl ?_;refine wpK 20 rfl ?_;refine wpK 21 rfl ?_;refine wpK 22 rfl ?_;refine wpK 23 rfl ?_;refine wpK 24 rfl ?_;refine wpK 25 rfl ?_;refine wpR [26] ?_;refine wpC rfl (fun K hK=> ?_) AllReadyH.nil;go_simp;refine hK.out _ _ ?_ (fun hHeld=> ?_)
           ·(first|exact⟨UA.out.drew,g1,k0,k1,p0⟩|exact⟨hHeld.1.trans hu3,hu3.keepNo hHeld.2.1,hu3.keepNo hHeld.2.2.1,hu3.keepNo hHeld.2.2.2.1,hu3.keepNo hHeld.2.2.2.2⟩)
           clear hK K
           try simp only[Act.put,sT,sS,sZ]
           refine wpR [27] ?_;refine wpC rfl (fun K hK=> ?_) AllReadyH.nil;go_simp
           (first
  |(go_at_call 73;refine(ZhS (v:=false) (XL0.out.1.upd (U1.out.trans hHeld.1) (fun _ _=>id)) (hIw.out.upd hHeld.1 (fun _ _=>id)) XL0.out.2.2.1 hwl.out hN.out).mono ?_;rintro e w3 ⟨rfl,hu3⟩))
           try (go_wp2_with fail)
           refine hK.out _ _ ?_ (fun hHeld=> ?_)
           ·(first|exact⟨UA.out.drew,g1,k0,k1,p0⟩|exact⟨hHeld.1.trans hu3,hu3.keepNo hHeld.2.1,hu3.keepNo hHeld.2.2.1,hu3.keepNo hHeld.2.2.2.1,hu3.keepNo hHeld.2.2.2.2⟩)
           clear hK K
           try simp only[Act.put,sT,sS,sZ]
           refine wpK 28 rfl ?_;refine wpK 29 rfl ?_;refine wpD (NoPanic.normal ?_);have HU:=Qh hHeld.1;clear hHeld;go_wp2
           go_ret
           exact⟨by rw[hf.out];rfl,U1.out.trans HU.out⟩
          ·have HA:=Qh (Zca hall2.out (by rw[hok.out,hah.out,HE0.out];rfl));have g1:=bH.out.cell 1;have k0:=bo.out.cell 0;have k1:=bo.out.cell 1;simp only[Qz,Qs]at g1 k0 k1;go_wp2;refine wp_region_noPanic ?_;refine wp_region_held_drew (S:=(fun w'=>Upd No w1 w'∧w'.cell? ⟨w.heap.size,1,none⟩=some (.slice (some ad) ords.length d)∧w'.cell? ⟨wr.heap.size,0,none⟩=some (.int .i64 x.key)∧w'.cell? ⟨wr.heap.size,1,none⟩=some (.slice x.A x.txs.length x.c)∧w'.cell? (ad.add ((k-1)*2))=some (.int .i64 y))) (by kernel_rfl) ?_ (fun hHeld=> ?_)
           ·(first|exact⟨UA.out.drew,g1,k0,k1,p0⟩|exact⟨hHeld.1.trans hu3,hu3.keepNo hHeld.2.1,hu3.keepNo hHeld.2.2.1,hu3.keepNo hHeld.2.2.2.1,hu3.keepNo hHeld.2.2.2.2⟩)
           refine wpK 0 rfl ?_;refine wpK 1 rfl ?_;refine wpK 2 rfl ?_;refine wpK 3 rfl ?_;refine wpK 4 rfl ?_;refine wpK 5 rfl ?_;refine wpK 6 rfl ?_;refine wpK 7 rfl ?_;refine wpK 8 rfl ?_;refine wpK 9 rfl ?_;refine wpK 10 rfl ?_;refine wpK 11 rfl ?_;refine wpK 12 rfl ?_;refine wpK 13 rfl ?_;refine wpK 14 rfl ?_;refine wpK 15 rfl ?_;refine wpK 16 rfl ?_;refine wpK 17 rfl ?_;refine wpK 18 rfl ?_;refine wpK 19 rfl ?_;refine wpK 20 rfl ?_;refine wpK 21 rfl ?_;refine wpK 22 rfl ?_;refine wpK 23 rfl ?_;refine wpK 24 rfl ?_;refine wpK 25 rfl ?_;refine wpR [26] ?_;refine wpC rfl (fun K hK=> ?_) AllReadyH.nil;go_simp;refine hK.out _ _ ?_ (fun hHeld=> ?_)
           ·(first|exact⟨UA.out.drew,g1,k0,k1,p0⟩|exact⟨hHeld.1.trans hu3,hu3.keepNo hHeld.2.1,hu3.keepNo hHeld.2.2.1,hu3.keepNo hHeld.2.2.2.1,hu3.keepNo hHeld.2.2.2.2⟩)
           clear hK K
           try simp only[Act.put,sT,sS,sZ]
           refine wpR [27] ?_;refine wpC rfl (fun K hK=> ?_) AllReadyH.nil;go_simp
           (first
  |(go_at_call 73;refine(ZhS (v:=true) (XL0.out.1.upd (U1.out.trans hHeld.1) (fun _ _=>id)) (hIw.out.upd hHeld.1 (fun _ _=>id)) XL0.out.2.2.1 hwl.out hN.out).mono ?_;rintro e w3 ⟨rfl,hu3⟩))
           try (go_wp2_with fail)
           refine hK.out _ _ ?_ (fun hHeld=> ?_)
           ·(first|exact⟨UA.out.drew,g1,k0,k1,p0⟩|exact⟨hHeld.1.trans hu3,hu3.keepNo hHeld.2.1,hu3.keepNo hHeld.2.2.1,hu3.keepNo hHeld.2.2.2.1,hu3.keepNo hHeld.2.2.2.2⟩)
           clear hK K
           try simp only[Act.put,sT,sS,sZ]
           refine wpK 28 rfl ?_;refine wpK 29 rfl ?_;refine wpD (NoPanic.normal ?_);have HU:=Qh hHeld.1;clear hHeld;go_wp2
           go_roundg (gk-1)
           case measure=>omega
           case rel=>exact⟨k+1,by omega,by go_num,Qh HA.out,HU.out⟩
      ·obtain rfl:k=ords.length:=by omega
       have hv:=Qh (Zn9 (h:=⟨txs,ords,A,c,B,d⟩) (by show txs.length≤4096;omega) hall1.out hlb.out hall2.out);go_wp2
       go_ret
       exact⟨by rw[hv.out];rfl,U1.out.trans hu2⟩
    ·have hne:((m.length:Int) != (ords.length:Int))=true:=by rw[hml,bne_iff_ne];omega
     have hf:=Qh (show Zc ⟨txs,ords,A,c,B,d⟩=false from Zob (by show((Zae txs []).length==ords.length)=false;rw[beq_eq_false_iff_ne];exact hle));clear hml hle;go_wp2
     go_ret
     exact⟨by rw[hf.out];rfl,U1.out⟩
end
/- What the document tells of histories,in plain words;it is what the program tells. -/
section
open Go.RowKit
def Zm0 (a b:List Int):Bool:=a.length==b.length&&a.all fun x=>a.count x==b.count x
theorem ZfE:∀(a b:List Int),a.length=b.length→(∀x∈a,a.count x=b.count x)→a.Perm b
 |[],b,hl,_=>by
  have:b=[]:=List.eq_nil_of_length_eq_zero (by simpa using hl.symm);subst this;exact List.Perm.refl _
 |x::a,b,hl,h=>by
  have hx:=h x (List.mem_cons_self ..)
  have hxb:x∈b:=by
   rw[List.count_cons_self]at hx;exact List.count_pos_iff.1 (by omega)
  have hp:=List.perm_cons_erase hxb;refine((ZfE a (b.erase x) ?_ fun y hy=> ?_).cons x).trans hp.symm
  ·have:=hp.length_eq;simp only[List.length_cons]at*;omega
  ·have h1:=h y (List.mem_cons_of_mem _ hy);rw[hp.count_eq]at h1;simp only[List.count_cons]at h1;omega
theorem ZkK (a b:List Int):Zm0 a b=(Zbi a==Zbi b):=by
 rw[Bool.eq_iff_iff];unfold Zm0;simp only[Bool.and_eq_true,beq_iff_eq,List.all_eq_true]
 constructor
 ·rintro⟨h1,h2⟩;have hp:=ZfE a b h1 h2;exact Zjc (((ZaG a).trans hp).trans (ZaG b).symm) (ZdU a) (ZdU b)
 ·intro h;have hp:a.Perm b:=((ZaG a).symm.trans (by rw[h];exact ZaG b));exact⟨hp.length_eq,fun x _=>hp.count_eq x⟩
/-! keys -/
theorem ZdB {l:List Int} (h:l.Pairwise (·<·)):l.Nodup:=h.imp fun h=>Int.ne_of_lt h
/-! is a history right,by the document -/
theorem Zmc {l:List Int} (h:∀i,i+1<l.length→l.getD i 0<l.getD (i+1) 0):l.Pairwise (·<·):=by
 have key:∀d i:Nat,i+d+1<l.length→l.getD i 0<l.getD (i+d+1) 0:=by
  intro d
  induction d with
  |zero=>intro i hi;exact h i hi
  |succ d ih=>
   intro i hi;have h1:=ih i (by omega);have h2:=h (i+d+1) (by omega);exact Int.lt_trans h1 h2
 rw[List.pairwise_iff_getElem];intro i j hi hj hij;have:=key (j-i-1) i (by omega);rw[show i+(j-i-1)+1=j by omega]at this
 simpa[List.getD_eq_getElem?_getD,Qg hi,Qg hj]using this
theorem ZkR {txs:List HTx} {ords:List HOrd} {i:Nat} (hi:i<ords.length):Zc7 txs ords i=true↔(∀j,j+1=i→(ords.map (·.key)).getD j 0<ords[i].key)∧ords[i].txs≠[]∧Zm0 ords[i].txs (Zr txs ords[i].key)=true:=by
 unfold Zc7;rw[Qg hi,ZkK]
 cases i with
 |zero=>simp
 |succ j=>
  have hj:j<ords.length:=by omega
  simp only[Qg hj];simp[List.getD_eq_getElem?_getD,Qg hj]
  grind
end
/- Orders:the first order that goes along all edges,in plain words;what is kept while ids are taken one by one. -/
section
open Go.RowKit
def Zne (l:List Edge) (left:List Int) (x:Int):Bool:=l.all fun e=> !(decide (e.t=x)&&decide (e.f∈left))
def ZbF (l:List Edge) (L:List Int) (x:Int):Nat:=(l.filter fun e=>decide (e.t=x)&&decide (e.f∈L)).length
def Zel (l:List Edge) (ids:List Int) (a:Int):List Int:=(l.filter fun e=>decide (e.f=a)&&(decide (e.f∈ids)&&decide (e.t∈ids))).map (·.t)
theorem Zli (l:List Edge) (L:List Int) (x:Int):Zne l L x=(ZbF l L x==0):=by
 rw[Bool.eq_iff_iff];unfold Zne ZbF;simp only[List.all_eq_true,beq_iff_eq,List.length_eq_zero_iff,List.filter_eq_nil_iff]
 grind
theorem Zj1 (e:Edge) (l:List Edge) (L:List Int) (x:Int):ZbF (e::l) L x=(if e.t=x∧e.f∈L then 1 else 0)+ZbF l L x:=by
 unfold ZbF
 by_cases h:e.t=x∧e.f∈L
 ·rw[if_pos h,List.filter_cons_of_pos (by simpa using h),List.length_cons];omega
 ·rw[if_neg h,List.filter_cons_of_neg (by simpa using h)];omega
theorem Zm5 (e:Edge) (l:List Edge) (ids:List Int) (a:Int):Zel (e::l) ids a=(if e.f=a∧e.f∈ids∧e.t∈ids then [e.t] else [])++Zel l ids a:=by
 unfold Zel
 by_cases h:e.f=a∧e.f∈ids∧e.t∈ids
 ·rw[if_pos h,List.filter_cons_of_pos (by simpa using h)];rfl
 ·rw[if_neg h,List.filter_cons_of_neg (by simpa using h)];rfl
theorem Zj0 (ids L:List Int) (m x:Int) (hm:m∈L) (hd:L.Nodup) (hi:m∈ids) (hx:x∈ids):∀l:List Edge,ZbF l L x=ZbF l (L.erase m) x+(Zel l ids m).count x
 |[]=>rfl
 |e::l=>by
  have ih:=Zj0 ids L m x hm hd hi hx l;rw[Zj1,Zj1,Zm5,List.count_append,ih];have he:e.f∈L.erase m↔e.f≠m∧e.f∈L:=hd.mem_erase_iff
  by_cases h1:e.t=x
  ·subst h1
   by_cases h2:e.f=m
   ·rw[if_pos ⟨rfl,by rw[h2];exact hm⟩,if_neg (by rw[he];exact fun h=>h.2.1 h2),if_pos ⟨h2,by rw[h2];exact hi,hx⟩];simp;omega
   ·rw[if_neg (c:=e.f=m∧_) (fun h=>h2 h.1)]
    by_cases h3:e.f∈L
    ·rw[if_pos ⟨rfl,h3⟩,if_pos ⟨rfl,he.2 ⟨h2,h3⟩⟩];simp;omega
    ·rw[if_neg (fun h=>h3 h.2),if_neg (fun h=>h3 (he.1 h.2).2)];simp
  ·rw[if_neg (fun h=>h1 h.1),if_neg (fun h=>h1 h.1)]
   split
   ·rw[show[e.t].count x=0 by rw[List.count_singleton];simp[h1]];omega
   ·simp
theorem Zp2 (l:List Edge) (ids:List Int) (a x:Int) (h:x∈Zel l ids a):x∈ids:=by
 unfold Zel at h;obtain⟨e,he,rfl⟩:=List.mem_map.1 h;rw[List.mem_filter]at he;simp only[Bool.and_eq_true,decide_eq_true_eq]at he;exact he.2.2.2
structure TpI (l:List Edge) (ids L nx ys:List Int) (g:Int→Int):Prop where
 rise:L.Pairwise (·<·)
 sub:∀x∈L,x∈ids
 cnt:∀x∈ids,g x=1+((ZbF l L x+nx.count x:Nat):Int)
 heap:ys.Perm (L.filter fun x=>ZbF l L x+nx.count x==0)
 gone:∀x∈ids,x∉L→ZbF l L x+nx.count x=0
 nxs:∀x∈nx,x∈ids
theorem TpI.mem {l:List Edge} {ids L nx ys:List Int} {g:Int→Int} (h:TpI l ids L nx ys g) (x:Int):x∈ys↔x∈L∧ZbF l L x+nx.count x=0:=by
 rw[h.heap.mem_iff,List.mem_filter,beq_iff_eq]
theorem TpI.nodup {l:List Edge} {ids L nx ys:List Int} {g:Int→Int} (h:TpI l ids L nx ys g):ys.Nodup:=h.heap.nodup_iff.2 ((ZdB h.rise).filter _)
theorem TpI.step {l:List Edge} {ids L nx ys:List Int} {x:Int} {g:Int→Int} (h:TpI l ids L (x::nx) ys g):
  TpI l ids L nx (if g x-1=1 then ys++[x] else ys) (fun y=>if y=x then g x-1 else g y):=by
 have hx:=h.nxs x (List.mem_cons_self ..);have hgx:=h.cnt x hx;rw[List.count_cons_self]at hgx
 have hxL:x∈L:=Classical.byContradiction fun hn=>by
  have:=h.gone x hx hn;rw[List.count_cons_self]at this;omega
 have hco:∀y,y≠x→(x::nx).count y=nx.count y:=fun y hy=>List.count_cons_of_ne (Ne.symm hy)
 have hxn:x∉ys:=fun hm=>by
  have:=((h.mem x).1 hm).2;rw[List.count_cons_self]at this;omega
 refine⟨h.rise,h.sub,fun y hy=> ?_,?_,fun y hy hn=> ?_,fun y hy=>h.nxs y (List.mem_cons_of_mem _ hy)⟩
 ·by_cases e:y=x
  ·subst e;rw[if_pos rfl];omega
  ·rw[if_neg e,h.cnt y hy,hco y e]
 ·have hnd:(L.filter fun y=>ZbF l L y+nx.count y==0).Nodup:=(ZdB h.rise).filter _
  split
  ·rename_i he
   refine(List.perm_ext_iff_of_nodup ?_ hnd).2 fun y=> ?_
   ·rw[List.nodup_append];exact⟨h.nodup,by simp,fun a ha b hb=>by rw[List.mem_singleton]at hb;subst hb;exact fun e=>hxn (e▸ha)⟩
   ·rw[List.mem_append,List.mem_singleton,h.mem,List.mem_filter,beq_iff_eq]
    by_cases e:y=x
    ·subst e
     constructor
     ·intro _;exact⟨hxL,by omega⟩
     ·intro _;exact Or.inr rfl
    ·rw[hco y e];simp[e]
  ·rename_i he
   refine(List.perm_ext_iff_of_nodup h.nodup hnd).2 fun y=> ?_
   rw[h.mem,List.mem_filter,beq_iff_eq]
   by_cases e:y=x
   ·subst e;rw[List.count_cons_self]
    constructor
    ·rintro⟨_,h2⟩;omega
    ·rintro⟨_,h2⟩;omega
   ·rw[hco y e]
 ·have:=h.gone y hy hn
  by_cases e:y=x
  ·subst e;exact absurd hxL hn
  ·rw[hco y e]at this;exact this
theorem Zm9 {L:List Int} {p:Int→Bool} {m:Int} (hr:L.Pairwise (·<·)) (hm:m∈L) (hp:p m=true) (hl:∀y∈L,p y=true→m≤y):L.find? p=some m:=by
 cases hf:L.find? p with
 |none=>rw[List.find?_eq_none]at hf;exact absurd hp (hf m hm)
 |some x=>
  have hx:=List.find?_some hf;have hxm:=List.mem_of_find?_eq_some hf;have h1:=hl x hxm hx;rw[List.find?_eq_some_iff_append]at hf;obtain⟨_,l1,l2,rfl,hl1⟩:=hf;rcases List.mem_append.1 hm with h2|h2
  ·have:=hl1 m h2;rw[hp]at this;simp at this
  ·rcases List.mem_cons.1 h2 with rfl|h2
   ·rfl
   ·have:=(List.pairwise_cons.1 (List.pairwise_append.1 hr).2.1).1 m h2;omega
theorem TpI.find {l:List Edge} {ids L ys:List Int} {g:Int→Int} (h:TpI l ids L [] ys g) {m:Int} (hm:m∈ys) (hl:∀y∈ys,m≤y):L.find? (Zne l L)=some m:=by
 have h1:=(h.mem m).1 hm;refine Zm9 h.rise h1.1 (by rw[Zli];simpa using h1.2) fun y hy hp=>hl y ((h.mem y).2 ⟨hy,by rw[Zli]at hp;simpa using hp⟩)
theorem TpI.pop {l:List Edge} {ids L xs ys:List Int} {g:Int→Int} {m:Int} (h:TpI l ids L [] xs g) (hp:(ys++[m]).Perm xs):TpI l ids (L.erase m) (Zel l ids m) ys g:=by
 have hmx:m∈xs:=hp.mem_iff.1 (by simp);have hmL:=(h.mem m).1 hmx;have hnd:=ZdB h.rise;have hmi:=h.sub m hmL.1;have hs:∀x∈ids,ZbF l L x=ZbF l (L.erase m) x+(Zel l ids m).count x:=fun x hx=>Zj0 ids L m x hmL.1 hnd hmi hx l
 have hyn:(ys++[m]).Nodup:=hp.nodup_iff.2 h.nodup;refine⟨h.rise.sublist List.erase_sublist,fun x hx=>h.sub x (List.mem_of_mem_erase hx),fun x hx=> ?_,?_,fun x hx hn=> ?_,fun x hx=>Zp2 l ids m x hx⟩
 ·rw[h.cnt x hx,←hs x hx];simp
 ·refine(List.perm_ext_iff_of_nodup (List.nodup_append.1 hyn).1 ((hnd.erase m).filter _)).2 fun x=> ?_
  rw[List.mem_filter,beq_iff_eq,hnd.mem_erase_iff];have h1:x∈xs↔x∈ys∨x=m:=by rw[←hp.mem_iff,List.mem_append,List.mem_singleton]
  have h2:=h.mem x;have h3:m∉ys:=fun hm=>(List.nodup_append.1 hyn).2.2 m hm m (by simp) rfl
  constructor
  ·intro hx;have h4:=h2.1 (h1.2 (Or.inl hx));refine⟨⟨fun e=>h3 (e▸hx),h4.1⟩,?_⟩;rw[←hs x (h.sub x h4.1)];simpa using h4.2
  ·rintro⟨⟨h4,h5⟩,h6⟩;rw[←hs x (h.sub x h5)]at h6;rcases h1.1 (h2.2 ⟨h5,by simpa using h6⟩)with h7|h7
   ·exact h7
   ·exact absurd h7 h4
 ·rw[←hs x hx];rw[hnd.mem_erase_iff]at hn
  by_cases e:x=m
  ·subst e;simpa using hmL.2
  ·simpa using h.gone x hx (fun h=>hn ⟨e,h⟩)
theorem TpI.start {l:List Edge} {ids L xs:List Int} {g:Int→Int} (hL:L.Pairwise (·<·)) (hm:∀x,x∈L↔x∈ids) (hg:∀x∈ids,g x=1+((ZbF l ids x:Nat):Int)) (hx:xs.Perm (L.filter fun x=>g x==1)):TpI l ids L [] xs g:=by
 have hc:∀x,ZbF l L x=ZbF l ids x:=fun x=>by unfold ZbF;simp only[hm]
 refine⟨hL,fun x hx=>(hm x).1 hx,fun x hx=>by rw[hg x hx,hc];simp,?_,fun x hx hn=>absurd ((hm x).2 hx) hn,fun _ h=>by cases h⟩
 have:(L.filter fun x=>ZbF l L x+([]:List Int).count x==0)=L.filter fun x=>g x==1:=List.filter_congr fun x hx=>by
  rw[hg x ((hm x).1 hx),hc,Bool.eq_iff_iff,beq_iff_eq,beq_iff_eq,List.count_nil];omega
 rw[this];exact hx
end
end Go.Proofs.YtonblekdfinpkaaGreat
