/- Operations cloned, transactions copied and found. -/
import Derived.Lib.SliceRun
import Derived.Test.YtdbjokfejmgepaaProg
import Derived.Lib.AppendZerosOnto
import Derived.Test.YtdbjokfejmgepaaRaah
import Derived.Test.YtdbjokfejmgepaaRaaq
import Derived.Test.YtdbjokfejmgepaaRaau
namespace Go.Proofs.Ytdbjokfejmgepaa
set_option linter.unusedVariables false
set_option linter.unusedSimpArgs false
section
open Go.RowKit
theorem Zli:SlT Try.prog 33 58 4 32:=SlT.mk_ Try.underlying33 (z:= .agg #[.bool false,.int .i64 0,.int .i64 0,.int .i64 0]) (by kernel_rfl) rfl (by omega)
theorem ZhK {l:List HOp}:∀r∈l.map HOp.cells,r.length=4:=fun r hr=>by
 obtain⟨e,_,rfl⟩:=List.mem_map.1 hr;rfl
def Zi (txs:List HTx) (i:Int):Option HTx:=txs.find? fun t=>t.id==i
def ZfT (G:Nat→Prop) (w:World) (o:Option HTx) (e:Ending) (w':World):Prop:=
 (match o with
  |some t=>∃A c,e= .returned (.tuple #[.agg #[.int .i64 t.id,.bool t.done,.slice A t.ops.length c],.bool true])∧t.ops.length≤c∧HOps G w' A t.ops
  |none=>e= .returned (.tuple #[.agg #[.int .i64 0,.bool false,.slice none 0 0],.bool false]))∧Upd No w w'
theorem ZiW {txs:List HTx} {i:Int} (h:∀(k:Nat) (hk:k<txs.length),(txs[k].id==i)=false):Zi txs i=none:=by
 unfold Zi;rw[List.find?_eq_none];intro x hx;obtain⟨k,hk,rfl⟩:=List.mem_iff_getElem.1 hx;rw[h k hk];decide
theorem ZfH {txs:List HTx} {i:Int} {k:Nat} (hk:k<txs.length) (h:∀(j:Nat) (hj:j<k),((txs[j]'(by omega)).id==i)=false) (h1:(txs[k].id==i)=true):Zi txs i=some txs[k]:=by
 unfold Zi;rw[List.find?_eq_some_iff_getElem];exact⟨h1,k,hk,rfl,fun j hj=>by simp only[h j hj];rfl⟩
set_option maxRecDepth 100000 in
theorem Zk0 (F:Nat→Prop) (w:World) (h:Hist) (i:Int) (H:h.lies F w):Calls Try.prog 75 #[h.val,.int .i64 i] w (ZfT F w (Zi h.txs i)):=by
 obtain⟨txs,ords,A,c,B,d⟩:=h;unfold Hist.val;have hf:=H.few;simp only at hf;have b0:=(Blk.new w 39 [.slice A txs.length c,.slice B ords.length d]).alloc (.cells #[.int .i64 0,.bool false,.slice none 0 0] 35);have b1:=Blk.new (w.alloc (.cells #[.slice A txs.length c,.slice B ords.length d] 39)) 35 [.int .i64 0,.bool false,.slice none 0 0];simp only[World.size_alloc]at b1;have B1:=Qh b1;clear b0 b1
 go_enter Try.func75,Try.ntmps75
 go_wp2
 go_loopg [11] txs.length (fun gk s wr=>∃k:Nat,k+gk=txs.length∧s= .int .i64 k∧Hid (∀(j:Nat) (hj:j<txs.length),j<k→(txs[j].id==i)=false)∧Upd No ((w.alloc (.cells #[.slice A txs.length c,.slice B ords.length d] 39)).alloc (.cells #[.int .i64 0,.bool false,.slice none 0 0] 35)) wr)
 case atStart=>exact⟨0,by omega,rfl,Qh (fun j _ hj=>by omega),Upd.refl _ _⟩
 case round=>
  obtain⟨k,hgk,rfl,hall,hu⟩:=hrel;have hu0:Upd No w wr:=(((Upd.refl No w).alloc _).alloc _).trans hu;have bb:=B1.out.upd hu id;have g0:=bb.cell 0;have g1:=bb.cell 1;have g2:=bb.cell 2;have k0:=bb.free 0;have k1:=bb.free 1;have k2:=bb.free 2;simp only[Qz,Qs]at g0 g1 g2;have BB:=Qh bb;clear bb
  by_cases hlt:k<txs.length
  ·obtain⟨ad,hAd,c0,c1,c2⟩:=(H.upd hu0 (fun _ _=>id)).tx_at hlt;simp only at hAd c0 c1 c2;have hmem:=(H.upd hu0 (fun _ _=>id)).tx txs[k] (List.getElem_mem hlt);obtain⟨x,hx⟩:∃x,txs[k]=x:=⟨_,rfl⟩;rw[hx]at c0 c1 c2 hmem;subst hAd;have X:=Qh hx;have M:=Qh hmem;clear hx hmem
   by_cases he:x.id=i
   ·have heb:(x.id==i)=true:=by simpa using he
    clear he g0 g1 g2 k0 k1 k2;have ba:=BB.out.alloc (.cells #[.int .i64 x.id,.bool x.done,.slice x.A x.ops.length x.c] 35);have g0:=ba.cell 0;have g1:=ba.cell 1;have g2:=ba.cell 2;have k0:=ba.free 0;have k1:=ba.free 1;have k2:=ba.free 2;simp only[Qz,Qs]at g0 g1 g2;have BA:=Qh ba;clear ba;have hsome:=Qh (ZfH (txs:=txs) (i:=i) hlt (fun j hj=>hall.out j (by omega) hj) (by rw[X.out];exact heb));go_wp2;have b3:=((BA.out.set_ 0 (.int .i64 x.id)).set_ 1 (.bool x.done)).set_ 2 (.slice x.A x.ops.length x.c);simp only[List.set_cons_zero,List.set_cons_succ]at b3;have r0:=b3.cell 0;have r1:=b3.cell 1;have r2:=b3.cell 2;simp only[Qz,Qs]at r0 r1 r2;have u3:Upd No w ((((wr.alloc (.cells #[.int .i64 x.id,.bool x.done,.slice x.A x.ops.length x.c] 35)).setCell ⟨w.heap.size+1,0,none⟩ (.int .i64 x.id)).setCell ⟨w.heap.size+1,1,none⟩ (.bool x.done)).setCell ⟨w.heap.size+1,2,none⟩ (.slice x.A x.ops.length x.c)):=(((hu0.alloc _).setCell (p:=⟨w.heap.size+1,0,none⟩) (.inr (Nat.le_succ _)) _).setCell (p:=⟨w.heap.size+1,1,none⟩) (.inr (Nat.le_succ _)) _).setCell (p:=⟨w.heap.size+1,2,none⟩) (.inr (Nat.le_succ _)) _;refine bodyPost_ret (v:= .tuple #[.agg #[.int .i64 x.id,.bool x.done,.slice x.A x.ops.length x.c],.bool true]) (by simp[results,Try.results75,go_sem,r0,r1,r2]) rfl ?_;unfold ZfT;rw[show Zi txs i=some x from by rw[hsome.out,X.out]];exact⟨⟨x.A,x.c,rfl,M.out.2.1,HOps.upd (H.tx x (by rw[←X.out];exact List.getElem_mem hlt)).1 u3 (fun _ _=>id)⟩,u3⟩
   ·have heb:(x.id==i)=false:=by simpa using he
    clear he;go_wp2
    go_roundg (gk-1)
    case measure=>omega
    case rel=>exact⟨k+1,by omega,by go_num,Qh (fun j hj hjk=>by
      by_cases e:j=k
      ·subst e;rw[X.out];exact heb
      ·exact hall.out j hj (by omega)),hu.alloc _⟩
  ·obtain rfl:k=txs.length:=by omega
   have hnone:=Qh (ZiW (txs:=txs) (i:=i) fun k hk=>hall.out k hk hk);go_wp2;have b3:=((BB.out.set_ 0 (.int .i64 0)).set_ 1 (.bool false)).set_ 2 (.slice none 0 0);simp only[List.set_cons_zero,List.set_cons_succ]at b3;have r0:=b3.cell 0;have r1:=b3.cell 1;have r2:=b3.cell 2;simp only[Qz,Qs]at r0 r1 r2;have u3:Upd No w (((wr.setCell ⟨w.heap.size+1,0,none⟩ (.int .i64 0)).setCell ⟨w.heap.size+1,1,none⟩ (.bool false)).setCell ⟨w.heap.size+1,2,none⟩ (.slice none 0 0)):=((hu0.setCell (p:=⟨w.heap.size+1,0,none⟩) (.inr (Nat.le_succ _)) _).setCell (p:=⟨w.heap.size+1,1,none⟩) (.inr (Nat.le_succ _)) _).setCell (p:=⟨w.heap.size+1,2,none⟩) (.inr (Nat.le_succ _)) _;refine bodyPost_ret (v:= .tuple #[.agg #[.int .i64 0,.bool false,.slice none 0 0],.bool false]) (by simp[results,Try.results75,go_sem,r0,r1,r2]) rfl ?_;unfold ZfT;rw[hnone.out];exact⟨rfl,u3⟩
end
/- Walks begun elsewhere,and turned,by the program and by the document. -/
section
open Go.RowKit
theorem Walk.drop {F:Nat→Prop} {w:World} {A:Option Addr} {l:List Edge} (h:Walk F w A l) {i c:Nat} (hc:l.length≤c):Walk F w (Zc9 A c i 4) (l.drop i):=by
 unfold Walk;rw[List.map_drop];exact Recs.cut h (by simpa using hc)
theorem Walk.take {F:Nat→Prop} {w:World} {A:Option Addr} {l:List Edge} (h:Walk F w A l) {i:Nat}:Walk F w A (l.take i):=by
 unfold Walk;rw[List.map_take];exact Recs.take h
end
/- Walks turned:the plain law:the least of all that are begun elsewhere is one,from whichever place it is begun. -/
section
open Go.RowKit
theorem ZcE (a b:Edge):ltE a b=true↔a.f<b.f∨(a.f=b.f∧(a.k<b.k∨(a.k=b.k∧(a.key<b.key∨(a.key=b.key∧a.t<b.t))))):=by
 unfold ltE
 split
 ·simp;omega
 ·split
  ·simp;omega
  ·split<;>simp<;>omega
end
/- The document on histories:what is there,orders,writers. -/
section
open Go.RowKit
def Za4 (txs:List HTx) (v:Ver):Bool:=
 if v.tx=0∧v.nth=0 then idB v.key
 else match Zi txs v.tx with
  |some t=>decide (1≤v.nth)&&decide (v.nth≤(Ze t.ops v.key:Int))
  |none=>false
section
variable {F:Nat→Prop} {w:World} {txs:List HTx} {ords:List HOrd} {A:Option Addr} {c:Nat} {B:Option Addr} {d:Nat} {i:Int}
theorem ZbM (H:Hist.lies F w ⟨txs,ords,A,c,B,d⟩) (hf:Zi txs i=none):Calls Try.prog 75 #[.agg #[.slice A txs.length c,.slice B ords.length d],.int .i64 i] w fun e w'=>
  e= .returned (.tuple #[.agg #[.int .i64 0,.bool false,.slice none 0 0],.bool false])∧Upd No w w':=by
 have h:=Zk0 F w ⟨txs,ords,A,c,B,d⟩ i H;refine h.mono ?_;intro e w' hq;unfold ZfT at hq;rw[show Zi (Hist.txs ⟨txs,ords,A,c,B,d⟩) i=none from hf]at hq;exact hq
theorem Zan {t:HTx} (H:Hist.lies F w ⟨txs,ords,A,c,B,d⟩) (hf:Zi txs i=some t):Calls Try.prog 75 #[.agg #[.slice A txs.length c,.slice B ords.length d],.int .i64 i] w fun e w'=>
  ∃A' c',e= .returned (.tuple #[.agg #[.int .i64 t.id,.bool t.done,.slice A' t.ops.length c'],.bool true])∧t.ops.length≤c'∧HOps F w' A' t.ops∧Upd No w w':=by
 have h:=Zk0 F w ⟨txs,ords,A,c,B,d⟩ i H;refine h.mono ?_;intro e w' hq;unfold ZfT at hq;rw[show Zi (Hist.txs ⟨txs,ords,A,c,B,d⟩) i=some t from hf]at hq;obtain⟨⟨A',c',h1,h2,h3⟩,h4⟩:=hq;exact⟨A',c',h1,h2,h3,h4⟩
end
theorem ZjM {txs:List HTx} {v:Ver} (h:¬(v.tx=0∧v.nth=0)) (hf:Zi txs v.tx=none):Za4 txs v=false:=by unfold Za4;rw[if_neg h,hf]
theorem ZjL {txs:List HTx} {v:Ver} {t:HTx} (h:¬(v.tx=0∧v.nth=0)) (hf:Zi txs v.tx=some t):Za4 txs v=(decide (1≤v.nth)&&decide (v.nth≤(Ze t.ops v.key:Int))):=by unfold Za4;rw[if_neg h,hf]
theorem ZdG {txs:List HTx} {i:Int} {t:HTx} (h:Zi txs i=some t):t∈txs:=List.mem_of_find?_eq_some h
set_option maxRecDepth 100000 in
set_option maxHeartbeats 1000000 in
theorem ZnV (F:Nat→Prop) (w:World) (txs:List HTx) (ords:List HOrd) (A:Option Addr) (c:Nat) (B:Option Addr) (d:Nat) (v:Ver) (H:Hist.lies F w ⟨txs,ords,A,c,B,d⟩):
  Calls Try.prog 93 #[.agg #[.slice A txs.length c,.slice B ords.length d],.agg v.cells.toArray] w fun e w'=>e= .returned (.bool (Za4 txs v))∧Upd No w w':=by
 obtain⟨tx,key,nth⟩:=v;unfold Ver.cells;have u0:=((Upd.refl No w).alloc (.cells #[.slice A txs.length c,.slice B ords.length d] 39)).alloc (.cells #[.int .i64 tx,.int .i64 key,.int .i64 nth] 28);have b1:=Blk.new (w.alloc (.cells #[.slice A txs.length c,.slice B ords.length d] 39)) 28 [.int .i64 tx,.int .i64 key,.int .i64 nth];simp only[World.size_alloc]at b1;have B1:=Qh b1;have U0:=Qh u0;have HH:=Qh (H.upd u0 (fun _ _=>id));clear b1 u0
 by_cases h0:tx=0∧nth=0
 ·have HV:=Qh (show Za4 txs ⟨tx,key,nth⟩=idB key by unfold Za4;rw[if_pos h0]);obtain⟨rfl,rfl⟩:=h0;obtain⟨b,hb⟩:∃b,idB key=b:=⟨_,rfl⟩;rw[hb]at HV;have Hb:=Qh hb;clear hb
  go_enter Try.func93,Try.ntmps93
  go_wp2_with fail
  refine(Zay Hb.out).mono ?_;rintro e w1 ⟨rfl,rfl⟩;go_wp2
  go_ret
  exact⟨by rw[HV.out];rfl,U0.out⟩
 ·cases hf:Zi txs tx with
  |none=>
   have HV:=Qh (ZjM (v:=⟨tx,key,nth⟩) h0 hf);have HF:=Qh hf
   by_cases htx:tx=0
   ·have hb1:(tx==0)=true:=by simpa using htx
    have hb2:(nth==0)=false:=by simpa using fun e=>h0 ⟨htx,e⟩
    clear hf h0 htx
    go_enter Try.func93,Try.ntmps93
    go_wp2_with fail
    refine(ZbM HH.out HF.out).mono ?_;rintro e w1 ⟨rfl,hu1⟩;have uT:=hu1.alloc (.cells #[.int .i64 0,.bool false,.slice none 0 0] 35);have hT:∀W,Upd No (w1.alloc (.cells #[.int .i64 0,.bool false,.slice none 0 0] 35)) W→True:=fun W hW=>trivial
    clear hu1;go_wp2;refine wp_region_noPanic ?_;refine wp_region_held_drew (S:=(fun w'=>Upd No (w1.alloc (.cells #[.int .i64 0,.bool false,.slice none 0 0] 35)) w')) (by kernel_rfl) ?_ (fun hHeld=> ?_)
    ·(first|exact(Upd.refl No _).drew|exact hHeld.trans hu3)
    refine wpK 0 rfl ?_;refine wpK 1 rfl ?_;refine wpN 2 rfl ?_;refine wpN 3 rfl ?_;refine wpN 4 rfl ?_;refine wpK 5 rfl ?_;refine wpK 6 rfl ?_;refine wpN 7 rfl ?_;refine wpN 8 rfl ?_;refine wpN 9 rfl ?_;refine wpN 10 rfl ?_;refine wpN 12 rfl ?_;refine wpN 13 rfl ?_;refine wpR [11] ?_;refine wpC rfl (fun K hK=> ?_) AllReadyH.nil;go_simp;refine hK.out _ _ ?_ (fun hHeld=> ?_)
    ·exact hHeld
    clear hK K
    try simp only[Act.put,sT,sS,sZ]
    refine wpN 14 rfl ?_;refine wpK 15 rfl ?_;refine wpK 16 rfl ?_;refine wpD (NoPanic.normal ?_);have HU:=Qh (U0.out.trans (uT.trans hHeld));clear hHeld;go_wp2
    go_ret
    exact⟨by rw[HV.out];rfl,HU.out⟩
   ·have hb1:(tx==0)=false:=by simpa using htx
    clear hf h0 htx
    go_enter Try.func93,Try.ntmps93
    go_wp2_with fail
    refine(ZbM HH.out HF.out).mono ?_;rintro e w1 ⟨rfl,hu1⟩;have uT:=hu1.alloc (.cells #[.int .i64 0,.bool false,.slice none 0 0] 35);have hT:∀W,Upd No (w1.alloc (.cells #[.int .i64 0,.bool false,.slice none 0 0] 35)) W→True:=fun W hW=>trivial
    clear hu1;go_wp2;refine wp_region_noPanic ?_;refine wp_region_held_drew (S:=(fun w'=>Upd No (w1.alloc (.cells #[.int .i64 0,.bool false,.slice none 0 0] 35)) w')) (by kernel_rfl) ?_ (fun hHeld=> ?_)
    ·(first|exact(Upd.refl No _).drew|exact hHeld.trans hu3)
    refine wpK 0 rfl ?_;refine wpK 1 rfl ?_;refine wpN 2 rfl ?_;refine wpN 3 rfl ?_;refine wpN 4 rfl ?_;refine wpK 5 rfl ?_;refine wpK 6 rfl ?_;refine wpN 7 rfl ?_;refine wpN 8 rfl ?_;refine wpN 9 rfl ?_;refine wpN 10 rfl ?_;refine wpN 12 rfl ?_;refine wpN 13 rfl ?_;refine wpR [11] ?_;refine wpC rfl (fun K hK=> ?_) AllReadyH.nil;go_simp;refine hK.out _ _ ?_ (fun hHeld=> ?_)
    ·exact hHeld
    clear hK K
    try simp only[Act.put,sT,sS,sZ]
    refine wpN 14 rfl ?_;refine wpK 15 rfl ?_;refine wpK 16 rfl ?_;refine wpD (NoPanic.normal ?_);have HU:=Qh (U0.out.trans (uT.trans hHeld));clear hHeld;go_wp2
    go_ret
    exact⟨by rw[HV.out];rfl,HU.out⟩
  |some t=>
   have HV:=Qh (ZjL (v:=⟨tx,key,nth⟩) h0 hf);have HF:=Qh hf;have HT:=Qh (H.tx t (ZdG hf))
   by_cases htx:tx=0
   ·have hb1:(tx==0)=true:=by simpa using htx
    have hb2:(nth==0)=false:=by simpa using fun e=>h0 ⟨htx,e⟩
    clear hf h0 htx
    by_cases hn1:1≤nth
    ·go_enter Try.func93,Try.ntmps93
     go_wp2_with fail
     refine(Zan HH.out HF.out).mono ?_;rintro e w1 ⟨A1,c1,rfl,hc1,hh1,hu1⟩;have bT:=Blk.new w1 35 [.int .i64 t.id,.bool t.done,.slice A1 t.ops.length c1];have uT:=hu1.alloc (.cells #[.int .i64 t.id,.bool t.done,.slice A1 t.ops.length c1] 35);have hT:∀W,Upd No (w1.alloc (.cells #[.int .i64 t.id,.bool t.done,.slice A1 t.ops.length c1] 35)) W→W.cell? ⟨w1.heap.size,2,none⟩=some (.slice A1 t.ops.length c1):=fun W hW=>(bT.upd hW id).cell 2
     have hT1:∀W,Upd No (w1.alloc (.cells #[.int .i64 t.id,.bool t.done,.slice A1 t.ops.length c1] 35)) W→W.cell? ⟨w.heap.size+1,1,none⟩=some (.int .i64 key):=fun W hW=>(B1.out.upd (uT.trans hW) id).cell 1
     have hT2:∀W,Upd No (w1.alloc (.cells #[.int .i64 t.id,.bool t.done,.slice A1 t.ops.length c1] 35)) W→W.cell? ⟨w.heap.size+1,2,none⟩=some (.int .i64 nth):=fun W hW=>(B1.out.upd (uT.trans hW) id).cell 2
     have HW:=Qh fun W (hW:Upd No (w1.alloc (.cells #[.int .i64 t.id,.bool t.done,.slice A1 t.ops.length c1] 35)) W)=>Za8 F W A1 c1 t.ops key (HOps.upd hh1 (((Upd.refl No _).alloc _).trans hW) (fun _ _=>id)) HT.out.2.2.1
     have UT:=Qh uT;clear bT uT hu1 hh1;go_wp2;refine wp_region_noPanic ?_;refine wp_region_held_drew (S:=(fun w'=>Upd No (w1.alloc (.cells #[.int .i64 t.id,.bool t.done,.slice A1 t.ops.length c1] 35)) w')) (by kernel_rfl) ?_ (fun hHeld=> ?_)
     ·(first|exact(Upd.refl No _).drew|exact hHeld.trans hu3)
     refine wpK 0 rfl ?_;refine wpK 1 rfl ?_;refine wpK 2 rfl ?_;refine wpK 3 rfl ?_;refine wpK 4 rfl ?_;refine wpK 5 rfl ?_;refine wpK 6 rfl ?_;refine wpK 7 rfl ?_;refine wpK 8 rfl ?_;refine wpK 9 rfl ?_;refine wpK 10 rfl ?_;refine wpK 12 rfl ?_;refine wpK 13 rfl ?_;refine wpR [11] ?_;refine wpC rfl (fun K hK=> ?_) AllReadyH.nil;go_simp
     (first
  |(go_at_call 76;refine(HW.out _ hHeld).mono ?_;rintro e w3 ⟨rfl,hu3⟩))
     try (go_wp2_with fail)
     refine hK.out _ _ ?_ (fun hHeld=> ?_)
     ·(first|exact(Upd.refl No _).drew|exact hHeld.trans hu3)
     clear hK K
     try simp only[Act.put,sT,sS,sZ]
     refine wpK 14 rfl ?_;refine wpK 15 rfl ?_;refine wpK 16 rfl ?_;refine wpD (NoPanic.normal ?_);have HU:=Qh (U0.out.trans (UT.out.trans hHeld));clear hHeld;go_wp2
     go_ret
     exact⟨by rw[HV.out,decide_eq_true hn1];rfl,HU.out⟩
    ·have hnb:decide (1≤nth)=false:=decide_eq_false hn1
     go_enter Try.func93,Try.ntmps93
     go_wp2_with fail
     refine(Zan HH.out HF.out).mono ?_;rintro e w1 ⟨A1,c1,rfl,hc1,hh1,hu1⟩;have bT:=Blk.new w1 35 [.int .i64 t.id,.bool t.done,.slice A1 t.ops.length c1];have uT:=hu1.alloc (.cells #[.int .i64 t.id,.bool t.done,.slice A1 t.ops.length c1] 35);have hT:∀W,Upd No (w1.alloc (.cells #[.int .i64 t.id,.bool t.done,.slice A1 t.ops.length c1] 35)) W→W.cell? ⟨w1.heap.size,2,none⟩=some (.slice A1 t.ops.length c1):=fun W hW=>(bT.upd hW id).cell 2
     have hT1:∀W,Upd No (w1.alloc (.cells #[.int .i64 t.id,.bool t.done,.slice A1 t.ops.length c1] 35)) W→W.cell? ⟨w.heap.size+1,1,none⟩=some (.int .i64 key):=fun W hW=>(B1.out.upd (uT.trans hW) id).cell 1
     have hT2:∀W,Upd No (w1.alloc (.cells #[.int .i64 t.id,.bool t.done,.slice A1 t.ops.length c1] 35)) W→W.cell? ⟨w.heap.size+1,2,none⟩=some (.int .i64 nth):=fun W hW=>(B1.out.upd (uT.trans hW) id).cell 2
     have HW:=Qh fun W (hW:Upd No (w1.alloc (.cells #[.int .i64 t.id,.bool t.done,.slice A1 t.ops.length c1] 35)) W)=>Za8 F W A1 c1 t.ops key (HOps.upd hh1 (((Upd.refl No _).alloc _).trans hW) (fun _ _=>id)) HT.out.2.2.1
     have UT:=Qh uT;clear bT uT hu1 hh1;go_wp2;refine wp_region_noPanic ?_;refine wp_region_held_drew (S:=(fun w'=>Upd No (w1.alloc (.cells #[.int .i64 t.id,.bool t.done,.slice A1 t.ops.length c1] 35)) w')) (by kernel_rfl) ?_ (fun hHeld=> ?_)
     ·(first|exact(Upd.refl No _).drew|exact hHeld.trans hu3)
     refine wpK 0 rfl ?_;refine wpK 1 rfl ?_;refine wpK 2 rfl ?_;refine wpK 3 rfl ?_;refine wpK 4 rfl ?_;refine wpK 5 rfl ?_;refine wpK 6 rfl ?_;refine wpN 7 rfl ?_;refine wpN 8 rfl ?_;refine wpN 9 rfl ?_;refine wpN 10 rfl ?_;refine wpN 12 rfl ?_;refine wpN 13 rfl ?_;refine wpR [11] ?_;refine wpC rfl (fun K hK=> ?_) AllReadyH.nil;go_simp;refine hK.out _ _ ?_ (fun hHeld=> ?_)
     ·exact hHeld
     clear hK K
     try simp only[Act.put,sT,sS,sZ]
     refine wpN 14 rfl ?_;refine wpK 15 rfl ?_;refine wpK 16 rfl ?_;refine wpD (NoPanic.normal ?_);have HU:=Qh (U0.out.trans (UT.out.trans hHeld));clear hHeld;go_wp2
     go_ret
     exact⟨by rw[HV.out,hnb];rfl,HU.out⟩
   ·have hb1:(tx==0)=false:=by simpa using htx
    clear hf h0 htx
    by_cases hn1:1≤nth
    ·go_enter Try.func93,Try.ntmps93
     go_wp2_with fail
     refine(Zan HH.out HF.out).mono ?_;rintro e w1 ⟨A1,c1,rfl,hc1,hh1,hu1⟩;have bT:=Blk.new w1 35 [.int .i64 t.id,.bool t.done,.slice A1 t.ops.length c1];have uT:=hu1.alloc (.cells #[.int .i64 t.id,.bool t.done,.slice A1 t.ops.length c1] 35);have hT:∀W,Upd No (w1.alloc (.cells #[.int .i64 t.id,.bool t.done,.slice A1 t.ops.length c1] 35)) W→W.cell? ⟨w1.heap.size,2,none⟩=some (.slice A1 t.ops.length c1):=fun W hW=>(bT.upd hW id).cell 2
     have hT1:∀W,Upd No (w1.alloc (.cells #[.int .i64 t.id,.bool t.done,.slice A1 t.ops.length c1] 35)) W→W.cell? ⟨w.heap.size+1,1,none⟩=some (.int .i64 key):=fun W hW=>(B1.out.upd (uT.trans hW) id).cell 1
     have hT2:∀W,Upd No (w1.alloc (.cells #[.int .i64 t.id,.bool t.done,.slice A1 t.ops.length c1] 35)) W→W.cell? ⟨w.heap.size+1,2,none⟩=some (.int .i64 nth):=fun W hW=>(B1.out.upd (uT.trans hW) id).cell 2
     have HW:=Qh fun W (hW:Upd No (w1.alloc (.cells #[.int .i64 t.id,.bool t.done,.slice A1 t.ops.length c1] 35)) W)=>Za8 F W A1 c1 t.ops key (HOps.upd hh1 (((Upd.refl No _).alloc _).trans hW) (fun _ _=>id)) HT.out.2.2.1
     have UT:=Qh uT;clear bT uT hu1 hh1;go_wp2;refine wp_region_noPanic ?_;refine wp_region_held_drew (S:=(fun w'=>Upd No (w1.alloc (.cells #[.int .i64 t.id,.bool t.done,.slice A1 t.ops.length c1] 35)) w')) (by kernel_rfl) ?_ (fun hHeld=> ?_)
     ·(first|exact(Upd.refl No _).drew|exact hHeld.trans hu3)
     refine wpK 0 rfl ?_;refine wpK 1 rfl ?_;refine wpK 2 rfl ?_;refine wpK 3 rfl ?_;refine wpK 4 rfl ?_;refine wpK 5 rfl ?_;refine wpK 6 rfl ?_;refine wpK 7 rfl ?_;refine wpK 8 rfl ?_;refine wpK 9 rfl ?_;refine wpK 10 rfl ?_;refine wpK 12 rfl ?_;refine wpK 13 rfl ?_;refine wpR [11] ?_;refine wpC rfl (fun K hK=> ?_) AllReadyH.nil;go_simp
     (first
  |(go_at_call 76;refine(HW.out _ hHeld).mono ?_;rintro e w3 ⟨rfl,hu3⟩))
     try (go_wp2_with fail)
     refine hK.out _ _ ?_ (fun hHeld=> ?_)
     ·(first|exact(Upd.refl No _).drew|exact hHeld.trans hu3)
     clear hK K
     try simp only[Act.put,sT,sS,sZ]
     refine wpK 14 rfl ?_;refine wpK 15 rfl ?_;refine wpK 16 rfl ?_;refine wpD (NoPanic.normal ?_);have HU:=Qh (U0.out.trans (UT.out.trans hHeld));clear hHeld;go_wp2
     go_ret
     exact⟨by rw[HV.out,decide_eq_true hn1];rfl,HU.out⟩
    ·have hnb:decide (1≤nth)=false:=decide_eq_false hn1
     go_enter Try.func93,Try.ntmps93
     go_wp2_with fail
     refine(Zan HH.out HF.out).mono ?_;rintro e w1 ⟨A1,c1,rfl,hc1,hh1,hu1⟩;have bT:=Blk.new w1 35 [.int .i64 t.id,.bool t.done,.slice A1 t.ops.length c1];have uT:=hu1.alloc (.cells #[.int .i64 t.id,.bool t.done,.slice A1 t.ops.length c1] 35);have hT:∀W,Upd No (w1.alloc (.cells #[.int .i64 t.id,.bool t.done,.slice A1 t.ops.length c1] 35)) W→W.cell? ⟨w1.heap.size,2,none⟩=some (.slice A1 t.ops.length c1):=fun W hW=>(bT.upd hW id).cell 2
     have hT1:∀W,Upd No (w1.alloc (.cells #[.int .i64 t.id,.bool t.done,.slice A1 t.ops.length c1] 35)) W→W.cell? ⟨w.heap.size+1,1,none⟩=some (.int .i64 key):=fun W hW=>(B1.out.upd (uT.trans hW) id).cell 1
     have hT2:∀W,Upd No (w1.alloc (.cells #[.int .i64 t.id,.bool t.done,.slice A1 t.ops.length c1] 35)) W→W.cell? ⟨w.heap.size+1,2,none⟩=some (.int .i64 nth):=fun W hW=>(B1.out.upd (uT.trans hW) id).cell 2
     have HW:=Qh fun W (hW:Upd No (w1.alloc (.cells #[.int .i64 t.id,.bool t.done,.slice A1 t.ops.length c1] 35)) W)=>Za8 F W A1 c1 t.ops key (HOps.upd hh1 (((Upd.refl No _).alloc _).trans hW) (fun _ _=>id)) HT.out.2.2.1
     have UT:=Qh uT;clear bT uT hu1 hh1;go_wp2;refine wp_region_noPanic ?_;refine wp_region_held_drew (S:=(fun w'=>Upd No (w1.alloc (.cells #[.int .i64 t.id,.bool t.done,.slice A1 t.ops.length c1] 35)) w')) (by kernel_rfl) ?_ (fun hHeld=> ?_)
     ·(first|exact(Upd.refl No _).drew|exact hHeld.trans hu3)
     refine wpK 0 rfl ?_;refine wpK 1 rfl ?_;refine wpK 2 rfl ?_;refine wpK 3 rfl ?_;refine wpK 4 rfl ?_;refine wpK 5 rfl ?_;refine wpK 6 rfl ?_;refine wpN 7 rfl ?_;refine wpN 8 rfl ?_;refine wpN 9 rfl ?_;refine wpN 10 rfl ?_;refine wpN 12 rfl ?_;refine wpN 13 rfl ?_;refine wpR [11] ?_;refine wpC rfl (fun K hK=> ?_) AllReadyH.nil;go_simp;refine hK.out _ _ ?_ (fun hHeld=> ?_)
     ·exact hHeld
     clear hK K
     try simp only[Act.put,sT,sS,sZ]
     refine wpN 14 rfl ?_;refine wpK 15 rfl ?_;refine wpK 16 rfl ?_;refine wpD (NoPanic.normal ?_);have HU:=Qh (U0.out.trans (UT.out.trans hHeld));clear hHeld;go_wp2
     go_ret
     exact⟨by rw[HV.out,hnb];rfl,HU.out⟩
end
/- The document on histories:needs,right transactions,orders,writers,keys. -/
section
open Go.RowKit
theorem Zfw (id:Int):∀(l:List HOp) (acc:List Ver),(Zr id acc l).length≤acc.length+l.length
 |[],acc=>by simp[Zr]
 |o::l,acc=>by
  rw[Zc4];have:=Zfw id l (if ZaA id o&& !acc.contains (ZT o) then acc++[ZT o] else acc);have h2:(if ZaA id o&& !acc.contains (ZT o) then acc++[ZT o] else acc).length≤acc.length+1:=by split<;>simp
  rw[List.length_cons];omega
set_option maxRecDepth 100000 in
set_option maxHeartbeats 1000000 in
theorem Zmg (F:Nat→Prop) (w:World) (txs:List HTx) (ords:List HOrd) (A:Option Addr) (c:Nat) (B:Option Addr) (d:Nat) (i0:Int) (dn:Bool) (A1:Option Addr) (c1:Nat) (l:List HOp)
  (H:Hist.lies F w ⟨txs,ords,A,c,B,d⟩) (h:HOps F w A1 l) (hl:l.length≤100000):
  Calls Try.prog 71 #[.agg #[.slice A txs.length c,.slice B ords.length d],.agg #[.int .i64 i0,.bool dn,.slice A1 l.length c1]] w fun e w'=>e= .returned (.bool ((Zr i0 [] l).all (Za4 txs)))∧Upd No w w':=by
 have u0:=((Upd.refl No w).alloc (.cells #[.slice A txs.length c,.slice B ords.length d] 39)).alloc (.cells #[.int .i64 i0,.bool dn,.slice A1 l.length c1] 35);have bH:=Qh ((Blk.new w 39 [.slice A txs.length c,.slice B ords.length d]).alloc (.cells #[.int .i64 i0,.bool dn,.slice A1 l.length c1] 35));have HN:=Qh (Zmp F _ i0 dn A1 c1 l (HOps.upd h u0 (fun _ _=>id)) hl);have hlen:=Zfw i0 l [];obtain⟨ns,hns⟩:∃ns,Zr i0 [] l=ns:=⟨_,rfl⟩;rw[hns]at HN hlen ⊢;simp only[List.length_nil,Nat.zero_add]at hlen;have U0:=Qh u0;clear hns u0
 go_enter Try.func71,Try.ntmps71
 go_wp2_with fail
 refine(HN.out).mono ?_;rintro e w1 ⟨A2,c2,rfl,ho2,hu1⟩;have HV:=Qh (Zev ho2);have U1:=Qh (U0.out.trans hu1);have hT0:∀W,Upd No w1 W→W.cell? ⟨w.heap.size,0,none⟩=some (.slice A txs.length c):=fun W hW=>(bH.out.upd (hu1.trans hW) id).cell 0
 have hT1:∀W,Upd No w1 W→W.cell? ⟨w.heap.size,1,none⟩=some (.slice B ords.length d):=fun W hW=>(bH.out.upd (hu1.trans hW) id).cell 1
 have HH:=Qh fun W (hW:Upd No w1 W) v=>ZnV F W txs ords A c B d v (H.upd (U1.out.trans hW) (fun _ _=>id))
 clear ho2 hu1;go_wp2
 go_loopg [10] ns.length (fun gk i wr=>∃(k:Nat),k+gk=ns.length∧i= .int .i64 k∧Hid ((ns.drop k).all (Za4 txs)=ns.all (Za4 txs))∧Upd No w1 wr)
 case atStart=>exact⟨0,by omega,rfl,Qh rfl,Upd.refl _ _⟩
 case round=>
  obtain⟨k,hgk,rfl,hs,hu⟩:=hrel
  by_cases hlt:k<ns.length
  ·obtain⟨ad,hAd,q0,q1,q2⟩:=(HV.out.upd hu (fun _ _=>id)).at_ hlt;obtain⟨x,hx⟩:∃x,ns[k]=x:=⟨_,rfl⟩;rw[hx]at q0 q1 q2;subst hAd;have X:=Qh (show ns.drop k=x::ns.drop (k+1) by rw[←hx];exact List.drop_eq_getElem_cons hlt);have b1:(0:Int)≤(k:Int):=Qn _;have b2:(k:Int)<(ns.length:Int):=by omega
   clear hx;have uA:=hu.alloc (.cells #[.int .i64 x.tx,.int .i64 x.key,.int .i64 x.nth] 28);have hst:=hs.out;rw[X.out,List.all_cons]at hst;have HC:=Qh (HH.out _ uA ⟨x.tx,x.key,x.nth⟩);obtain⟨b,hb⟩:∃b,Za4 txs ⟨x.tx,x.key,x.nth⟩=b:=⟨_,rfl⟩;rw[hb]at HC;rw[show Za4 txs x=b from hb]at hst
   cases b
   ·have HS:=Qh (show ns.all (Za4 txs)=false by rw[←hst];rfl);clear hst hb
    go_wp2_with fail
    refine(HC.out).mono ?_;rintro e w2 ⟨rfl,hu2⟩;have HU:=Qh (U1.out.trans (uA.trans hu2));go_wp2
    go_ret
    exact⟨by rw[HS.out];rfl,HU.out⟩
   ·rw[Bool.true_and]at hst;have HS:=Qh hst;clear hst hb
    go_wp2_with fail
    refine(HC.out).mono ?_;rintro e w2 ⟨rfl,hu2⟩;go_wp2
    go_roundg (gk-1)
    case measure=>omega
    case rel=>exact⟨k+1,by omega,by go_num,HS,uA.trans hu2⟩
  ·obtain rfl:k=ns.length:=by omega
   have HS:=Qh (show ns.all (Za4 txs)=true by rw[←hs.out,List.drop_length];rfl);go_wp2
   go_ret
   exact⟨by rw[HS.out];rfl,U1.out.trans hu⟩
def ZcP (id:Int) (all:List HOp) (k:Nat) (o:HOp):Int:=if opB o=false then 1 else if o.read&&o.tx==id&&decide ((wrN all o.key k:Int)<o.nth) then 6 else 0
def ZaQ (id:Int) (all:List HOp):List HOp→Nat→Int
 |[],_=>0
 |o::l,k=>if ZcP id all k o=0 then ZaQ id all l (k+1) else ZcP id all k o
theorem ZgF (id:Int) (all:List HOp) (o:HOp) (l:List HOp) (k:Nat):ZaQ id all (o::l) k=if ZcP id all k o=0 then ZaQ id all l (k+1) else ZcP id all k o:=rfl
theorem Zis (id:Int) (l:List HOp):∀(m:Nat) (k:Nat),k+m=l.length→Zaz id l k=0→ZaQ id l (l.drop k) k=Zaz id l l.length
 |0,k,hk,h0=>by
  obtain rfl:k=l.length:=by omega
  rw[List.drop_length,h0];rfl
 |m+1,k,hk,h0=>by
  have hlt:k<l.length:=by omega
  rw[List.drop_eq_getElem_cons hlt,ZgF]
  have hb:ZfO id l k=ZcP id l k l[k]:=by
   unfold ZfO ZcP;rw[Qg hlt]
   have:(!decide (l[k].nth≤(wrN l l[k].key k:Int)))=decide ((wrN l l[k].key k:Int)<l[k].nth):=by
    rw[←decide_not];congr 1;simp only[eq_iff_iff];omega
   simp only[this]
  have hstep:Zaz id l (k+1)=ZcP id l k l[k]:=by
   show(if Zaz id l k=0 then ZfO id l k else Zaz id l k)=_
   rw[if_pos h0,hb]
  by_cases hz:ZcP id l k l[k]=0
  ·rw[if_pos hz];exact Zis id l m (k+1) (by omega) (by rw[hstep,hz])
  ·rw[if_neg hz,←hstep]
   have hst:∀n,Zaz id l (k+1+n)=Zaz id l (k+1):=by
    intro n
    induction n with
    |zero=>rfl
    |succ n ih=>
     show(if Zaz id l (k+1+n)=0 then ZfO id l (k+1+n) else Zaz id l (k+1+n))=_
     rw[ih,if_neg (by rw[hstep];exact hz)]
   have:=hst (l.length-(k+1));rw[show k+1+(l.length-(k+1))=l.length by omega]at this;exact this.symm
theorem Zh2 (F:Nat→Prop) (w:World) (A:Option Addr) (c c2:Nat) (l:List HOp) (k:Nat) (key:Int) (h:HOps F w A l) (hk:k≤l.length) (hl:Zy l.length) (hc:l.length≤c2):
  Calls Try.prog 76 #[.slice (Zc9 A c2 0 4) k c,.int .i64 key] w fun e w'=>e= .returned (.int .i64 ((wrN l key k:Nat):Int))∧Upd No w w':=by
 have h1:HOps F w (Zc9 A c2 0 4) (l.take k):=by
  have h2:=Recs.take (Recs.cut (i:=0) h (c:=c2) (by simpa using hc)) (i:=k);unfold HOps;rw[List.drop_zero]at h2
  rwa [List.map_take]
 have hlen:(l.take k).length=k:=by rw[List.length_take];omega
 have:=Za8 F w (Zc9 A c2 0 4) c (l.take k) key h1 (by unfold Zy at*;omega);rw[hlen]at this;have hw:Ze (l.take k) key=wrN l key k:=by unfold Ze wrN;rw[hlen,List.take_take,Nat.min_self]
 rwa [hw]at this
set_option maxRecDepth 100000 in
set_option maxHeartbeats 1000000 in
theorem Zki (F:Nat→Prop) (w:World) (i0:Int) (dn:Bool) (A:Option Addr) (c:Nat) (l:List HOp) (h:HOps F w A l) (hlc:l.length≤c) (hl:Zy l.length):
  Calls Try.prog 70 #[.agg #[.int .i64 i0,.bool dn,.slice A l.length c]] w fun e w'=>e= .returned (.int .i64 (ZaC i0 l))∧Upd No w w':=by
 unfold Zy at hl;have u0:=(Upd.refl No w).alloc (.cells #[.int .i64 i0,.bool dn,.slice A l.length c] 35);have bT:=Qh (Blk.new w 35 [.int .i64 i0,.bool dn,.slice A l.length c]);obtain⟨b,hb⟩:∃b,idB i0=b:=⟨_,rfl⟩
 cases b
 ·have HV:=Qh (show ZaC i0 l=1 by unfold ZaC;rw[if_pos hb]);have Hb:=Qh hb;clear hb
  go_enter Try.func70,Try.ntmps70
  go_wp2_with fail
  refine(Zay Hb.out).mono ?_;rintro e w1 ⟨rfl,rfl⟩;go_wp2
  go_ret
  exact⟨by rw[HV.out];rfl,u0⟩
 ·have hv:=(show ZaC i0 l=if 4095<l.length then 9 else Zaz i0 l l.length by unfold ZaC;rw[if_neg (by rw[hb];decide)]);have Hb:=Qh hb;clear hb
  by_cases hlong:4095<l.length
  ·rw[if_pos hlong]at hv;have HV:=Qh hv;clear hv
   go_enter Try.func70,Try.ntmps70
   go_wp2_with fail
   refine(Zay Hb.out).mono ?_;rintro e w1 ⟨rfl,rfl⟩;go_wp2
   go_ret
   exact⟨by rw[HV.out];rfl,u0⟩
  ·rw[if_neg hlong,←Zis i0 l l.length 0 (by omega) rfl]at hv;have HV:=Qh hv;clear hv
   go_enter Try.func70,Try.ntmps70
   go_wp2_with fail
   refine(Zay Hb.out).mono ?_;rintro e w1 ⟨rfl,rfl⟩;go_wp2
   go_loopg [16] l.length (fun gk i wr=>∃(k:Nat),k+gk=l.length∧i= .int .i64 k∧Hid (ZaQ i0 l (l.drop k) k=ZaQ i0 l (l.drop 0) 0)∧Upd No (w.alloc (.cells #[.int .i64 i0,.bool dn,.slice A l.length c] 35)) wr)
   case atStart=>exact⟨0,by omega,rfl,Qh rfl,Upd.refl _ _⟩
   case round=>
    obtain⟨k,hgk,rfl,hs,hu⟩:=hrel
    by_cases hlt:k<l.length
    ·obtain⟨ad,hAd,q0,q1,q2,q3⟩:=(h.upd (u0.trans hu) (fun _ _=>id)).at_ hlt;obtain⟨x,hx⟩:∃x,l[k]=x:=⟨_,rfl⟩;rw[hx]at q0 q1 q2 q3;obtain⟨rd,ky,tx,nt⟩:=x;simp only at q0 q1 q2 q3;subst hAd;have X:=Qh (show l.drop k=⟨rd,ky,tx,nt⟩::l.drop (k+1) by rw[←hx];exact List.drop_eq_getElem_cons hlt);have b1:(0:Int)≤(k:Int):=Qn _;have b2:(k:Int)<(l.length:Int):=by omega
     clear hx;have hst:=hs.out;rw[X.out,ZgF]at hst;have bO:=Blk.new wr 58 [.bool rd,.int .i64 ky,.int .i64 tx,.int .i64 nt];have HU:=Qh (hu.alloc (.cells #[.bool rd,.int .i64 ky,.int .i64 tx,.int .i64 nt] 58));have hr:=Zg8 (wr.alloc (.cells #[.bool rd,.int .i64 ky,.int .i64 tx,.int .i64 nt] 58)) ⟨rd,ky,tx,nt⟩;obtain⟨bo,hbo⟩:∃bo,opB ⟨rd,ky,tx,nt⟩=bo:=⟨_,rfl⟩;rw[hbo]at hr;have HR:=Qh hr
     cases bo
     ·have HV2:=Qh (show ZaQ i0 l (l.drop 0) 0=1 by rw[←hst];unfold ZcP;rw[if_pos hbo];rfl);clear hst hbo hr bO
      go_wp2_with (go_at_call 49;refine HR.out.mono ?_;rintro e w1 ⟨rfl,hu1⟩)
      go_ret
      exact⟨by rw[HV.out];rw[show ZaQ i0 l (List.drop 0 l) 0=1 from HV2.out];rfl,u0.trans (HU.out.trans hu1)⟩
     ·have hbr:ZcP i0 l k ⟨rd,ky,tx,nt⟩=if rd&&tx==i0&&decide ((wrN l ky k:Int)<nt) then 6 else 0:=by unfold ZcP;rw[if_neg (by rw[hbo];decide)]
      rw[hbr]at hst;have HST:=Qh hst;have BO:=Qh bO;clear hst hbo hr bO hbr;have e0:∀W,Upd No (wr.alloc (.cells #[.bool rd,.int .i64 ky,.int .i64 tx,.int .i64 nt] 58)) W→W.cell? ⟨wr.heap.size,0,none⟩=some (.bool rd):=fun W hW=>(BO.out.upd hW id).cell 0
      have e1:∀W,Upd No (wr.alloc (.cells #[.bool rd,.int .i64 ky,.int .i64 tx,.int .i64 nt] 58)) W→W.cell? ⟨wr.heap.size,1,none⟩=some (.int .i64 ky):=fun W hW=>(BO.out.upd hW id).cell 1
      have e2:∀W,Upd No (wr.alloc (.cells #[.bool rd,.int .i64 ky,.int .i64 tx,.int .i64 nt] 58)) W→W.cell? ⟨wr.heap.size,2,none⟩=some (.int .i64 tx):=fun W hW=>(BO.out.upd hW id).cell 2
      have e3:∀W,Upd No (wr.alloc (.cells #[.bool rd,.int .i64 ky,.int .i64 tx,.int .i64 nt] 58)) W→W.cell? ⟨wr.heap.size,3,none⟩=some (.int .i64 nt):=fun W hW=>(BO.out.upd hW id).cell 3
      have t0:∀W,Upd No (wr.alloc (.cells #[.bool rd,.int .i64 ky,.int .i64 tx,.int .i64 nt] 58)) W→W.cell? ⟨w.heap.size,0,none⟩=some (.int .i64 i0):=fun W hW=>(bT.out.upd (HU.out.trans hW) id).cell 0
      have t2:∀W,Upd No (wr.alloc (.cells #[.bool rd,.int .i64 ky,.int .i64 tx,.int .i64 nt] 58)) W→W.cell? ⟨w.heap.size,2,none⟩=some (.slice (some ad) l.length c):=fun W hW=>(bT.out.upd (HU.out.trans hW) id).cell 2
      have HWr:=Qh fun W (hW:Upd No (wr.alloc (.cells #[.bool rd,.int .i64 ky,.int .i64 tx,.int .i64 nt] 58)) W)=>Zh2 F W (some ad) c c l k ky (HOps.upd h (u0.trans (HU.out.trans hW)) (fun _ _=>id)) (by omega) (by unfold Zy;omega) (by omega)
      have HCut:=fun W=>Zjg W (Zli) (some ad) l.length c k (by omega)
      cases rd
      ·have HS:=Qh (show ZaQ i0 l (l.drop (k+1)) (k+1)=ZaQ i0 l (l.drop 0) 0 by rw[←HST.out];rfl)
       go_wp2_with (go_at_call 49;refine HR.out.mono ?_;rintro e w1 ⟨rfl,hu1⟩)
       refine wp_region_noPanic ?_;refine wp_region_held_drew (S:=(fun w'=>Upd No (wr.alloc (.cells #[.bool false,.int .i64 ky,.int .i64 tx,.int .i64 nt] 58)) w')) (by kernel_rfl) ?_ (fun hHeld=> ?_)
       ·(first|exact hu1.drew|exact hHeld.trans hu3)
       refine wpK 0 rfl ?_;refine wpK 1 rfl ?_;refine wpK 2 rfl ?_;refine wpN 3 rfl ?_;refine wpN 4 rfl ?_;refine wpN 5 rfl ?_;refine wpN 6 rfl ?_;refine wpN 7 rfl ?_;refine wpK 8 rfl ?_;refine wpK 9 rfl ?_;refine wpN 10 rfl ?_;refine wpN 11 rfl ?_;refine wpN 12 rfl ?_;refine wpN 13 rfl ?_;refine wpN 14 rfl ?_;refine wpN 15 rfl ?_;refine wpN 16 rfl ?_;refine wpN 17 rfl ?_;refine wpR [18] ?_;refine wpC rfl (fun K hK=> ?_) AllReadyH.nil;go_simp;refine hK.out _ _ ?_ (fun hHeld=> ?_)
       ·exact hHeld
       clear hK K
       try simp only[Act.put,sT,sS,sZ]
       refine wpN 19 rfl ?_;refine wpK 20 rfl ?_;refine wpD (NoPanic.normal ?_);have HU2:=Qh (HU.out.trans hHeld);clear hHeld e0 e1 e2 e3 t0 t2 HCut;go_wp2
       go_roundg (gk-1)
       case measure=>omega
       case rel=>exact⟨k+1,by omega,by go_num,HS,HU2.out⟩
      ·by_cases hti:tx=i0
       ·have htb:(tx==i0)=true:=by simpa using hti
        by_cases hn:(wrN l ky k:Int)<nt
        ·have HS:=Qh (show ZaQ i0 l (l.drop 0) 0=6 by rw[←HST.out,htb,decide_eq_true hn];rfl);clear hti
         go_wp2_with (go_at_call 49;refine HR.out.mono ?_;rintro e w1 ⟨rfl,hu1⟩)
         refine wp_region_noPanic ?_;refine wp_region_held_drew (S:=(fun w'=>Upd No (wr.alloc (.cells #[.bool true,.int .i64 ky,.int .i64 tx,.int .i64 nt] 58)) w')) (by kernel_rfl) ?_ (fun hHeld=> ?_)
         ·(first|exact hu1.drew|exact hHeld.trans hu3)
         refine wpK 0 rfl ?_;refine wpK 1 rfl ?_;refine wpK 2 rfl ?_;refine wpK 3 rfl ?_;refine wpK 4 rfl ?_;refine wpK 5 rfl ?_;refine wpK 6 rfl ?_;refine wpK 7 rfl ?_;refine wpK 8 rfl ?_;refine wpK 9 rfl ?_;refine wpK 10 rfl ?_;refine wpK 11 rfl ?_;refine wpK 12 rfl ?_;refine wpK 13 rfl ?_;refine wpK 14 rfl ?_;refine wpK 15 rfl ?_;refine wpK 16 rfl ?_;refine wpK 17 rfl ?_;refine wpR [18] ?_;refine wpC rfl (fun K hK=> ?_) AllReadyH.nil;go_simp
         (first
  |(go_at_call 76;refine(HWr.out _ hHeld).mono ?_;rintro e w3 ⟨rfl,hu3⟩))
         try (go_wp2_with fail)
         refine hK.out _ _ ?_ (fun hHeld=> ?_)
         ·(first|exact hu1.drew|exact hHeld.trans hu3)
         clear hK K
         try simp only[Act.put,sT,sS,sZ]
         refine wpK 19 rfl ?_;refine wpK 20 rfl ?_;refine wpD (NoPanic.normal ?_);have HU2:=Qh (HU.out.trans hHeld);clear hHeld e0 e1 e2 e3 t0 t2 HCut;go_wp2
         go_ret
         exact⟨by rw[HV.out];rw[show ZaQ i0 l (List.drop 0 l) 0=6 from HS.out];rfl,u0.trans HU2.out⟩
        ·have HS:=Qh (show ZaQ i0 l (l.drop (k+1)) (k+1)=ZaQ i0 l (l.drop 0) 0 by rw[←HST.out,htb,decide_eq_false hn];rfl);clear hti
         go_wp2_with (go_at_call 49;refine HR.out.mono ?_;rintro e w1 ⟨rfl,hu1⟩)
         refine wp_region_noPanic ?_;refine wp_region_held_drew (S:=(fun w'=>Upd No (wr.alloc (.cells #[.bool true,.int .i64 ky,.int .i64 tx,.int .i64 nt] 58)) w')) (by kernel_rfl) ?_ (fun hHeld=> ?_)
         ·(first|exact hu1.drew|exact hHeld.trans hu3)
         refine wpK 0 rfl ?_;refine wpK 1 rfl ?_;refine wpK 2 rfl ?_;refine wpK 3 rfl ?_;refine wpK 4 rfl ?_;refine wpK 5 rfl ?_;refine wpK 6 rfl ?_;refine wpK 7 rfl ?_;refine wpK 8 rfl ?_;refine wpK 9 rfl ?_;refine wpK 10 rfl ?_;refine wpK 11 rfl ?_;refine wpK 12 rfl ?_;refine wpK 13 rfl ?_;refine wpK 14 rfl ?_;refine wpK 15 rfl ?_;refine wpK 16 rfl ?_;refine wpK 17 rfl ?_;refine wpR [18] ?_;refine wpC rfl (fun K hK=> ?_) AllReadyH.nil;go_simp
         (first
  |(go_at_call 76;refine(HWr.out _ hHeld).mono ?_;rintro e w3 ⟨rfl,hu3⟩))
         try (go_wp2_with fail)
         refine hK.out _ _ ?_ (fun hHeld=> ?_)
         ·(first|exact hu1.drew|exact hHeld.trans hu3)
         clear hK K
         try simp only[Act.put,sT,sS,sZ]
         refine wpK 19 rfl ?_;refine wpK 20 rfl ?_;refine wpD (NoPanic.normal ?_);have HU2:=Qh (HU.out.trans hHeld);clear hHeld e0 e1 e2 e3 t0 t2 HCut;go_wp2
         go_roundg (gk-1)
         case measure=>omega
         case rel=>exact⟨k+1,by omega,by go_num,HS,HU2.out⟩
       ·have htb:(tx==i0)=false:=by simpa using hti
        have HS:=Qh (show ZaQ i0 l (l.drop (k+1)) (k+1)=ZaQ i0 l (l.drop 0) 0 by rw[←HST.out,htb];rfl);clear hti
        go_wp2_with (go_at_call 49;refine HR.out.mono ?_;rintro e w1 ⟨rfl,hu1⟩)
        refine wp_region_noPanic ?_;refine wp_region_held_drew (S:=(fun w'=>Upd No (wr.alloc (.cells #[.bool true,.int .i64 ky,.int .i64 tx,.int .i64 nt] 58)) w')) (by kernel_rfl) ?_ (fun hHeld=> ?_)
        ·(first|exact hu1.drew|exact hHeld.trans hu3)
        refine wpK 0 rfl ?_;refine wpK 1 rfl ?_;refine wpK 2 rfl ?_;refine wpK 3 rfl ?_;refine wpK 4 rfl ?_;refine wpK 5 rfl ?_;refine wpK 6 rfl ?_;refine wpK 7 rfl ?_;refine wpK 8 rfl ?_;refine wpK 9 rfl ?_;refine wpN 10 rfl ?_;refine wpN 11 rfl ?_;refine wpN 12 rfl ?_;refine wpN 13 rfl ?_;refine wpN 14 rfl ?_;refine wpN 15 rfl ?_;refine wpN 16 rfl ?_;refine wpN 17 rfl ?_;refine wpR [18] ?_;refine wpC rfl (fun K hK=> ?_) AllReadyH.nil;go_simp;refine hK.out _ _ ?_ (fun hHeld=> ?_)
        ·exact hHeld
        clear hK K
        try simp only[Act.put,sT,sS,sZ]
        refine wpN 19 rfl ?_;refine wpK 20 rfl ?_;refine wpD (NoPanic.normal ?_);have HU2:=Qh (HU.out.trans hHeld);clear hHeld e0 e1 e2 e3 t0 t2 HCut;go_wp2
        go_roundg (gk-1)
        case measure=>omega
        case rel=>exact⟨k+1,by omega,by go_num,HS,HU2.out⟩
    ·obtain rfl:k=l.length:=by omega
     have HV2:=Qh (show ZaQ i0 l (l.drop 0) 0=0 by rw[←hs.out,List.drop_length];rfl);go_wp2
     go_ret
     exact⟨by rw[HV.out];rw[show ZaQ i0 l (List.drop 0 l) 0=0 from HV2.out];rfl,u0.trans hu⟩
end
end Go.Proofs.Ytdbjokfejmgepaa
