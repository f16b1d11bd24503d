/- Operations cloned, transactions copied and found. -/
import Derived.Lib.SliceRun
import Derived.Test.YtblplapkdmhikaaGreatProg
import Derived.Lib.AppendZerosOnto
import Derived.Deep.RegionHeld3
import Derived.Test.YtblplapkdmhikaaGreatDxak
import Derived.Test.YtblplapkdmhikaaGreatDxam
import Derived.Test.YtblplapkdmhikaaGreatDxas
namespace Go.Proofs.YtblplapkdmhikaaGreat
set_option linter.unusedVariables false
set_option linter.unusedSimpArgs false
section
open Go.RowKit
theorem ZfZ:SlT Tryz.prog 79 95 4 32:=SlT.mk_ Tryz.underlying79 (z:= .agg #[.bool false,.int .i64 0,.int .i64 0,.int .i64 0]) (by kernel_rfl) rfl (by omega)
theorem Zfr {l:List HOp}:∀r∈l.map HOp.cells,r.length=4:=fun r hr=>by
 obtain⟨e,_,rfl⟩:=List.mem_map.1 hr;rfl
theorem Ziv {l:List HOp}:∀v∈(l.map HOp.cells).flatten,v.oneCell'=true:=fun v hv=>by
 obtain⟨r,hr,h⟩:=List.mem_flatten.1 hv;obtain⟨e,_,rfl⟩:=List.mem_map.1 hr;simp only[HOp.cells,List.mem_cons,List.not_mem_nil,or_false]at h;rcases h with rfl|rfl|rfl|rfl<;>rfl
theorem Zjn {W:World} {B n s:Nat} {e:TypeId} (hn:n=W.heap.size) (hB:B≤W.heap.size):(W.alloc (.cells #[] e)).ownsRow B e s (.slice (some ⟨n,0,none⟩) 0 0) 0 []:=by
 subst hn;exact ZJ (World.ownsRow_made W #[] 0 (Nat.le_refl _) (by decide) (by simp)) hB
def Zky (w:World) (l:List HOp) (e:Ending) (w':World):Prop:=∃A c,e= .returned (.slice A l.length c)∧l.length≤c∧HOps (fun i=>w.heap.size≤i) w' A l∧Upd No w w'
theorem Zhn (F:Nat→Prop) (w:World) (A:Option Addr) (c:Nat) (l:List HOp) (h:HOps F w A l) (hl:Ze l.length):
  Calls Tryz.prog 114 #[.slice A l.length c] w (Zky w l):=by
 unfold Ze at hl;have qT:∀(w:World) (a:Option Addr) (n c:Nat),(binOp .eql 79 (.slice a n c) (.slice none 0 0)).run Tryz.prog w= .ok (.bool a.isNone) w:=fun w a n c=>Lib.run_eql_slice_nil w _ _ a n c 0 0 Tryz.underlying79
 cases A with
 |none=>
  have h0:l=[]:=by
   cases l with
   |nil=>rfl
   |cons a l=>obtain⟨_,e,_⟩:=h (by simp);cases e
  subst h0
  go_enter Tryz.func114,Tryz.ntmps114
  go_wp2
  go_ret
  exact⟨none,0,rfl,Nat.le_refl _,fun h=>absurd rfl h,Upd.refl _ _⟩
 |some ad=>
  have hs:=Qh (show Src (w.alloc (.cells #[] 95)) (some ad) l.length 4 (l.map HOp.cells).flatten by
   have:=Recs.src (h.upd ((Upd.refl No w).alloc (.cells #[] 95)) (fun _ _=>id)) Zfr
   rwa [List.length_map]at this)
  go_enter Tryz.func114,Tryz.ntmps114
  go_wp2_with (at_builtin;refine ZiH rfl rfl ZfZ (base:=w.heap.size) (v:= .slice (some ⟨w.heap.size,0,none⟩) 0 0) (n:=0) (m:=l.length) (xs:=[]) rfl rfl (Zjn rfl (Nat.le_refl _)) hs.out Ziv (by omega) (by omega) (by simp) ?_)
  intro v4 w4 hown4 hu4 hg4;obtain⟨A4,c4,rfl⟩:=Zbe hown4;have uw4:Upd No w w4:=((Upd.refl No w).alloc _).then_ hu4 (fun j e=> .inr (Zhk e));have hcap:=ZdV hown4;have hr:=(Recs.of_own Zfr (by omega) hown4).weak (G:=fun i=>w.heap.size≤i) fun i _ e=>(hown4.lt i e).1
  have HR:=Qh (And.intro hcap hr);clear hcap hr;go_wp2
  go_ret
  exact⟨A4,c4,rfl,HR.out.1,HR.out.2,uw4⟩
def Za (txs:List HTx) (i:Int):Option HTx:=txs.find? fun t=>t.id==i
def Zc4 (G:Nat→Prop) (w:World) (o:Option HTx) (e:Ending) (w':World):Prop:=
 (match o with
  |some t=>∃A c,e= .returned (.tuple #[.agg #[.int .i64 t.id,.bool t.done,.slice A t.ops.length c],.bool true])∧t.ops.length≤c∧HOps G w' A t.ops
  |none=>e= .returned (.tuple #[.agg #[.int .i64 0,.bool false,.slice none 0 0],.bool false]))∧Upd No w w'
theorem ZgN {txs:List HTx} {i:Int} (h:∀(k:Nat) (hk:k<txs.length),(txs[k].id==i)=false):Za txs i=none:=by
 unfold Za;rw[List.find?_eq_none];intro x hx;obtain⟨k,hk,rfl⟩:=List.mem_iff_getElem.1 hx;rw[h k hk];decide
theorem ZdO {txs:List HTx} {i:Int} {k:Nat} (hk:k<txs.length) (h:∀(j:Nat) (hj:j<k),((txs[j]'(by omega)).id==i)=false) (h1:(txs[k].id==i)=true):Za txs i=some txs[k]:=by
 unfold Za;rw[List.find?_eq_some_iff_getElem];exact⟨h1,k,hk,rfl,fun j hj=>by simp only[h j hj];rfl⟩
set_option maxRecDepth 100000 in
theorem Zgs (F:Nat→Prop) (w:World) (h:Hist) (i:Int) (H:h.lies F w):Calls Tryz.prog 121 #[h.val,.int .i64 i] w (Zc4 F w (Za h.txs i)):=by
 obtain⟨txs,ords,A,c,B,d⟩:=h;unfold Hist.val;have hf:=H.few;simp only at hf;have b0:=(Blk.new w 29 [.slice A txs.length c,.slice B ords.length d]).alloc (.cells #[.int .i64 0,.bool false,.slice none 0 0] 81);have b1:=Blk.new (w.alloc (.cells #[.slice A txs.length c,.slice B ords.length d] 29)) 81 [.int .i64 0,.bool false,.slice none 0 0];simp only[World.size_alloc]at b1;have B1:=Qh b1;clear b0 b1
 go_enter Tryz.func121,Tryz.ntmps121
 go_wp2
 go_loopg [11] txs.length (fun gk s wr=>∃k:Nat,k+gk=txs.length∧s= .int .i64 k∧Hid (∀(j:Nat) (hj:j<txs.length),j<k→(txs[j].id==i)=false)∧Upd No ((w.alloc (.cells #[.slice A txs.length c,.slice B ords.length d] 29)).alloc (.cells #[.int .i64 0,.bool false,.slice none 0 0] 81)) wr)
 case atStart=>exact⟨0,by omega,rfl,Qh (fun j _ hj=>by omega),Upd.refl _ _⟩
 case round=>
  obtain⟨k,hgk,rfl,hall,hu⟩:=hrel;have hu0:Upd No w wr:=(((Upd.refl No w).alloc _).alloc _).trans hu;have bb:=B1.out.upd hu id;have g0:=bb.cell 0;have g1:=bb.cell 1;have g2:=bb.cell 2;have k0:=bb.free 0;have k1:=bb.free 1;have k2:=bb.free 2;simp only[Qz,Qs]at g0 g1 g2;have BB:=Qh bb;clear bb
  by_cases hlt:k<txs.length
  ·obtain⟨ad,hAd,c0,c1,c2⟩:=(H.upd hu0 (fun _ _=>id)).tx_at hlt;simp only at hAd c0 c1 c2;have hmem:=(H.upd hu0 (fun _ _=>id)).tx txs[k] (List.getElem_mem hlt);obtain⟨x,hx⟩:∃x,txs[k]=x:=⟨_,rfl⟩;rw[hx]at c0 c1 c2 hmem;subst hAd;have X:=Qh hx;have M:=Qh hmem;clear hx hmem
   by_cases he:x.id=i
   ·have heb:(x.id==i)=true:=by simpa using he
    clear he g0 g1 g2 k0 k1 k2;have ba:=BB.out.alloc (.cells #[.int .i64 x.id,.bool x.done,.slice x.A x.ops.length x.c] 81);have g0:=ba.cell 0;have g1:=ba.cell 1;have g2:=ba.cell 2;have k0:=ba.free 0;have k1:=ba.free 1;have k2:=ba.free 2;simp only[Qz,Qs]at g0 g1 g2;have BA:=Qh ba;clear ba;have hsome:=Qh (ZdO (txs:=txs) (i:=i) hlt (fun j hj=>hall.out j (by omega) hj) (by rw[X.out];exact heb));go_wp2;have b3:=((BA.out.set_ 0 (.int .i64 x.id)).set_ 1 (.bool x.done)).set_ 2 (.slice x.A x.ops.length x.c);simp only[List.set_cons_zero,List.set_cons_succ]at b3;have r0:=b3.cell 0;have r1:=b3.cell 1;have r2:=b3.cell 2;simp only[Qz,Qs]at r0 r1 r2;have u3:Upd No w ((((wr.alloc (.cells #[.int .i64 x.id,.bool x.done,.slice x.A x.ops.length x.c] 81)).setCell ⟨w.heap.size+1,0,none⟩ (.int .i64 x.id)).setCell ⟨w.heap.size+1,1,none⟩ (.bool x.done)).setCell ⟨w.heap.size+1,2,none⟩ (.slice x.A x.ops.length x.c)):=(((hu0.alloc _).setCell (p:=⟨w.heap.size+1,0,none⟩) (.inr (Nat.le_succ _)) _).setCell (p:=⟨w.heap.size+1,1,none⟩) (.inr (Nat.le_succ _)) _).setCell (p:=⟨w.heap.size+1,2,none⟩) (.inr (Nat.le_succ _)) _;refine bodyPost_ret (v:= .tuple #[.agg #[.int .i64 x.id,.bool x.done,.slice x.A x.ops.length x.c],.bool true]) (by simp[results,Tryz.results121,go_sem,r0,r1,r2]) rfl ?_;unfold Zc4;rw[show Za txs i=some x from by rw[hsome.out,X.out]];exact⟨⟨x.A,x.c,rfl,M.out.2.1,HOps.upd (H.tx x (by rw[←X.out];exact List.getElem_mem hlt)).1 u3 (fun _ _=>id)⟩,u3⟩
   ·have heb:(x.id==i)=false:=by simpa using he
    clear he;go_wp2
    go_roundg (gk-1)
    case measure=>omega
    case rel=>exact⟨k+1,by omega,by go_num,Qh (fun j hj hjk=>by
      by_cases e:j=k
      ·subst e;rw[X.out];exact heb
      ·exact hall.out j hj (by omega)),hu.alloc _⟩
  ·obtain rfl:k=txs.length:=by omega
   have hnone:=Qh (ZgN (txs:=txs) (i:=i) fun k hk=>hall.out k hk hk);go_wp2;have b3:=((BB.out.set_ 0 (.int .i64 0)).set_ 1 (.bool false)).set_ 2 (.slice none 0 0);simp only[List.set_cons_zero,List.set_cons_succ]at b3;have r0:=b3.cell 0;have r1:=b3.cell 1;have r2:=b3.cell 2;simp only[Qz,Qs]at r0 r1 r2;have u3:Upd No w (((wr.setCell ⟨w.heap.size+1,0,none⟩ (.int .i64 0)).setCell ⟨w.heap.size+1,1,none⟩ (.bool false)).setCell ⟨w.heap.size+1,2,none⟩ (.slice none 0 0)):=((hu0.setCell (p:=⟨w.heap.size+1,0,none⟩) (.inr (Nat.le_succ _)) _).setCell (p:=⟨w.heap.size+1,1,none⟩) (.inr (Nat.le_succ _)) _).setCell (p:=⟨w.heap.size+1,2,none⟩) (.inr (Nat.le_succ _)) _;refine bodyPost_ret (v:= .tuple #[.agg #[.int .i64 0,.bool false,.slice none 0 0],.bool false]) (by simp[results,Tryz.results121,go_sem,r0,r1,r2]) rfl ?_;unfold Zc4;rw[hnone.out];exact⟨rfl,u3⟩
end
/- Walks begun elsewhere,and turned,by the program and by the document. -/
section
open Go.RowKit
theorem Walk.src {F:Nat→Prop} {w:World} {A:Option Addr} {l:List Edge} (h:Walk F w A l) {n:Nat} (hn:n=l.length):Src w A n 4 (l.map Edge.cells).flatten:=by
 subst hn;have:=Recs.src h Zeu
 rwa [List.length_map]at this
theorem Walk.drop {F:Nat→Prop} {w:World} {A:Option Addr} {l:List Edge} (h:Walk F w A l) {i c:Nat} (hc:l.length≤c):Walk F w (Zao A c i 4) (l.drop i):=by
 unfold Walk;rw[List.map_drop];exact Recs.cut h (by simpa using hc)
theorem Walk.take {F:Nat→Prop} {w:World} {A:Option Addr} {l:List Edge} (h:Walk F w A l) {i:Nat}:Walk F w A (l.take i):=by
 unfold Walk;rw[List.map_take];exact Recs.take h
end
/- The document on histories:what is there,orders,writers. -/
section
open Go.RowKit
def Zcy (txs:List HTx) (v:Ver):Bool:=
 if v.tx=0∧v.nth=0 then idB v.key
 else match Za txs v.tx with
  |some t=>decide (1≤v.nth)&&decide (v.nth≤(Zg t.ops v.key:Int))
  |none=>false
section
variable {F:Nat→Prop} {w:World} {txs:List HTx} {ords:List HOrd} {A:Option Addr} {c:Nat} {B:Option Addr} {d:Nat} {i:Int}
theorem Zdx (H:Hist.lies F w ⟨txs,ords,A,c,B,d⟩) (hf:Za txs i=none):Calls Tryz.prog 121 #[.agg #[.slice A txs.length c,.slice B ords.length d],.int .i64 i] w fun e w'=>
  e= .returned (.tuple #[.agg #[.int .i64 0,.bool false,.slice none 0 0],.bool false])∧Upd No w w':=by
 have h:=Zgs F w ⟨txs,ords,A,c,B,d⟩ i H;refine h.mono ?_;intro e w' hq;unfold Zc4 at hq;rw[show Za (Hist.txs ⟨txs,ords,A,c,B,d⟩) i=none from hf]at hq;exact hq
theorem Zbr {t:HTx} (H:Hist.lies F w ⟨txs,ords,A,c,B,d⟩) (hf:Za txs i=some t):Calls Tryz.prog 121 #[.agg #[.slice A txs.length c,.slice B ords.length d],.int .i64 i] w fun e w'=>
  ∃A' c',e= .returned (.tuple #[.agg #[.int .i64 t.id,.bool t.done,.slice A' t.ops.length c'],.bool true])∧t.ops.length≤c'∧HOps F w' A' t.ops∧Upd No w w':=by
 have h:=Zgs F w ⟨txs,ords,A,c,B,d⟩ i H;refine h.mono ?_;intro e w' hq;unfold Zc4 at hq;rw[show Za (Hist.txs ⟨txs,ords,A,c,B,d⟩) i=some t from hf]at hq;obtain⟨⟨A',c',h1,h2,h3⟩,h4⟩:=hq;exact⟨A',c',h1,h2,h3,h4⟩
end
theorem ZhI {txs:List HTx} {v:Ver} (h:¬(v.tx=0∧v.nth=0)) (hf:Za txs v.tx=none):Zcy txs v=false:=by unfold Zcy;rw[if_neg h,hf]
theorem ZhH {txs:List HTx} {v:Ver} {t:HTx} (h:¬(v.tx=0∧v.nth=0)) (hf:Za txs v.tx=some t):Zcy txs v=(decide (1≤v.nth)&&decide (v.nth≤(Zg t.ops v.key:Int))):=by unfold Zcy;rw[if_neg h,hf]
theorem ZiA {txs:List HTx} {i:Int} {t:HTx} (h:Za txs i=some t):t∈txs:=List.mem_of_find?_eq_some h
set_option maxRecDepth 100000 in
set_option maxHeartbeats 1000000 in
theorem Zk2 (F:Nat→Prop) (w:World) (txs:List HTx) (ords:List HOrd) (A:Option Addr) (c:Nat) (B:Option Addr) (d:Nat) (v:Ver) (H:Hist.lies F w ⟨txs,ords,A,c,B,d⟩):
  Calls Tryz.prog 186 #[.agg #[.slice A txs.length c,.slice B ords.length d],.agg v.cells.toArray] w fun e w'=>e= .returned (.bool (Zcy txs v))∧Upd No w w':=by
 obtain⟨tx,key,nth⟩:=v;unfold Ver.cells;have u0:=((Upd.refl No w).alloc (.cells #[.slice A txs.length c,.slice B ords.length d] 29)).alloc (.cells #[.int .i64 tx,.int .i64 key,.int .i64 nth] 36);have b1:=Blk.new (w.alloc (.cells #[.slice A txs.length c,.slice B ords.length d] 29)) 36 [.int .i64 tx,.int .i64 key,.int .i64 nth];simp only[World.size_alloc]at b1;have B1:=Qh b1;have U0:=Qh u0;have HH:=Qh (H.upd u0 (fun _ _=>id));clear b1 u0
 by_cases h0:tx=0∧nth=0
 ·have HV:=Qh (show Zcy txs ⟨tx,key,nth⟩=idB key by unfold Zcy;rw[if_pos h0]);obtain⟨rfl,rfl⟩:=h0;obtain⟨b,hb⟩:∃b,idB key=b:=⟨_,rfl⟩;rw[hb]at HV;have Hb:=Qh hb;clear hb
  go_enter Tryz.func186,Tryz.ntmps186
  go_wp2_with fail
  refine(Zah Hb.out).mono ?_;rintro e w1 ⟨rfl,rfl⟩;go_wp2
  go_ret
  exact⟨by rw[HV.out];rfl,U0.out⟩
 ·cases hf:Za txs tx with
  |none=>
   have HV:=Qh (ZhI (v:=⟨tx,key,nth⟩) h0 hf);have HF:=Qh hf
   by_cases htx:tx=0
   ·have hb1:(tx==0)=true:=by simpa using htx
    have hb2:(nth==0)=false:=by simpa using fun e=>h0 ⟨htx,e⟩
    clear hf h0 htx
    go_enter Tryz.func186,Tryz.ntmps186
    go_wp2_with fail
    refine(Zdx HH.out HF.out).mono ?_;rintro e w1 ⟨rfl,hu1⟩;have uT:=hu1.alloc (.cells #[.int .i64 0,.bool false,.slice none 0 0] 81);have hT:∀W,Upd No (w1.alloc (.cells #[.int .i64 0,.bool false,.slice none 0 0] 81)) W→True:=fun W hW=>trivial
    clear hu1;go_wp2;refine wp_region_noPanic ?_;refine wp_region_held_drew (S:=(fun w'=>Upd No (w1.alloc (.cells #[.int .i64 0,.bool false,.slice none 0 0] 81)) w')) (by kernel_rfl) ?_ (fun hHeld=> ?_)
    ·(first|exact(Upd.refl No _).drew|exact hHeld.trans hu3)
    refine wpK 0 rfl ?_;refine wpK 1 rfl ?_;refine wpN 2 rfl ?_;refine wpN 3 rfl ?_;refine wpN 4 rfl ?_;refine wpK 5 rfl ?_;refine wpK 6 rfl ?_;refine wpN 7 rfl ?_;refine wpN 8 rfl ?_;refine wpN 9 rfl ?_;refine wpN 10 rfl ?_;refine wpN 12 rfl ?_;refine wpN 13 rfl ?_;refine wpR [11] ?_;refine wpC rfl (fun K hK=> ?_) AllReadyH.nil;go_simp;refine hK.out _ _ ?_ (fun hHeld=> ?_)
    ·exact hHeld
    clear hK K
    try simp only[Act.put,sT,sS,sZ]
    refine wpN 14 rfl ?_;refine wpK 15 rfl ?_;refine wpK 16 rfl ?_;refine wpD (NoPanic.normal ?_);have HU:=Qh (U0.out.trans (uT.trans hHeld));clear hHeld;go_wp2
    go_ret
    exact⟨by rw[HV.out];rfl,HU.out⟩
   ·have hb1:(tx==0)=false:=by simpa using htx
    clear hf h0 htx
    go_enter Tryz.func186,Tryz.ntmps186
    go_wp2_with fail
    refine(Zdx HH.out HF.out).mono ?_;rintro e w1 ⟨rfl,hu1⟩;have uT:=hu1.alloc (.cells #[.int .i64 0,.bool false,.slice none 0 0] 81);have hT:∀W,Upd No (w1.alloc (.cells #[.int .i64 0,.bool false,.slice none 0 0] 81)) W→True:=fun W hW=>trivial
    clear hu1;go_wp2;refine wp_region_noPanic ?_;refine wp_region_held_drew (S:=(fun w'=>Upd No (w1.alloc (.cells #[.int .i64 0,.bool false,.slice none 0 0] 81)) w')) (by kernel_rfl) ?_ (fun hHeld=> ?_)
    ·(first|exact(Upd.refl No _).drew|exact hHeld.trans hu3)
    refine wpK 0 rfl ?_;refine wpK 1 rfl ?_;refine wpN 2 rfl ?_;refine wpN 3 rfl ?_;refine wpN 4 rfl ?_;refine wpK 5 rfl ?_;refine wpK 6 rfl ?_;refine wpN 7 rfl ?_;refine wpN 8 rfl ?_;refine wpN 9 rfl ?_;refine wpN 10 rfl ?_;refine wpN 12 rfl ?_;refine wpN 13 rfl ?_;refine wpR [11] ?_;refine wpC rfl (fun K hK=> ?_) AllReadyH.nil;go_simp;refine hK.out _ _ ?_ (fun hHeld=> ?_)
    ·exact hHeld
    clear hK K
    try simp only[Act.put,sT,sS,sZ]
    refine wpN 14 rfl ?_;refine wpK 15 rfl ?_;refine wpK 16 rfl ?_;refine wpD (NoPanic.normal ?_);have HU:=Qh (U0.out.trans (uT.trans hHeld));clear hHeld;go_wp2
    go_ret
    exact⟨by rw[HV.out];rfl,HU.out⟩
  |some t=>
   have HV:=Qh (ZhH (v:=⟨tx,key,nth⟩) h0 hf);have HF:=Qh hf;have HT:=Qh (H.tx t (ZiA hf))
   by_cases htx:tx=0
   ·have hb1:(tx==0)=true:=by simpa using htx
    have hb2:(nth==0)=false:=by simpa using fun e=>h0 ⟨htx,e⟩
    clear hf h0 htx
    by_cases hn1:1≤nth
    ·go_enter Tryz.func186,Tryz.ntmps186
     go_wp2_with fail
     refine(Zbr HH.out HF.out).mono ?_;rintro e w1 ⟨A1,c1,rfl,hc1,hh1,hu1⟩;have bT:=Blk.new w1 81 [.int .i64 t.id,.bool t.done,.slice A1 t.ops.length c1];have uT:=hu1.alloc (.cells #[.int .i64 t.id,.bool t.done,.slice A1 t.ops.length c1] 81);have hT:∀W,Upd No (w1.alloc (.cells #[.int .i64 t.id,.bool t.done,.slice A1 t.ops.length c1] 81)) W→W.cell? ⟨w1.heap.size,2,none⟩=some (.slice A1 t.ops.length c1):=fun W hW=>(bT.upd hW id).cell 2
     have hT1:∀W,Upd No (w1.alloc (.cells #[.int .i64 t.id,.bool t.done,.slice A1 t.ops.length c1] 81)) W→W.cell? ⟨w.heap.size+1,1,none⟩=some (.int .i64 key):=fun W hW=>(B1.out.upd (uT.trans hW) id).cell 1
     have hT2:∀W,Upd No (w1.alloc (.cells #[.int .i64 t.id,.bool t.done,.slice A1 t.ops.length c1] 81)) W→W.cell? ⟨w.heap.size+1,2,none⟩=some (.int .i64 nth):=fun W hW=>(B1.out.upd (uT.trans hW) id).cell 2
     have HW:=Qh fun W (hW:Upd No (w1.alloc (.cells #[.int .i64 t.id,.bool t.done,.slice A1 t.ops.length c1] 81)) W)=>Za5 F W A1 c1 t.ops key (HOps.upd hh1 (((Upd.refl No _).alloc _).trans hW) (fun _ _=>id)) HT.out.2.2.1
     have UT:=Qh uT;clear bT uT hu1 hh1;go_wp2;refine wp_region_noPanic ?_;refine wp_region_held_drew (S:=(fun w'=>Upd No (w1.alloc (.cells #[.int .i64 t.id,.bool t.done,.slice A1 t.ops.length c1] 81)) w')) (by kernel_rfl) ?_ (fun hHeld=> ?_)
     ·(first|exact(Upd.refl No _).drew|exact hHeld.trans hu3)
     refine wpK 0 rfl ?_;refine wpK 1 rfl ?_;refine wpK 2 rfl ?_;refine wpK 3 rfl ?_;refine wpK 4 rfl ?_;refine wpK 5 rfl ?_;refine wpK 6 rfl ?_;refine wpK 7 rfl ?_;refine wpK 8 rfl ?_;refine wpK 9 rfl ?_;refine wpK 10 rfl ?_;refine wpK 12 rfl ?_;refine wpK 13 rfl ?_;refine wpR [11] ?_;refine wpC rfl (fun K hK=> ?_) AllReadyH.nil;go_simp
     (first
  |(go_at_call 113;refine(HW.out _ hHeld).mono ?_;rintro e w3 ⟨rfl,hu3⟩))
     try (go_wp2_with fail)
     refine hK.out _ _ ?_ (fun hHeld=> ?_)
     ·(first|exact(Upd.refl No _).drew|exact hHeld.trans hu3)
     clear hK K
     try simp only[Act.put,sT,sS,sZ]
     refine wpK 14 rfl ?_;refine wpK 15 rfl ?_;refine wpK 16 rfl ?_;refine wpD (NoPanic.normal ?_);have HU:=Qh (U0.out.trans (UT.out.trans hHeld));clear hHeld;go_wp2
     go_ret
     exact⟨by rw[HV.out,decide_eq_true hn1];rfl,HU.out⟩
    ·have hnb:decide (1≤nth)=false:=decide_eq_false hn1
     go_enter Tryz.func186,Tryz.ntmps186
     go_wp2_with fail
     refine(Zbr HH.out HF.out).mono ?_;rintro e w1 ⟨A1,c1,rfl,hc1,hh1,hu1⟩;have bT:=Blk.new w1 81 [.int .i64 t.id,.bool t.done,.slice A1 t.ops.length c1];have uT:=hu1.alloc (.cells #[.int .i64 t.id,.bool t.done,.slice A1 t.ops.length c1] 81);have hT:∀W,Upd No (w1.alloc (.cells #[.int .i64 t.id,.bool t.done,.slice A1 t.ops.length c1] 81)) W→W.cell? ⟨w1.heap.size,2,none⟩=some (.slice A1 t.ops.length c1):=fun W hW=>(bT.upd hW id).cell 2
     have hT1:∀W,Upd No (w1.alloc (.cells #[.int .i64 t.id,.bool t.done,.slice A1 t.ops.length c1] 81)) W→W.cell? ⟨w.heap.size+1,1,none⟩=some (.int .i64 key):=fun W hW=>(B1.out.upd (uT.trans hW) id).cell 1
     have hT2:∀W,Upd No (w1.alloc (.cells #[.int .i64 t.id,.bool t.done,.slice A1 t.ops.length c1] 81)) W→W.cell? ⟨w.heap.size+1,2,none⟩=some (.int .i64 nth):=fun W hW=>(B1.out.upd (uT.trans hW) id).cell 2
     have HW:=Qh fun W (hW:Upd No (w1.alloc (.cells #[.int .i64 t.id,.bool t.done,.slice A1 t.ops.length c1] 81)) W)=>Za5 F W A1 c1 t.ops key (HOps.upd hh1 (((Upd.refl No _).alloc _).trans hW) (fun _ _=>id)) HT.out.2.2.1
     have UT:=Qh uT;clear bT uT hu1 hh1;go_wp2;refine wp_region_noPanic ?_;refine wp_region_held_drew (S:=(fun w'=>Upd No (w1.alloc (.cells #[.int .i64 t.id,.bool t.done,.slice A1 t.ops.length c1] 81)) w')) (by kernel_rfl) ?_ (fun hHeld=> ?_)
     ·(first|exact(Upd.refl No _).drew|exact hHeld.trans hu3)
     refine wpK 0 rfl ?_;refine wpK 1 rfl ?_;refine wpK 2 rfl ?_;refine wpK 3 rfl ?_;refine wpK 4 rfl ?_;refine wpK 5 rfl ?_;refine wpK 6 rfl ?_;refine wpN 7 rfl ?_;refine wpN 8 rfl ?_;refine wpN 9 rfl ?_;refine wpN 10 rfl ?_;refine wpN 12 rfl ?_;refine wpN 13 rfl ?_;refine wpR [11] ?_;refine wpC rfl (fun K hK=> ?_) AllReadyH.nil;go_simp;refine hK.out _ _ ?_ (fun hHeld=> ?_)
     ·exact hHeld
     clear hK K
     try simp only[Act.put,sT,sS,sZ]
     refine wpN 14 rfl ?_;refine wpK 15 rfl ?_;refine wpK 16 rfl ?_;refine wpD (NoPanic.normal ?_);have HU:=Qh (U0.out.trans (UT.out.trans hHeld));clear hHeld;go_wp2
     go_ret
     exact⟨by rw[HV.out,hnb];rfl,HU.out⟩
   ·have hb1:(tx==0)=false:=by simpa using htx
    clear hf h0 htx
    by_cases hn1:1≤nth
    ·go_enter Tryz.func186,Tryz.ntmps186
     go_wp2_with fail
     refine(Zbr HH.out HF.out).mono ?_;rintro e w1 ⟨A1,c1,rfl,hc1,hh1,hu1⟩;have bT:=Blk.new w1 81 [.int .i64 t.id,.bool t.done,.slice A1 t.ops.length c1];have uT:=hu1.alloc (.cells #[.int .i64 t.id,.bool t.done,.slice A1 t.ops.length c1] 81);have hT:∀W,Upd No (w1.alloc (.cells #[.int .i64 t.id,.bool t.done,.slice A1 t.ops.length c1] 81)) W→W.cell? ⟨w1.heap.size,2,none⟩=some (.slice A1 t.ops.length c1):=fun W hW=>(bT.upd hW id).cell 2
     have hT1:∀W,Upd No (w1.alloc (.cells #[.int .i64 t.id,.bool t.done,.slice A1 t.ops.length c1] 81)) W→W.cell? ⟨w.heap.size+1,1,none⟩=some (.int .i64 key):=fun W hW=>(B1.out.upd (uT.trans hW) id).cell 1
     have hT2:∀W,Upd No (w1.alloc (.cells #[.int .i64 t.id,.bool t.done,.slice A1 t.ops.length c1] 81)) W→W.cell? ⟨w.heap.size+1,2,none⟩=some (.int .i64 nth):=fun W hW=>(B1.out.upd (uT.trans hW) id).cell 2
     have HW:=Qh fun W (hW:Upd No (w1.alloc (.cells #[.int .i64 t.id,.bool t.done,.slice A1 t.ops.length c1] 81)) W)=>Za5 F W A1 c1 t.ops key (HOps.upd hh1 (((Upd.refl No _).alloc _).trans hW) (fun _ _=>id)) HT.out.2.2.1
     have UT:=Qh uT;clear bT uT hu1 hh1;go_wp2;refine wp_region_noPanic ?_;refine wp_region_held_drew (S:=(fun w'=>Upd No (w1.alloc (.cells #[.int .i64 t.id,.bool t.done,.slice A1 t.ops.length c1] 81)) w')) (by kernel_rfl) ?_ (fun hHeld=> ?_)
     ·(first|exact(Upd.refl No _).drew|exact hHeld.trans hu3)
     refine wpK 0 rfl ?_;refine wpK 1 rfl ?_;refine wpK 2 rfl ?_;refine wpK 3 rfl ?_;refine wpK 4 rfl ?_;refine wpK 5 rfl ?_;refine wpK 6 rfl ?_;refine wpK 7 rfl ?_;refine wpK 8 rfl ?_;refine wpK 9 rfl ?_;refine wpK 10 rfl ?_;refine wpK 12 rfl ?_;refine wpK 13 rfl ?_;refine wpR [11] ?_;refine wpC rfl (fun K hK=> ?_) AllReadyH.nil;go_simp
     (first
  |(go_at_call 113;refine(HW.out _ hHeld).mono ?_;rintro e w3 ⟨rfl,hu3⟩))
     try (go_wp2_with fail)
     refine hK.out _ _ ?_ (fun hHeld=> ?_)
     ·(first|exact(Upd.refl No _).drew|exact hHeld.trans hu3)
     clear hK K
     try simp only[Act.put,sT,sS,sZ]
     refine wpK 14 rfl ?_;refine wpK 15 rfl ?_;refine wpK 16 rfl ?_;refine wpD (NoPanic.normal ?_);have HU:=Qh (U0.out.trans (UT.out.trans hHeld));clear hHeld;go_wp2
     go_ret
     exact⟨by rw[HV.out,decide_eq_true hn1];rfl,HU.out⟩
    ·have hnb:decide (1≤nth)=false:=decide_eq_false hn1
     go_enter Tryz.func186,Tryz.ntmps186
     go_wp2_with fail
     refine(Zbr HH.out HF.out).mono ?_;rintro e w1 ⟨A1,c1,rfl,hc1,hh1,hu1⟩;have bT:=Blk.new w1 81 [.int .i64 t.id,.bool t.done,.slice A1 t.ops.length c1];have uT:=hu1.alloc (.cells #[.int .i64 t.id,.bool t.done,.slice A1 t.ops.length c1] 81);have hT:∀W,Upd No (w1.alloc (.cells #[.int .i64 t.id,.bool t.done,.slice A1 t.ops.length c1] 81)) W→W.cell? ⟨w1.heap.size,2,none⟩=some (.slice A1 t.ops.length c1):=fun W hW=>(bT.upd hW id).cell 2
     have hT1:∀W,Upd No (w1.alloc (.cells #[.int .i64 t.id,.bool t.done,.slice A1 t.ops.length c1] 81)) W→W.cell? ⟨w.heap.size+1,1,none⟩=some (.int .i64 key):=fun W hW=>(B1.out.upd (uT.trans hW) id).cell 1
     have hT2:∀W,Upd No (w1.alloc (.cells #[.int .i64 t.id,.bool t.done,.slice A1 t.ops.length c1] 81)) W→W.cell? ⟨w.heap.size+1,2,none⟩=some (.int .i64 nth):=fun W hW=>(B1.out.upd (uT.trans hW) id).cell 2
     have HW:=Qh fun W (hW:Upd No (w1.alloc (.cells #[.int .i64 t.id,.bool t.done,.slice A1 t.ops.length c1] 81)) W)=>Za5 F W A1 c1 t.ops key (HOps.upd hh1 (((Upd.refl No _).alloc _).trans hW) (fun _ _=>id)) HT.out.2.2.1
     have UT:=Qh uT;clear bT uT hu1 hh1;go_wp2;refine wp_region_noPanic ?_;refine wp_region_held_drew (S:=(fun w'=>Upd No (w1.alloc (.cells #[.int .i64 t.id,.bool t.done,.slice A1 t.ops.length c1] 81)) w')) (by kernel_rfl) ?_ (fun hHeld=> ?_)
     ·(first|exact(Upd.refl No _).drew|exact hHeld.trans hu3)
     refine wpK 0 rfl ?_;refine wpK 1 rfl ?_;refine wpK 2 rfl ?_;refine wpK 3 rfl ?_;refine wpK 4 rfl ?_;refine wpK 5 rfl ?_;refine wpK 6 rfl ?_;refine wpN 7 rfl ?_;refine wpN 8 rfl ?_;refine wpN 9 rfl ?_;refine wpN 10 rfl ?_;refine wpN 12 rfl ?_;refine wpN 13 rfl ?_;refine wpR [11] ?_;refine wpC rfl (fun K hK=> ?_) AllReadyH.nil;go_simp;refine hK.out _ _ ?_ (fun hHeld=> ?_)
     ·exact hHeld
     clear hK K
     try simp only[Act.put,sT,sS,sZ]
     refine wpN 14 rfl ?_;refine wpK 15 rfl ?_;refine wpK 16 rfl ?_;refine wpD (NoPanic.normal ?_);have HU:=Qh (U0.out.trans (UT.out.trans hHeld));clear hHeld;go_wp2
     go_ret
     exact⟨by rw[HV.out,hnb];rfl,HU.out⟩
end
/- The document on histories:needs,right transactions,orders,writers,keys. -/
section
open Go.RowKit
theorem Zbs (id:Int):∀(l:List HOp) (acc:List Ver),(Zw id acc l).length≤acc.length+l.length
 |[],acc=>by simp[Zw]
 |o::l,acc=>by
  rw[Zb3];have:=Zbs id l (if Zaj id o&& !acc.contains (ZI o) then acc++[ZI o] else acc);have h2:(if Zaj id o&& !acc.contains (ZI o) then acc++[ZI o] else acc).length≤acc.length+1:=by split<;>simp
  rw[List.length_cons];omega
def ZbP (id:Int) (all:List HOp) (k:Nat) (o:HOp):Int:=if opB o=false then 1 else if o.read&&o.tx==id&&decide ((wrN all o.key k:Int)<o.nth) then 6 else 0
def Zat (id:Int) (all:List HOp):List HOp→Nat→Int
 |[],_=>0
 |o::l,k=>if ZbP id all k o=0 then Zat id all l (k+1) else ZbP id all k o
theorem Zet (id:Int) (all:List HOp) (o:HOp) (l:List HOp) (k:Nat):Zat id all (o::l) k=if ZbP id all k o=0 then Zat id all l (k+1) else ZbP id all k o:=rfl
theorem Zgj (id:Int) (l:List HOp):∀(m:Nat) (k:Nat),k+m=l.length→Zo id l k=0→Zat id l (l.drop k) k=Zo id l l.length
 |0,k,hk,h0=>by
  obtain rfl:k=l.length:=by omega
  rw[List.drop_length,h0];rfl
 |m+1,k,hk,h0=>by
  have hlt:k<l.length:=by omega
  rw[List.drop_eq_getElem_cons hlt,Zet]
  have hb:ZW id l k=ZbP id l k l[k]:=by
   unfold ZW ZbP;rw[Qg hlt]
   have:(!decide (l[k].nth≤(wrN l l[k].key k:Int)))=decide ((wrN l l[k].key k:Int)<l[k].nth):=by
    rw[←decide_not];congr 1;simp only[eq_iff_iff];omega
   simp only[this]
  have hstep:Zo id l (k+1)=ZbP id l k l[k]:=by
   show(if Zo id l k=0 then ZW id l k else Zo id l k)=_
   rw[if_pos h0,hb]
  by_cases hz:ZbP id l k l[k]=0
  ·rw[if_pos hz];exact Zgj id l m (k+1) (by omega) (by rw[hstep,hz])
  ·rw[if_neg hz,←hstep]
   have hst:∀n,Zo id l (k+1+n)=Zo id l (k+1):=by
    intro n
    induction n with
    |zero=>rfl
    |succ n ih=>
     show(if Zo id l (k+1+n)=0 then ZW id l (k+1+n) else Zo id l (k+1+n))=_
     rw[ih,if_neg (by rw[hstep];exact hz)]
   have:=hst (l.length-(k+1));rw[show k+1+(l.length-(k+1))=l.length by omega]at this;exact this.symm
theorem ZfJ (F:Nat→Prop) (w:World) (A:Option Addr) (c c2:Nat) (l:List HOp) (k:Nat) (key:Int) (h:HOps F w A l) (hk:k≤l.length) (hl:Ze l.length) (hc:l.length≤c2):
  Calls Tryz.prog 113 #[.slice (Zao A c2 0 4) k c,.int .i64 key] w fun e w'=>e= .returned (.int .i64 ((wrN l key k:Nat):Int))∧Upd No w w':=by
 have h1:HOps F w (Zao A c2 0 4) (l.take k):=by
  have h2:=Recs.take (Recs.cut (i:=0) h (c:=c2) (by simpa using hc)) (i:=k);unfold HOps;rw[List.drop_zero]at h2
  rwa [List.map_take]
 have hlen:(l.take k).length=k:=by rw[List.length_take];omega
 have:=Za5 F w (Zao A c2 0 4) c (l.take k) key h1 (by unfold Ze at*;omega);rw[hlen]at this;have hw:Zg (l.take k) key=wrN l key k:=by unfold Zg wrN;rw[hlen,List.take_take,Nat.min_self]
 rwa [hw]at this
set_option maxRecDepth 100000 in
set_option maxHeartbeats 1000000 in
theorem Zie (F:Nat→Prop) (w:World) (i0:Int) (dn:Bool) (A:Option Addr) (c:Nat) (l:List HOp) (h:HOps F w A l) (hlc:l.length≤c) (hl:Ze l.length):
  Calls Tryz.prog 35 #[.agg #[.int .i64 i0,.bool dn,.slice A l.length c]] w fun e w'=>e= .returned (.int .i64 (Zp i0 l))∧Upd No w w':=by
 unfold Ze at hl;have u0:=(Upd.refl No w).alloc (.cells #[.int .i64 i0,.bool dn,.slice A l.length c] 81);have bT:=Qh (Blk.new w 81 [.int .i64 i0,.bool dn,.slice A l.length c]);obtain⟨b,hb⟩:∃b,idB i0=b:=⟨_,rfl⟩
 cases b
 ·have HV:=Qh (show Zp i0 l=1 by unfold Zp;rw[if_pos hb]);have Hb:=Qh hb;clear hb
  go_enter Tryz.func35,Tryz.ntmps35
  go_wp2_with fail
  refine(Zah Hb.out).mono ?_;rintro e w1 ⟨rfl,rfl⟩;go_wp2
  go_ret
  exact⟨by rw[HV.out];rfl,u0⟩
 ·have hv:=(show Zp i0 l=if 4095<l.length then 9 else Zo i0 l l.length by unfold Zp;rw[if_neg (by rw[hb];decide)]);have Hb:=Qh hb;clear hb
  by_cases hlong:4095<l.length
  ·rw[if_pos hlong]at hv;have HV:=Qh hv;clear hv
   go_enter Tryz.func35,Tryz.ntmps35
   go_wp2_with fail
   refine(Zah Hb.out).mono ?_;rintro e w1 ⟨rfl,rfl⟩;go_wp2
   go_ret
   exact⟨by rw[HV.out];rfl,u0⟩
  ·rw[if_neg hlong,←Zgj i0 l l.length 0 (by omega) rfl]at hv;have HV:=Qh hv;clear hv
   go_enter Tryz.func35,Tryz.ntmps35
   go_wp2_with fail
   refine(Zah Hb.out).mono ?_;rintro e w1 ⟨rfl,rfl⟩;go_wp2
   go_loopg [16] l.length (fun gk i wr=>∃(k:Nat),k+gk=l.length∧i= .int .i64 k∧Hid (Zat i0 l (l.drop k) k=Zat i0 l (l.drop 0) 0)∧Upd No (w.alloc (.cells #[.int .i64 i0,.bool dn,.slice A l.length c] 81)) wr)
   case atStart=>exact⟨0,by omega,rfl,Qh rfl,Upd.refl _ _⟩
   case round=>
    obtain⟨k,hgk,rfl,hs,hu⟩:=hrel
    by_cases hlt:k<l.length
    ·obtain⟨ad,hAd,q0,q1,q2,q3⟩:=(h.upd (u0.trans hu) (fun _ _=>id)).at_ hlt;obtain⟨x,hx⟩:∃x,l[k]=x:=⟨_,rfl⟩;rw[hx]at q0 q1 q2 q3;obtain⟨rd,ky,tx,nt⟩:=x;simp only at q0 q1 q2 q3;subst hAd;have X:=Qh (show l.drop k=⟨rd,ky,tx,nt⟩::l.drop (k+1) by rw[←hx];exact List.drop_eq_getElem_cons hlt);have b1:(0:Int)≤(k:Int):=Qn _;have b2:(k:Int)<(l.length:Int):=by omega
     clear hx;have hst:=hs.out;rw[X.out,Zet]at hst;have bO:=Blk.new wr 95 [.bool rd,.int .i64 ky,.int .i64 tx,.int .i64 nt];have HU:=Qh (hu.alloc (.cells #[.bool rd,.int .i64 ky,.int .i64 tx,.int .i64 nt] 95));have hr:=Zkb (wr.alloc (.cells #[.bool rd,.int .i64 ky,.int .i64 tx,.int .i64 nt] 95)) ⟨rd,ky,tx,nt⟩;obtain⟨bo,hbo⟩:∃bo,opB ⟨rd,ky,tx,nt⟩=bo:=⟨_,rfl⟩;rw[hbo]at hr;have HR:=Qh hr
     cases bo
     ·have HV2:=Qh (show Zat i0 l (l.drop 0) 0=1 by rw[←hst];unfold ZbP;rw[if_pos hbo];rfl);clear hst hbo hr bO
      go_wp2_with (go_at_call 112;refine HR.out.mono ?_;rintro e w1 ⟨rfl,hu1⟩)
      go_ret
      exact⟨by rw[HV.out];rw[show Zat i0 l (List.drop 0 l) 0=1 from HV2.out];rfl,u0.trans (HU.out.trans hu1)⟩
     ·have hbr:ZbP i0 l k ⟨rd,ky,tx,nt⟩=if rd&&tx==i0&&decide ((wrN l ky k:Int)<nt) then 6 else 0:=by unfold ZbP;rw[if_neg (by rw[hbo];decide)]
      rw[hbr]at hst;have HST:=Qh hst;have BO:=Qh bO;clear hst hbo hr bO hbr;have e0:∀W,Upd No (wr.alloc (.cells #[.bool rd,.int .i64 ky,.int .i64 tx,.int .i64 nt] 95)) W→W.cell? ⟨wr.heap.size,0,none⟩=some (.bool rd):=fun W hW=>(BO.out.upd hW id).cell 0
      have e1:∀W,Upd No (wr.alloc (.cells #[.bool rd,.int .i64 ky,.int .i64 tx,.int .i64 nt] 95)) W→W.cell? ⟨wr.heap.size,1,none⟩=some (.int .i64 ky):=fun W hW=>(BO.out.upd hW id).cell 1
      have e2:∀W,Upd No (wr.alloc (.cells #[.bool rd,.int .i64 ky,.int .i64 tx,.int .i64 nt] 95)) W→W.cell? ⟨wr.heap.size,2,none⟩=some (.int .i64 tx):=fun W hW=>(BO.out.upd hW id).cell 2
      have e3:∀W,Upd No (wr.alloc (.cells #[.bool rd,.int .i64 ky,.int .i64 tx,.int .i64 nt] 95)) W→W.cell? ⟨wr.heap.size,3,none⟩=some (.int .i64 nt):=fun W hW=>(BO.out.upd hW id).cell 3
      have t0:∀W,Upd No (wr.alloc (.cells #[.bool rd,.int .i64 ky,.int .i64 tx,.int .i64 nt] 95)) W→W.cell? ⟨w.heap.size,0,none⟩=some (.int .i64 i0):=fun W hW=>(bT.out.upd (HU.out.trans hW) id).cell 0
      have t2:∀W,Upd No (wr.alloc (.cells #[.bool rd,.int .i64 ky,.int .i64 tx,.int .i64 nt] 95)) W→W.cell? ⟨w.heap.size,2,none⟩=some (.slice (some ad) l.length c):=fun W hW=>(bT.out.upd (HU.out.trans hW) id).cell 2
      have HWr:=Qh fun W (hW:Upd No (wr.alloc (.cells #[.bool rd,.int .i64 ky,.int .i64 tx,.int .i64 nt] 95)) W)=>ZfJ F W (some ad) c c l k ky (HOps.upd h (u0.trans (HU.out.trans hW)) (fun _ _=>id)) (by omega) (by unfold Ze;omega) (by omega)
      have HCut:=fun W=>ZbS W (ZfZ) (some ad) l.length c k (by omega)
      cases rd
      ·have HS:=Qh (show Zat i0 l (l.drop (k+1)) (k+1)=Zat i0 l (l.drop 0) 0 by rw[←HST.out];rfl)
       go_wp2_with (go_at_call 112;refine HR.out.mono ?_;rintro e w1 ⟨rfl,hu1⟩)
       refine wp_region_noPanic ?_;refine wp_region_held_drew (S:=(fun w'=>Upd No (wr.alloc (.cells #[.bool false,.int .i64 ky,.int .i64 tx,.int .i64 nt] 95)) w')) (by kernel_rfl) ?_ (fun hHeld=> ?_)
       ·(first|exact hu1.drew|exact hHeld.trans hu3)
       refine wpK 0 rfl ?_;refine wpK 1 rfl ?_;refine wpK 2 rfl ?_;refine wpN 3 rfl ?_;refine wpN 4 rfl ?_;refine wpN 5 rfl ?_;refine wpN 6 rfl ?_;refine wpN 7 rfl ?_;refine wpK 8 rfl ?_;refine wpK 9 rfl ?_;refine wpN 10 rfl ?_;refine wpN 11 rfl ?_;refine wpN 12 rfl ?_;refine wpN 13 rfl ?_;refine wpN 14 rfl ?_;refine wpN 15 rfl ?_;refine wpN 16 rfl ?_;refine wpN 17 rfl ?_;refine wpR [18] ?_;refine wpC rfl (fun K hK=> ?_) AllReadyH.nil;go_simp;refine hK.out _ _ ?_ (fun hHeld=> ?_)
       ·exact hHeld
       clear hK K
       try simp only[Act.put,sT,sS,sZ]
       refine wpN 19 rfl ?_;refine wpK 20 rfl ?_;refine wpD (NoPanic.normal ?_);have HU2:=Qh (HU.out.trans hHeld);clear hHeld e0 e1 e2 e3 t0 t2 HCut;go_wp2
       go_roundg (gk-1)
       case measure=>omega
       case rel=>exact⟨k+1,by omega,by go_num,HS,HU2.out⟩
      ·by_cases hti:tx=i0
       ·have htb:(tx==i0)=true:=by simpa using hti
        by_cases hn:(wrN l ky k:Int)<nt
        ·have HS:=Qh (show Zat i0 l (l.drop 0) 0=6 by rw[←HST.out,htb,decide_eq_true hn];rfl);clear hti
         go_wp2_with (go_at_call 112;refine HR.out.mono ?_;rintro e w1 ⟨rfl,hu1⟩)
         refine wp_region_noPanic ?_;refine wp_region_held_drew (S:=(fun w'=>Upd No (wr.alloc (.cells #[.bool true,.int .i64 ky,.int .i64 tx,.int .i64 nt] 95)) w')) (by kernel_rfl) ?_ (fun hHeld=> ?_)
         ·(first|exact hu1.drew|exact hHeld.trans hu3)
         refine wpK 0 rfl ?_;refine wpK 1 rfl ?_;refine wpK 2 rfl ?_;refine wpK 3 rfl ?_;refine wpK 4 rfl ?_;refine wpK 5 rfl ?_;refine wpK 6 rfl ?_;refine wpK 7 rfl ?_;refine wpK 8 rfl ?_;refine wpK 9 rfl ?_;refine wpK 10 rfl ?_;refine wpK 11 rfl ?_;refine wpK 12 rfl ?_;refine wpK 13 rfl ?_;refine wpK 14 rfl ?_;refine wpK 15 rfl ?_;refine wpK 16 rfl ?_;refine wpK 17 rfl ?_;refine wpR [18] ?_;refine wpC rfl (fun K hK=> ?_) AllReadyH.nil;go_simp
         (first
  |(go_at_call 113;refine(HWr.out _ hHeld).mono ?_;rintro e w3 ⟨rfl,hu3⟩))
         try (go_wp2_with fail)
         refine hK.out _ _ ?_ (fun hHeld=> ?_)
         ·(first|exact hu1.drew|exact hHeld.trans hu3)
         clear hK K
         try simp only[Act.put,sT,sS,sZ]
         refine wpK 19 rfl ?_;refine wpK 20 rfl ?_;refine wpD (NoPanic.normal ?_);have HU2:=Qh (HU.out.trans hHeld);clear hHeld e0 e1 e2 e3 t0 t2 HCut;go_wp2
         go_ret
         exact⟨by rw[HV.out];rw[show Zat i0 l (List.drop 0 l) 0=6 from HS.out];rfl,u0.trans HU2.out⟩
        ·have HS:=Qh (show Zat i0 l (l.drop (k+1)) (k+1)=Zat i0 l (l.drop 0) 0 by rw[←HST.out,htb,decide_eq_false hn];rfl);clear hti
         go_wp2_with (go_at_call 112;refine HR.out.mono ?_;rintro e w1 ⟨rfl,hu1⟩)
         refine wp_region_noPanic ?_;refine wp_region_held_drew (S:=(fun w'=>Upd No (wr.alloc (.cells #[.bool true,.int .i64 ky,.int .i64 tx,.int .i64 nt] 95)) w')) (by kernel_rfl) ?_ (fun hHeld=> ?_)
         ·(first|exact hu1.drew|exact hHeld.trans hu3)
         refine wpK 0 rfl ?_;refine wpK 1 rfl ?_;refine wpK 2 rfl ?_;refine wpK 3 rfl ?_;refine wpK 4 rfl ?_;refine wpK 5 rfl ?_;refine wpK 6 rfl ?_;refine wpK 7 rfl ?_;refine wpK 8 rfl ?_;refine wpK 9 rfl ?_;refine wpK 10 rfl ?_;refine wpK 11 rfl ?_;refine wpK 12 rfl ?_;refine wpK 13 rfl ?_;refine wpK 14 rfl ?_;refine wpK 15 rfl ?_;refine wpK 16 rfl ?_;refine wpK 17 rfl ?_;refine wpR [18] ?_;refine wpC rfl (fun K hK=> ?_) AllReadyH.nil;go_simp
         (first
  |(go_at_call 113;refine(HWr.out _ hHeld).mono ?_;rintro e w3 ⟨rfl,hu3⟩))
         try (go_wp2_with fail)
         refine hK.out _ _ ?_ (fun hHeld=> ?_)
         ·(first|exact hu1.drew|exact hHeld.trans hu3)
         clear hK K
         try simp only[Act.put,sT,sS,sZ]
         refine wpK 19 rfl ?_;refine wpK 20 rfl ?_;refine wpD (NoPanic.normal ?_);have HU2:=Qh (HU.out.trans hHeld);clear hHeld e0 e1 e2 e3 t0 t2 HCut;go_wp2
         go_roundg (gk-1)
         case measure=>omega
         case rel=>exact⟨k+1,by omega,by go_num,HS,HU2.out⟩
       ·have htb:(tx==i0)=false:=by simpa using hti
        have HS:=Qh (show Zat i0 l (l.drop (k+1)) (k+1)=Zat i0 l (l.drop 0) 0 by rw[←HST.out,htb];rfl);clear hti
        go_wp2_with (go_at_call 112;refine HR.out.mono ?_;rintro e w1 ⟨rfl,hu1⟩)
        refine wp_region_noPanic ?_;refine wp_region_held_drew (S:=(fun w'=>Upd No (wr.alloc (.cells #[.bool true,.int .i64 ky,.int .i64 tx,.int .i64 nt] 95)) w')) (by kernel_rfl) ?_ (fun hHeld=> ?_)
        ·(first|exact hu1.drew|exact hHeld.trans hu3)
        refine wpK 0 rfl ?_;refine wpK 1 rfl ?_;refine wpK 2 rfl ?_;refine wpK 3 rfl ?_;refine wpK 4 rfl ?_;refine wpK 5 rfl ?_;refine wpK 6 rfl ?_;refine wpK 7 rfl ?_;refine wpK 8 rfl ?_;refine wpK 9 rfl ?_;refine wpN 10 rfl ?_;refine wpN 11 rfl ?_;refine wpN 12 rfl ?_;refine wpN 13 rfl ?_;refine wpN 14 rfl ?_;refine wpN 15 rfl ?_;refine wpN 16 rfl ?_;refine wpN 17 rfl ?_;refine wpR [18] ?_;refine wpC rfl (fun K hK=> ?_) AllReadyH.nil;go_simp;refine hK.out _ _ ?_ (fun hHeld=> ?_)
        ·exact hHeld
        clear hK K
        try simp only[Act.put,sT,sS,sZ]
        refine wpN 19 rfl ?_;refine wpK 20 rfl ?_;refine wpD (NoPanic.normal ?_);have HU2:=Qh (HU.out.trans hHeld);clear hHeld e0 e1 e2 e3 t0 t2 HCut;go_wp2
        go_roundg (gk-1)
        case measure=>omega
        case rel=>exact⟨k+1,by omega,by go_num,HS,HU2.out⟩
    ·obtain rfl:k=l.length:=by omega
     have HV2:=Qh (show Zat i0 l (l.drop 0) 0=0 by rw[←hs.out,List.drop_length];rfl);go_wp2
     go_ret
     exact⟨by rw[HV.out];rw[show Zat i0 l (List.drop 0 l) 0=0 from HV2.out];rfl,u0.trans hu⟩
end
end Go.Proofs.YtblplapkdmhikaaGreat
