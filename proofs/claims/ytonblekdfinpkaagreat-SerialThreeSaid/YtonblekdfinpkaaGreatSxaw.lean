/- Walks: whether two are one; one begun elsewhere, by the program and by the document. -/
import Derived.Test.YtonblekdfinpkaaGreatProg
import Derived.Lib.AppendZerosOnto
import Derived.Deep.RegionHeld3
import Derived.Lib.SliceRun
import Derived.Test.YtonblekdfinpkaaGreatSxak
import Derived.Test.YtonblekdfinpkaaGreatSxat
namespace Go.Proofs.YtonblekdfinpkaaGreat
set_option linter.unusedVariables false
set_option linter.unusedSimpArgs false
section
open Go.RowKit
def Ztq (w:World) (xs:List Value) (n:Nat) (e:Ending) (w':World):Prop:=∃A c,e= .returned (.slice A n c)∧w'.ownsRow w.heap.size 26 4 (.slice A n c) n xs∧Upd No w w'
end
/- Operations cloned,transactions copied and found. -/
section
open Go.RowKit
theorem ZpT:SlT Tryz.prog 83 82 4 32:=SlT.mk_ Tryz.underlying83 (z:= .agg #[.bool false,.int .i64 0,.int .i64 0,.int .i64 0]) (by kernel_rfl) rfl (by omega)
theorem ZcA {l:List HOp}:∀r∈l.map HOp.cells,r.length=4:=fun r hr=>by
 obtain⟨e,_,rfl⟩:=List.mem_map.1 hr;rfl
theorem ZoQ {l:List HOp}:∀v∈(l.map HOp.cells).flatten,v.oneCell'=true:=fun v hv=>by
 obtain⟨r,hr,h⟩:=List.mem_flatten.1 hv;obtain⟨e,_,rfl⟩:=List.mem_map.1 hr;simp only[HOp.cells,List.mem_cons,List.not_mem_nil,or_false]at h;rcases h with rfl|rfl|rfl|rfl<;>rfl
theorem Zp6 {W:World} {B n s:Nat} {e:TypeId} (hn:n=W.heap.size) (hB:B≤W.heap.size):(W.alloc (.cells #[] e)).ownsRow B e s (.slice (some ⟨n,0,none⟩) 0 0) 0 []:=by
 subst hn;exact Z6 (World.ownsRow_made W #[] 0 (Nat.le_refl _) (by decide) (by simp)) hB
def ZrK (w:World) (l:List HOp) (e:Ending) (w':World):Prop:=∃A c,e= .returned (.slice A l.length c)∧l.length≤c∧HOps (fun i=>w.heap.size≤i) w' A l∧Upd No w w'
theorem Zrg (F:Nat→Prop) (w:World) (A:Option Addr) (c:Nat) (l:List HOp) (h:HOps F w A l) (hl:Zp l.length):
  Calls Tryz.prog 207 #[.slice A l.length c] w (ZrK w l):=by
 unfold Zp at hl;have qT:∀(w:World) (a:Option Addr) (n c:Nat),(binOp .eql 83 (.slice a n c) (.slice none 0 0)).run Tryz.prog w= .ok (.bool a.isNone) w:=fun w a n c=>Lib.run_eql_slice_nil w _ _ a n c 0 0 Tryz.underlying83
 cases A with
 |none=>
  have h0:l=[]:=by
   cases l with
   |nil=>rfl
   |cons a l=>obtain⟨_,e,_⟩:=h (by simp);cases e
  subst h0
  go_enter Tryz.func207,Tryz.ntmps207
  go_wp2
  go_ret
  exact⟨none,0,rfl,Nat.le_refl _,fun h=>absurd rfl h,Upd.refl _ _⟩
 |some ad=>
  have hs:=Qh (show Src (w.alloc (.cells #[] 82)) (some ad) l.length 4 (l.map HOp.cells).flatten by
   have:=Recs.src (h.upd ((Upd.refl No w).alloc (.cells #[] 82)) (fun _ _=>id)) ZcA
   rwa [List.length_map]at this)
  go_enter Tryz.func207,Tryz.ntmps207
  go_wp2_with (at_builtin;refine Zmf rfl rfl ZpT (base:=w.heap.size) (v:= .slice (some ⟨w.heap.size,0,none⟩) 0 0) (n:=0) (m:=l.length) (xs:=[]) rfl rfl (Zp6 rfl (Nat.le_refl _)) hs.out ZoQ (by omega) (by omega) (by simp) ?_)
  intro v4 w4 hown4 hu4 hg4;obtain⟨A4,c4,rfl⟩:=Zaq hown4;have uw4:Upd No w w4:=((Upd.refl No w).alloc _).then_ hu4 (fun j e=> .inr (Zjy e));have hcap:=ZkM hown4;have hr:=(Recs.of_own ZcA (by omega) hown4).weak (G:=fun i=>w.heap.size≤i) fun i _ e=>(hown4.lt i e).1
  have HR:=Qh (And.intro hcap hr);clear hcap hr;go_wp2
  go_ret
  exact⟨A4,c4,rfl,HR.out.1,HR.out.2,uw4⟩
def ZsC (w:World) (i0:Int) (dn:Bool) (l:List HOp) (e:Ending) (w':World):Prop:=∃A c,e= .returned (.agg #[.int .i64 i0,.bool dn,.slice A l.length c])∧l.length≤c∧HOps (fun i=>w.heap.size≤i) w' A l∧Upd No w w'
theorem Zqo (F:Nat→Prop) (w:World) (i0:Int) (dn:Bool) (A:Option Addr) (c:Nat) (l:List HOp) (h:HOps F w A l) (hl:Zp l.length):
  Calls Tryz.prog 155 #[.agg #[.int .i64 i0,.bool dn,.slice A l.length c]] w (ZsC w i0 dn l):=by
 have u0:=((Upd.refl No w).alloc (.cells #[.int .i64 i0,.bool dn,.slice A l.length c] 85)).alloc (.cells #[.int .i64 0,.bool false,.slice none 0 0] 85);have b1:=(Blk.new w 85 [.int .i64 i0,.bool dn,.slice A l.length c]).alloc (.cells #[.int .i64 0,.bool false,.slice none 0 0] 85);have b2:=Blk.new (w.alloc (.cells #[.int .i64 i0,.bool dn,.slice A l.length c] 85)) 85 [.int .i64 0,.bool false,.slice none 0 0];simp only[World.size_alloc]at b2
 go_enter Tryz.func155,Tryz.ntmps155
 go_wp2_with fail
 refine(Zrg F _ A c l (h.upd u0 (fun _ _=>id)) hl).mono ?_;rintro e w1 ⟨A1,c1,rfl,hc1,hh1,hu1⟩;have hz1:=hu1.size;simp only[World.size_alloc]at hz1;have d1:=b1.upd hu1 id;have d2:=b2.upd hu1 id;have e0:=d1.cell 0;have e1:=d1.cell 1;have e2:=d1.cell 2;have f2:=d1.free 2;have g0:=d2.cell 0;have g1:=d2.cell 1;have g2:=d2.cell 2;have k0:=d2.free 0;have k1:=d2.free 1;have k2:=d2.free 2;simp only[Qz,Qs]at e0 e1 e2 g0 g1 g2;have D:=Qh (And.intro d1 (And.intro d2 (And.intro b1 b2)));clear d1 d2 b1 b2;have Hh:=Qh (And.intro hc1 (And.intro hh1 (And.intro hu1 hz1)));clear hc1 hh1 hu1 hz1;go_wp2;obtain⟨hc1,hh1,hu1,hz1⟩:=Hh.out;obtain⟨d1,d2,-,-⟩:=D.out;have b3:=(((d2.far (p:=⟨w.heap.size,2,none⟩) (by show w.heap.size+1≠w.heap.size;omega) (.slice A1 l.length c1)).set_ 0 (.int .i64 i0)).set_ 1 (.bool dn)).set_ 2 (.slice A1 l.length c1);simp only[List.set_cons_zero,List.set_cons_succ]at b3;refine bodyPost_ret (results_cell_row (p:=2) rfl _ _ _ _ _ _ _ rfl b3 Tryz.underlying85 rfl (by kernel_rfl)) rfl ⟨A1,c1,rfl,hc1,?_,?_⟩
 ·have u8:=((((Upd.refl (fun i=>i=w.heap.size∨i=w.heap.size+1) w1).setCell (p:=⟨w.heap.size,2,none⟩) (.inl (.inl rfl)) (.slice A1 l.length c1)).setCell (p:=⟨w.heap.size+1,0,none⟩) (.inl (.inr rfl)) (.int .i64 i0)).setCell (p:=⟨w.heap.size+1,1,none⟩) (.inl (.inr rfl)) (.bool dn)).setCell (p:=⟨w.heap.size+1,2,none⟩) (.inl (.inr rfl)) (.slice A1 l.length c1);simp only[World.size_alloc]at hh1;exact(Recs.upd hh1 u8 (fun i hi e=>by rcases e with e|e<;>omega)).weak (fun i _ e=>by omega)
 ·have u9:Upd No w w1:=u0.trans hu1;exact(((u9.setCell (p:=⟨w.heap.size,2,none⟩) (.inr (Nat.le_refl _)) _).setCell (p:=⟨w.heap.size+1,0,none⟩) (.inr (Nat.le_succ _)) _).setCell (p:=⟨w.heap.size+1,1,none⟩) (.inr (Nat.le_succ _)) _).setCell (p:=⟨w.heap.size+1,2,none⟩) (.inr (Nat.le_succ _)) _
def Zd (txs:List HTx) (i:Int):Option HTx:=txs.find? fun t=>t.id==i
def Zhp (G:Nat→Prop) (w:World) (o:Option HTx) (e:Ending) (w':World):Prop:=
 (match o with
  |some t=>∃A c,e= .returned (.tuple #[.agg #[.int .i64 t.id,.bool t.done,.slice A t.ops.length c],.bool true])∧t.ops.length≤c∧HOps G w' A t.ops
  |none=>e= .returned (.tuple #[.agg #[.int .i64 0,.bool false,.slice none 0 0],.bool false]))∧Upd No w w'
theorem ZlS {txs:List HTx} {i:Int} (h:∀(k:Nat) (hk:k<txs.length),(txs[k].id==i)=false):Zd txs i=none:=by
 unfold Zd;rw[List.find?_eq_none];intro x hx;obtain⟨k,hk,rfl⟩:=List.mem_iff_getElem.1 hx;rw[h k hk];decide
theorem Zhg {txs:List HTx} {i:Int} {k:Nat} (hk:k<txs.length) (h:∀(j:Nat) (hj:j<k),((txs[j]'(by omega)).id==i)=false) (h1:(txs[k].id==i)=true):Zd txs i=some txs[k]:=by
 unfold Zd;rw[List.find?_eq_some_iff_getElem];exact⟨h1,k,hk,rfl,fun j hj=>by simp only[h j hj];rfl⟩
set_option maxRecDepth 100000 in
theorem Zpr (F:Nat→Prop) (w:World) (h:Hist) (i:Int) (H:h.lies F w):Calls Tryz.prog 74 #[h.val,.int .i64 i] w (Zhp (fun i=>w.heap.size≤i) w (Zd h.txs i)):=by
 obtain⟨txs,ords,A,c,B,d⟩:=h;unfold Hist.val;have hf:=H.few;simp only at hf;have b0:=(Blk.new w 50 [.slice A txs.length c,.slice B ords.length d]).alloc (.cells #[.int .i64 0,.bool false,.slice none 0 0] 85);have b1:=Blk.new (w.alloc (.cells #[.slice A txs.length c,.slice B ords.length d] 50)) 85 [.int .i64 0,.bool false,.slice none 0 0];simp only[World.size_alloc]at b1;have B1:=Qh b1;clear b0 b1
 go_enter Tryz.func74,Tryz.ntmps74
 go_wp2
 go_loopg [11] txs.length (fun gk s wr=>∃k:Nat,k+gk=txs.length∧s= .int .i64 k∧Hid (∀(j:Nat) (hj:j<txs.length),j<k→(txs[j].id==i)=false)∧Upd No ((w.alloc (.cells #[.slice A txs.length c,.slice B ords.length d] 50)).alloc (.cells #[.int .i64 0,.bool false,.slice none 0 0] 85)) wr)
 case atStart=>exact⟨0,by omega,rfl,Qh (fun j _ hj=>by omega),Upd.refl _ _⟩
 case round=>
  obtain⟨k,hgk,rfl,hall,hu⟩:=hrel;have hu0:Upd No w wr:=(((Upd.refl No w).alloc _).alloc _).trans hu;have bb:=B1.out.upd hu id;have g0:=bb.cell 0;have g1:=bb.cell 1;have g2:=bb.cell 2;have k0:=bb.free 0;have k1:=bb.free 1;have k2:=bb.free 2;simp only[Qz,Qs]at g0 g1 g2;have BB:=Qh bb;clear bb
  by_cases hlt:k<txs.length
  ·obtain⟨ad,hAd,c0,c1,c2⟩:=(H.upd hu0 (fun _ _=>id)).tx_at hlt;simp only at hAd c0 c1 c2;have hmem:=(H.upd hu0 (fun _ _=>id)).tx txs[k] (List.getElem_mem hlt);obtain⟨x,hx⟩:∃x,txs[k]=x:=⟨_,rfl⟩;rw[hx]at c0 c1 c2 hmem;subst hAd;have X:=Qh hx;have M:=Qh hmem;clear hx hmem
   by_cases he:x.id=i
   ·have heb:(x.id==i)=true:=by simpa using he
    clear he g0 g1 g2 k0 k1 k2;have ba:=BB.out.alloc (.cells #[.int .i64 x.id,.bool x.done,.slice x.A x.ops.length x.c] 85);have g0:=ba.cell 0;have g1:=ba.cell 1;have g2:=ba.cell 2;have k0:=ba.free 0;have k1:=ba.free 1;have k2:=ba.free 2;simp only[Qz,Qs]at g0 g1 g2;have BA:=Qh ba;clear ba;have hsome:=Qh (Zhg (txs:=txs) (i:=i) hlt (fun j hj=>hall.out j (by omega) hj) (by rw[X.out];exact heb));have hxw:=HOps.upd (H.tx x (by rw[←X.out];exact List.getElem_mem hlt)).1 (hu0.alloc (.cells #[.int .i64 x.id,.bool x.done,.slice x.A x.ops.length x.c] 85)) (fun _ _=>id);have hzr:=hu.size;simp only[World.size_alloc]at hzr;clear g0 g1 g2 k0 k1 k2
    go_wp2_with fail
    refine(Zqo F _ x.id x.done x.A x.c x.ops hxw M.out.2.2.1).mono ?_;rintro e w1 ⟨A1,c1,rfl,hc1,hh1,hu1⟩;have BA1:=Qh (BA.out.upd hu1 id);have g0:=BA1.out.cell 0;have g1:=BA1.out.cell 1;have g2:=BA1.out.cell 2;have k0:=BA1.out.free 0;have k1:=BA1.out.free 1;have k2:=BA1.out.free 2;simp only[Qz,Qs]at g0 g1 g2;have HH:=Qh (And.intro hc1 (And.intro hh1 hu1));clear hc1 hh1 hu1;go_wp2;obtain⟨hc1,hh1,hu1⟩:=HH.out;have b3:=((BA1.out.set_ 0 (.int .i64 x.id)).set_ 1 (.bool x.done)).set_ 2 (.slice A1 x.ops.length c1);simp only[List.set_cons_zero,List.set_cons_succ]at b3;have r0:=b3.cell 0;have r1:=b3.cell 1;have r2:=b3.cell 2;simp only[Qz,Qs]at r0 r1 r2;have hu01:Upd No w w1:=(hu0.alloc _).trans hu1;have u3:Upd No w (((w1.setCell ⟨w.heap.size+1,0,none⟩ (.int .i64 x.id)).setCell ⟨w.heap.size+1,1,none⟩ (.bool x.done)).setCell ⟨w.heap.size+1,2,none⟩ (.slice A1 x.ops.length c1)):=((hu01.setCell (p:=⟨w.heap.size+1,0,none⟩) (.inr (Nat.le_succ _)) _).setCell (p:=⟨w.heap.size+1,1,none⟩) (.inr (Nat.le_succ _)) _).setCell (p:=⟨w.heap.size+1,2,none⟩) (.inr (Nat.le_succ _)) _;have u4:Upd (One (w.heap.size+1)) w1 (((w1.setCell ⟨w.heap.size+1,0,none⟩ (.int .i64 x.id)).setCell ⟨w.heap.size+1,1,none⟩ (.bool x.done)).setCell ⟨w.heap.size+1,2,none⟩ (.slice A1 x.ops.length c1)):=(((Upd.refl _ w1).setOne _ _).setOne _ _).setOne _ _;simp only[World.size_alloc]at hh1;refine bodyPost_ret (v:= .tuple #[.agg #[.int .i64 x.id,.bool x.done,.slice A1 x.ops.length c1],.bool true]) (by simp[results,Tryz.results74,go_sem,r0,r1,r2]) rfl ?_
    unfold Zhp;rw[show Zd txs i=some x from by rw[hsome.out,X.out]];exact⟨⟨A1,c1,rfl,hc1,(Recs.upd hh1 u4 (fun i hi e=>by cases e;omega)).weak (fun i _ e=>by omega)⟩,u3⟩
   ·have heb:(x.id==i)=false:=by simpa using he
    clear he;go_wp2
    go_roundg (gk-1)
    case measure=>omega
    case rel=>exact⟨k+1,by omega,by go_num,Qh (fun j hj hjk=>by
      by_cases e:j=k
      ·subst e;rw[X.out];exact heb
      ·exact hall.out j hj (by omega)),hu.alloc _⟩
  ·obtain rfl:k=txs.length:=by omega
   have hnone:=Qh (ZlS (txs:=txs) (i:=i) fun k hk=>hall.out k hk hk);go_wp2;have b3:=((BB.out.set_ 0 (.int .i64 0)).set_ 1 (.bool false)).set_ 2 (.slice none 0 0);simp only[List.set_cons_zero,List.set_cons_succ]at b3;have r0:=b3.cell 0;have r1:=b3.cell 1;have r2:=b3.cell 2;simp only[Qz,Qs]at r0 r1 r2;have u3:Upd No w (((wr.setCell ⟨w.heap.size+1,0,none⟩ (.int .i64 0)).setCell ⟨w.heap.size+1,1,none⟩ (.bool false)).setCell ⟨w.heap.size+1,2,none⟩ (.slice none 0 0)):=((hu0.setCell (p:=⟨w.heap.size+1,0,none⟩) (.inr (Nat.le_succ _)) _).setCell (p:=⟨w.heap.size+1,1,none⟩) (.inr (Nat.le_succ _)) _).setCell (p:=⟨w.heap.size+1,2,none⟩) (.inr (Nat.le_succ _)) _;refine bodyPost_ret (v:= .tuple #[.agg #[.int .i64 0,.bool false,.slice none 0 0],.bool false]) (by simp[results,Tryz.results74,go_sem,r0,r1,r2]) rfl ?_;unfold Zhp;rw[hnone.out];exact⟨rfl,u3⟩
end
/- Walks begun elsewhere,and turned,by the program and by the document. -/
section
open Go.RowKit
theorem Zot {W:World} {B n:Nat} {e:TypeId} (hn:n=W.heap.size) (hB:B≤W.heap.size):(W.alloc (.cells #[] e)).ownsRow B e 4 (.slice (some ⟨n,0,none⟩) 0 0) 0 []:=by
 subst hn;exact Z6 (World.ownsRow_made W #[] 0 (Nat.le_refl _) (by decide) rfl) hB
theorem Walk.src {F:Nat→Prop} {w:World} {A:Option Addr} {l:List Edge} (h:Walk F w A l) {n:Nat} (hn:n=l.length):Src w A n 4 (l.map Edge.cells).flatten:=by
 subst hn;have:=Recs.src h ZbH
 rwa [List.length_map]at this
theorem Walk.drop {F:Nat→Prop} {w:World} {A:Option Addr} {l:List Edge} (h:Walk F w A l) {i c:Nat} (hc:l.length≤c):Walk F w (Zb8 A c i 4) (l.drop i):=by
 unfold Walk;rw[List.map_drop];exact Recs.cut h (by simpa using hc)
theorem Walk.take {F:Nat→Prop} {w:World} {A:Option Addr} {l:List Edge} (h:Walk F w A l) {i:Nat}:Walk F w A (l.take i):=by
 unfold Walk;rw[List.map_take];exact Recs.take h
end
/- Walks turned:the plain law:the least of all that are begun elsewhere is one,from whichever place it is begun. -/
section
open Go.RowKit
theorem ZfL (a:Edge):ltE a a=false:=by unfold ltE;simp
theorem Za5 (a b:Edge):ltE a b=true↔a.f<b.f∨(a.f=b.f∧(a.k<b.k∨(a.k=b.k∧(a.key<b.key∨(a.key=b.key∧a.t<b.t))))):=by
 unfold ltE
 split
 ·simp;omega
 ·split
  ·simp;omega
  ·split<;>simp<;>omega
theorem Zin {a b c:Edge} (h:ltE a b=true) (k:ltE b c=true):ltE a c=true:=by
 rw[Za5]at*;omega
theorem ZhD {a b:Edge} (h:ltE a b=false) (k:ltE b a=false):a=b:=by
 rw[←Bool.not_eq_true,Za5]at h k;obtain⟨f,t,n,y⟩:=a;obtain⟨f',t',n',y'⟩:=b;simp only[Edge.mk.injEq]at*;omega
end
end Go.Proofs.YtonblekdfinpkaaGreat
