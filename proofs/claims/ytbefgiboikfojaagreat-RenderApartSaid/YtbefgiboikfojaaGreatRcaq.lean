/- Walks: whether two are one; one begun elsewhere, by the program and by the document. -/
import Derived.Lib.AppendZerosOnto
import Derived.Test.YtbefgiboikfojaaGreatRcan
namespace Go.Proofs.YtbefgiboikfojaaGreat
open Go.RowKit
set_option linter.unusedVariables false
set_option linter.unusedSimpArgs false
set_option maxRecDepth 100000
set_option maxHeartbeats 1000000
theorem Zt0(w:Gy)(F G:Gt)(A B:OA)(c d:Nat)(xs ys:List Edge)(hx:Walk F w A xs)(hy:Walk G w B ys)(hl:xs.length<=4398046511103)(aN:ys.length<=4398046511103):
  CN 49 #[.slice A xs.length c,.slice B ys.length d] w (.bool (xs==ys)):=by
 have qN:=Zik;have qG:∀(op:BinOp) (x y:Operand) (xs ys:Gj) (w:Gy),(eqGuard op 94 x y (.agg xs) (.agg ys)).run Tryz.prog w= .ok () w:=fun op x y xs ys w=>run_eqGuard_agg w op _ x y xs ys (by kernel_rfl)
 by_cases hne:xs.length=ys.length
 ·have hb:((xs.length:Int) != (ys.length:Int))=false:=by rw[hne];simp
  go_enter Tryz.func49,Tryz.ntmps49;have ke:=Qh hne;clear hne;go_wp2
  go_loopg [5,13] xs.length (fun gk j i wr=>∃k:Nat,k+gk=xs.length∧i= Qi k∧xs.take k=ys.take k∧Upd No w wr)
  case atStart=>exact⟨0,by omega,rfl,by simp,Gg _ _⟩
  case round=>
   obtain⟨k,aK,rfl,hs,hu⟩:=hrel;have Hs:=Qh hs;clear hs
   by_cases hlt:k<xs.length
   ·have hlt2:k<ys.length:=by have:=ke.out;omega
    obtain⟨ax,rfl,kA,cZ,fV,sJ⟩:=(hx.upd hu Qo).at_ hlt;obtain⟨ay,rfl,r8,hd1,hd2,vU⟩:=(hy.upd hu Qo).at_ hlt2;have b1:(0:Int)<=(k:Int):=Qn _;have b2:(k:Int)<(xs.length:Int):=by omega
    have b3:(k:Int)<(ys.length:Int):=by omega
    by_cases he:xs[k]=ys[k]
    ·have dO:(xs[k] != ys[k])=false:=by rw[he];simp
     have He:=Qh he;clear he;go_wp2
     go_quiet (fail)
     go_wp2;go_roundg (gk-1)
     case measure=>omega
     case rel=>
      refine⟨k+1,by omega,by go_num,?_,hu.drewN _⟩;rw[Es hlt,Es hlt2,Hs.out,He.out]
    ·have dO:(xs[k] != ys[k])=true:=by simpa using he
     have He:=Qh he;clear he;go_wp2
     go_quiet (fail)
     go_wp2;go_ret
     have nj:(xs==ys)=false:=by
      rw[beq_eq_false_iff_ne];rintro rfl;exact He.out rfl
     exact⟨by rw[nj];rfl,hu.drewN _⟩
   ·obtain rfl:k=xs.length:=by omega
    go_wp2;go_ret;have h2:=Hs.out;rw[Fj,ke.out,Fj]at h2;exact⟨by rw[h2,beq_self_eq_true];rfl,hu⟩
 ·have hb:((xs.length:Int) != (ys.length:Int))=true:=by rw[bne_iff_ne];omega
  have hf:(xs==ys)=false:=by rw[beq_eq_false_iff_ne];rintro rfl;exact hne rfl
  have Hf:=Qh hf;clear hf;go_enter Tryz.func49,Tryz.ntmps49;go_wp2;go_ret;exact⟨by rw[Hf.out];rfl,Gg _ _⟩
theorem ZtJ(w:Gy)(F G:Gt)(A B:OA)(c d:Nat)(xs ys:List Edge)(hx:Walk F w A xs)(hy:Walk G w B ys)(hl:xs.length<=4398046511103)(aN:ys.length<=4398046511103):
  CN 27 #[.slice A xs.length c,.slice B ys.length d] w (.bool (xs==ys)):=by
 go_enter Tryz.func27,Tryz.ntmps27;go_wp2_with fail;refine Ck (Zt0 _ F G A B c d xs ys hx hy hl aN) fun w1 hu=>?_;go_wp2;go_ret;exact⟨rfl,hu⟩
def ZwF(w:Gy)(xs:Gl)(n:Nat)(e:Ending)(w':Gy):Prop:=∃A c,e= .returned (.slice A n c)∧w'.ownsRow w.heap.size 94 4 (.slice A n c) n xs∧Upd No w w'
/- Operations cloned,transactions copied and found. -/
theorem Znb:SlT Tryz.prog 51 50 4 32:=SlT.mk_ Tryz.underlying51 (z:= .agg #[.bool false,Qi 0,Qi 0,Qi 0]) (by kernel_rfl) rfl (by omega)
theorem Zf5{l:Gu}:∀r∈l.map HOp.cells,r.length=4:=fun r hr=>by
 obtain⟨e,_,rfl⟩:=Gc.1 hr;rfl
theorem ZrK{l:Gu}:∀v∈(l.map HOp.cells).flatten,v.oneCell'=true:=fun v hv=>by
 obtain⟨r,hr,h⟩:=List.mem_flatten.1 hv;obtain⟨e,_,rfl⟩:=Gc.1 hr;simp only[HOp.cells,F9,Ft,or_false]at h;rcases h with rfl|rfl|rfl|rfl<;>rfl
theorem Zs4{W:Gy}{B n s:Nat}{e:Gx}(hn:n=W.heap.size)(hB:B<=W.heap.size):(W.alloc (.cells #[] e)).ownsRow B e s (.slice (some ⟨n,0,none⟩) 0 0) 0 []:=by
 subst hn;exact Zz (World.ownsRow_made W #[] 0 (Nat.le_refl _) (by decide) (by simp)) hB
def ZuO(w:Gy)(l:Gu)(e:Ending)(w':Gy):Prop:=∃A c,e= .returned (.slice A l.length c)∧l.length<=c∧HOps (fun i=>w.heap.size<=i) w' A l∧Upd No w w'
theorem Zuo(F:Gt)(w:Gy)(A:OA)(c:Nat)(l:Gu)(h:HOps F w A l)(hl:Zp l.length):
  Calls Tryz.prog 219 #[.slice A l.length c] w (ZuO w l):=by
 unfold Zp at hl;have qT:∀(w:Gy) (a:OA) (n c:Nat),(binOp .eql 51 (.slice a n c) (.slice none 0 0)).run Tryz.prog w= .ok (.bool a.isNone) w:=fun w a n c=>Lib.run_eql_slice_nil w _ _ a n c 0 0 Tryz.underlying51
 cases A with
 |none=>
  have h0:l=[]:=by
   cases l with
   |nil=>rfl
   |cons a l=>obtain⟨_,e,_⟩:=h (by simp);cases e
  subst h0;go_enter Tryz.func219,Tryz.ntmps219;go_wp2;go_ret;exact⟨none,0,rfl,Nat.le_refl _,fun h=>absurd rfl h,Gg _ _⟩
 |some ad=>
  have hs:=Qh (show Src (w.alloc (.cells #[] 50)) (some ad) l.length 4 (l.map HOp.cells).flatten by
   have:=Recs.src (h.upd ((Gg No w).alloc (.cells #[] 50)) Qo) Zf5
   rwa [F6]at this)
  go_enter Tryz.func219,Tryz.ntmps219;go_wp2_with (at_builtin;refine Zgk rfl rfl Znb (base:=w.heap.size) (v:= .slice (some ⟨w.heap.size,0,none⟩) 0 0) (n:=0) (m:=l.length) (xs:=[]) rfl rfl (Zs4 rfl (Nat.le_refl _)) hs.out ZrK (by omega) (by omega) (by simp) ?_);intro v4 w4 ar hu4 cQ;obtain⟨A4,c4,rfl⟩:=ZaQ ar;have uw4:Upd No w w4:=((Gg No w).alloc _).then_ hu4 (fun j e=> .inr (ZiM e));have iE:=Znj ar;have hr:=(Recs.of_own Zf5 (by omega) ar).weak (G:=fun i=>w.heap.size<=i) fun i _ e=>(ar.lt i e).1
  have HR:=Qh (And.intro iE hr);clear iE hr;go_wp2;go_ret;exact⟨A4,c4,rfl,HR.out.1,HR.out.2,uw4⟩
def ZvW(w:Gy)(i0:Int)(dn:Bool)(l:Gu)(e:Ending)(w':Gy):Prop:=∃A c,e= .returned (.agg #[Qi i0,.bool dn,.slice A l.length c])∧l.length<=c∧HOps (fun i=>w.heap.size<=i) w' A l∧Upd No w w'
theorem Ztj(F:Gt)(w:Gy)(i0:Int)(dn:Bool)(A:OA)(c:Nat)(l:Gu)(h:HOps F w A l)(hl:Zp l.length):
  Calls Tryz.prog 211 #[.agg #[Qi i0,.bool dn,.slice A l.length c]] w (ZvW w i0 dn l):=by
 have u0:=((Gg No w).alloc (.cells #[Qi i0,.bool dn,.slice A l.length c] 53)).alloc (.cells #[Qi 0,.bool false,.slice none 0 0] 53);have b1:=(Gh w 53 [Qi i0,.bool dn,.slice A l.length c]).alloc (.cells #[Qi 0,.bool false,.slice none 0 0] 53);have b2:=Gh (w.alloc (.cells #[Qi i0,.bool dn,.slice A l.length c] 53)) 53 [Qi 0,.bool false,.slice none 0 0];simp only[Ge]at b2;go_enter Tryz.func211,Tryz.ntmps211;go_wp2_with fail;refine(Zuo F _ A c l (h.upd u0 Qo) hl).mono ?_;rintro e w1 ⟨A1,c1,rfl,cZ,bq,hu1⟩;have dj:=hu1.size;simp only[Ge]at dj;have d1:=b1.upd hu1 id;have d2:=b2.upd hu1 id;obtain⟨e0,e1,e2⟩:=d1.c3;have f2:=d1.free 2;obtain⟨g0,g1,g2⟩:=d2.c3;obtain⟨k0,k1,k2⟩:=d2.f3;have D:=Qh (And.intro d1 (And.intro d2 (And.intro b1 b2)));clear d1 d2 b1 b2;have Hh:=Qh (And.intro cZ (And.intro bq (And.intro hu1 dj)));clear cZ bq hu1 dj;go_wp2;obtain⟨cZ,bq,hu1,dj⟩:=Hh.out;obtain⟨d1,d2,-,-⟩:=D.out;have b3:=(((d2.far (p:=⟨w.heap.size,2,none⟩) (by show w.heap.size+1≠w.heap.size;omega) (.slice A1 l.length c1)).set_ 0 (Qi i0)).set_ 1 (.bool dn)).set_ 2 (.slice A1 l.length c1);simp only[List.set_cons_zero,List.set_cons_succ]at b3;refine bodyPost_ret (results_cell_row (p:=2) rfl _ _ _ _ _ _ _ rfl b3 Tryz.underlying53 rfl (by kernel_rfl)) rfl ⟨A1,c1,rfl,cZ,?_,?_⟩
 ·have u8:=((((Gg (fun i=>i=w.heap.size∨i=w.heap.size+1) w1).setCell (p:=⟨w.heap.size,2,none⟩) (.inl (.inl rfl)) (.slice A1 l.length c1)).setCell (p:=⟨w.heap.size+1,0,none⟩) (.inl (.inr rfl)) (Qi i0)).setCell (p:=⟨w.heap.size+1,1,none⟩) (.inl (.inr rfl)) (.bool dn)).setCell (p:=⟨w.heap.size+1,2,none⟩) (.inl (.inr rfl)) (.slice A1 l.length c1);simp only[Ge]at bq;exact(Recs.upd bq u8 (fun i hi e=>by rcases e with e|e<;>omega)).weak (fun i _ e=>by omega)
 ·have u9:Upd No w w1:=u0.trans hu1;exact(((u9.setCell (p:=⟨w.heap.size,2,none⟩) (.inr (Nat.le_refl _)) _).setCell (p:=⟨w.heap.size+1,0,none⟩) (.inr (Nat.le_succ _)) _).setCell (p:=⟨w.heap.size+1,1,none⟩) (.inr (Nat.le_succ _)) _).setCell (p:=⟨w.heap.size+1,2,none⟩) (.inr (Nat.le_succ _)) _
def Zh(txs:List HTx)(i:Int):Option HTx:=txs.find? fun t=>t.id==i
def Zd4(G:Gt)(w:Gy)(o:Option HTx)(e:Ending)(w':Gy):Prop:=
 (match o with
  |some t=>∃A c,e= .returned (.tuple #[.agg #[Qi t.id,.bool t.done,.slice A t.ops.length c],.bool true])∧t.ops.length<=c∧HOps G w' A t.ops
  |none=>e= .returned (.tuple #[.agg #[Qi 0,.bool false,.slice none 0 0],.bool false]))∧Upd No w w'
theorem Zjg{txs:List HTx}{i:Int}(h:∀(k:Nat) (hk:k<txs.length),(txs[k].id==i)=false):Zh txs i=none:=by
 unfold Zh;rw[List.find?_eq_none];intro x hx;obtain⟨k,hk,rfl⟩:=E8.1 hx;rw[h k hk];decide
theorem Zf9{txs:List HTx}{i:Int}{k:Nat}(hk:k<txs.length)(h:∀(j:Nat) (hj:j<k),((txs[j]'(by omega)).id==i)=false)(h1:(txs[k].id==i)=true):Zh txs i=some txs[k]:=by
 unfold Zh;rw[List.find?_eq_some_iff_getElem];exact⟨h1,k,hk,rfl,fun j hj=>by simp only[h j hj];rfl⟩
theorem Zsm(F:Gt)(w:Gy)(h:Hist)(i:Int)(H:h.lies F w):Calls Tryz.prog 87 #[h.val,Qi i] w (Zd4 F w (Zh h.txs i)):=by
 obtain⟨txs,ords,A,c,B,d⟩:=h;unfold Hist.val;have hf:=H.few;simp only at hf;have b0:=(Gh w 29 [.slice A txs.length c,.slice B ords.length d]).alloc (.cells #[Qi 0,.bool false,.slice none 0 0] 53);have b1:=Gh (w.alloc (.cells #[.slice A txs.length c,.slice B ords.length d] 29)) 53 [Qi 0,.bool false,.slice none 0 0];simp only[Ge]at b1;have B1:=Qh b1;clear b0 b1;go_enter Tryz.func87,Tryz.ntmps87;go_wp2
 go_loopg [11] txs.length (fun gk s wr=>∃k:Nat,k+gk=txs.length∧s= Qi k∧Hid (∀(j:Nat) (hj:j<txs.length),j<k->(txs[j].id==i)=false)∧Upd No ((w.alloc (.cells #[.slice A txs.length c,.slice B ords.length d] 29)).alloc (.cells #[Qi 0,.bool false,.slice none 0 0] 53)) wr)
 case atStart=>exact⟨0,by omega,rfl,Qh (fun j _ hj=>by omega),Gg _ _⟩
 case round=>
  obtain⟨k,aK,rfl,aH,hu⟩:=hrel;have dH:Upd No w wr:=(((Gg No w).alloc _).alloc _).trans hu;have bb:=B1.out.upd hu id;obtain⟨g0,g1,g2⟩:=bb.c3;obtain⟨k0,k1,k2⟩:=bb.f3;have BB:=Qh bb;clear bb
  by_cases hlt:k<txs.length
  ·obtain⟨ad,aA,c0,c1,c2⟩:=(H.upd dH Qo).tx_at hlt;simp only at aA c0 c1 c2;have eo:=(H.upd dH Qo).tx txs[k] (Fr hlt);obtain⟨x,hx⟩:=Qe (txs[k]);rw[hx]at c0 c1 c2 eo;subst aA;have X:=Qh hx;have M:=Qh eo;clear hx eo
   by_cases he:x.id=i
   ·have dO:(x.id==i)=true:=by simpa using he
    clear he g0 g1 g2 k0 k1 k2;have ba:=BB.out.alloc (.cells #[Qi x.id,.bool x.done,.slice x.A x.ops.length x.c] 53);obtain⟨g0,g1,g2⟩:=ba.c3;obtain⟨k0,k1,k2⟩:=ba.f3;have BA:=Qh ba;clear ba;have jA:=Qh (Zf9 (txs:=txs) (i:=i) hlt (fun j hj=>aH.out j (by omega) hj) (by rw[X.out];exact dO));go_wp2;have b3:=((BA.out.set_ 0 (Qi x.id)).set_ 1 (.bool x.done)).set_ 2 (.slice x.A x.ops.length x.c);simp only[List.set_cons_zero,List.set_cons_succ]at b3;obtain⟨r0,r1,r2⟩:=b3.c3;have u3:Upd No w ((((wr.alloc (.cells #[Qi x.id,.bool x.done,.slice x.A x.ops.length x.c] 53)).setCell ⟨w.heap.size+1,0,none⟩ (Qi x.id)).setCell ⟨w.heap.size+1,1,none⟩ (.bool x.done)).setCell ⟨w.heap.size+1,2,none⟩ (.slice x.A x.ops.length x.c)):=(((dH.alloc _).setCell (p:=⟨w.heap.size+1,0,none⟩) (.inr (Nat.le_succ _)) _).setCell (p:=⟨w.heap.size+1,1,none⟩) (.inr (Nat.le_succ _)) _).setCell (p:=⟨w.heap.size+1,2,none⟩) (.inr (Nat.le_succ _)) _;refine bodyPost_ret (v:= .tuple #[.agg #[Qi x.id,.bool x.done,.slice x.A x.ops.length x.c],.bool true]) (by simp[results,Tryz.results87,go_sem,r0,r1,r2]) rfl ?_;unfold Zd4;rw[show Zh txs i=some x from by rw[jA.out,X.out]];exact⟨⟨x.A,x.c,rfl,M.out.2.1,HOps.upd (H.tx x (by rw[<-X.out];exact Fr hlt)).1 u3 Qo⟩,u3⟩
   ·have dO:(x.id==i)=false:=by simpa using he
    clear he;go_wp2;go_roundg (gk-1)
    case measure=>omega
    case rel=>exact⟨k+1,by omega,by go_num,Qh (fun j hj hjk=>by
      by_cases e:j=k
      ·subst e;rw[X.out];exact dO
      ·exact aH.out j hj (by omega)),hu.alloc _⟩
  ·obtain rfl:k=txs.length:=by omega
   have ja:=Qh (Zjg (txs:=txs) (i:=i) fun k hk=>aH.out k hk hk);go_wp2;have b3:=((BB.out.set_ 0 (Qi 0)).set_ 1 (.bool false)).set_ 2 (.slice none 0 0);simp only[List.set_cons_zero,List.set_cons_succ]at b3;obtain⟨r0,r1,r2⟩:=b3.c3;have u3:Upd No w (((wr.setCell ⟨w.heap.size+1,0,none⟩ (Qi 0)).setCell ⟨w.heap.size+1,1,none⟩ (.bool false)).setCell ⟨w.heap.size+1,2,none⟩ (.slice none 0 0)):=((dH.setCell (p:=⟨w.heap.size+1,0,none⟩) (.inr (Nat.le_succ _)) _).setCell (p:=⟨w.heap.size+1,1,none⟩) (.inr (Nat.le_succ _)) _).setCell (p:=⟨w.heap.size+1,2,none⟩) (.inr (Nat.le_succ _)) _;refine bodyPost_ret (v:= .tuple #[.agg #[Qi 0,.bool false,.slice none 0 0],.bool false]) (by simp[results,Tryz.results87,go_sem,r0,r1,r2]) rfl ?_;unfold Zd4;rw[ja.out];exact⟨rfl,u3⟩
theorem Zsq(F:Gt)(w:Gy)(h:Hist)(i:Int)(H:h.lies F w):Calls Tryz.prog 190 #[h.val,Qi i] w (Zd4 (fun i=>w.heap.size<=i) w (Zh h.txs i)):=by
 obtain⟨txs,ords,A,c,B,d⟩:=h;unfold Hist.val;have hf:=H.few;simp only at hf;have b0:=(Gh w 29 [.slice A txs.length c,.slice B ords.length d]).alloc (.cells #[Qi 0,.bool false,.slice none 0 0] 53);have b1:=Gh (w.alloc (.cells #[.slice A txs.length c,.slice B ords.length d] 29)) 53 [Qi 0,.bool false,.slice none 0 0];simp only[Ge]at b1;have B1:=Qh b1;clear b0 b1;go_enter Tryz.func190,Tryz.ntmps190;go_wp2
 go_loopg [11] txs.length (fun gk s wr=>∃k:Nat,k+gk=txs.length∧s= Qi k∧Hid (∀(j:Nat) (hj:j<txs.length),j<k->(txs[j].id==i)=false)∧Upd No ((w.alloc (.cells #[.slice A txs.length c,.slice B ords.length d] 29)).alloc (.cells #[Qi 0,.bool false,.slice none 0 0] 53)) wr)
 case atStart=>exact⟨0,by omega,rfl,Qh (fun j _ hj=>by omega),Gg _ _⟩
 case round=>
  obtain⟨k,aK,rfl,aH,hu⟩:=hrel;have dH:Upd No w wr:=(((Gg No w).alloc _).alloc _).trans hu;have bb:=B1.out.upd hu id;obtain⟨g0,g1,g2⟩:=bb.c3;obtain⟨k0,k1,k2⟩:=bb.f3;have BB:=Qh bb;clear bb
  by_cases hlt:k<txs.length
  ·obtain⟨ad,aA,c0,c1,c2⟩:=(H.upd dH Qo).tx_at hlt;simp only at aA c0 c1 c2;have eo:=(H.upd dH Qo).tx txs[k] (Fr hlt);obtain⟨x,hx⟩:=Qe (txs[k]);rw[hx]at c0 c1 c2 eo;subst aA;have X:=Qh hx;have M:=Qh eo;clear hx eo
   by_cases he:x.id=i
   ·have dO:(x.id==i)=true:=by simpa using he
    clear he g0 g1 g2 k0 k1 k2;have ba:=BB.out.alloc (.cells #[Qi x.id,.bool x.done,.slice x.A x.ops.length x.c] 53);obtain⟨g0,g1,g2⟩:=ba.c3;obtain⟨k0,k1,k2⟩:=ba.f3;have BA:=Qh ba;clear ba;have jA:=Qh (Zf9 (txs:=txs) (i:=i) hlt (fun j hj=>aH.out j (by omega) hj) (by rw[X.out];exact dO));have me:=HOps.upd (H.tx x (by rw[<-X.out];exact Fr hlt)).1 (dH.alloc (.cells #[Qi x.id,.bool x.done,.slice x.A x.ops.length x.c] 53)) Qo;have vS:=hu.size;simp only[Ge]at vS;clear g0 g1 g2 k0 k1 k2;go_wp2_with fail;refine(Ztj F _ x.id x.done x.A x.c x.ops me M.out.2.2.1).mono ?_;rintro e w1 ⟨A1,c1,rfl,cZ,bq,hu1⟩;have gq:=Qh (BA.out.upd hu1 id);obtain⟨g0,g1,g2⟩:=gq.out.c3;obtain⟨k0,k1,k2⟩:=gq.out.f3;have HH:=Qh (And.intro cZ (And.intro bq hu1));clear cZ bq hu1;go_wp2;obtain⟨cZ,bq,hu1⟩:=HH.out;have b3:=((gq.out.set_ 0 (Qi x.id)).set_ 1 (.bool x.done)).set_ 2 (.slice A1 x.ops.length c1);simp only[List.set_cons_zero,List.set_cons_succ]at b3;obtain⟨r0,r1,r2⟩:=b3.c3;have tm:Upd No w w1:=(dH.alloc _).trans hu1;have u3:Upd No w (((w1.setCell ⟨w.heap.size+1,0,none⟩ (Qi x.id)).setCell ⟨w.heap.size+1,1,none⟩ (.bool x.done)).setCell ⟨w.heap.size+1,2,none⟩ (.slice A1 x.ops.length c1)):=((tm.setCell (p:=⟨w.heap.size+1,0,none⟩) (.inr (Nat.le_succ _)) _).setCell (p:=⟨w.heap.size+1,1,none⟩) (.inr (Nat.le_succ _)) _).setCell (p:=⟨w.heap.size+1,2,none⟩) (.inr (Nat.le_succ _)) _
    have u4:Upd (One (w.heap.size+1)) w1 (((w1.setCell ⟨w.heap.size+1,0,none⟩ (Qi x.id)).setCell ⟨w.heap.size+1,1,none⟩ (.bool x.done)).setCell ⟨w.heap.size+1,2,none⟩ (.slice A1 x.ops.length c1)):=(((Gg _ w1).setOne _ _).setOne _ _).setOne _ _;simp only[Ge]at bq;refine bodyPost_ret (v:= .tuple #[.agg #[Qi x.id,.bool x.done,.slice A1 x.ops.length c1],.bool true]) (by simp[results,Tryz.results190,go_sem,r0,r1,r2]) rfl ?_;unfold Zd4;rw[show Zh txs i=some x from by rw[jA.out,X.out]];exact⟨⟨A1,c1,rfl,cZ,(Recs.upd bq u4 (fun i hi e=>by cases e;omega)).weak (fun i _ e=>by omega)⟩,u3⟩
   ·have dO:(x.id==i)=false:=by simpa using he
    clear he;go_wp2;go_roundg (gk-1)
    case measure=>omega
    case rel=>exact⟨k+1,by omega,by go_num,Qh (fun j hj hjk=>by
      by_cases e:j=k
      ·subst e;rw[X.out];exact dO
      ·exact aH.out j hj (by omega)),hu.alloc _⟩
  ·obtain rfl:k=txs.length:=by omega
   have ja:=Qh (Zjg (txs:=txs) (i:=i) fun k hk=>aH.out k hk hk);go_wp2;have b3:=((BB.out.set_ 0 (Qi 0)).set_ 1 (.bool false)).set_ 2 (.slice none 0 0);simp only[List.set_cons_zero,List.set_cons_succ]at b3;obtain⟨r0,r1,r2⟩:=b3.c3;have u3:Upd No w (((wr.setCell ⟨w.heap.size+1,0,none⟩ (Qi 0)).setCell ⟨w.heap.size+1,1,none⟩ (.bool false)).setCell ⟨w.heap.size+1,2,none⟩ (.slice none 0 0)):=((dH.setCell (p:=⟨w.heap.size+1,0,none⟩) (.inr (Nat.le_succ _)) _).setCell (p:=⟨w.heap.size+1,1,none⟩) (.inr (Nat.le_succ _)) _).setCell (p:=⟨w.heap.size+1,2,none⟩) (.inr (Nat.le_succ _)) _;refine bodyPost_ret (v:= .tuple #[.agg #[Qi 0,.bool false,.slice none 0 0],.bool false]) (by simp[results,Tryz.results190,go_sem,r0,r1,r2]) rfl ?_;unfold Zd4;rw[ja.out];exact⟨rfl,u3⟩
/- Walks begun elsewhere,and turned,by the program and by the document. -/
theorem Zro{W:Gy}{B n:Nat}{e:Gx}(hn:n=W.heap.size)(hB:B<=W.heap.size):(W.alloc (.cells #[] e)).ownsRow B e 4 (.slice (some ⟨n,0,none⟩) 0 0) 0 []:=by
 subst hn;exact Zz (World.ownsRow_made W #[] 0 (Nat.le_refl _) (by decide) rfl) hB
theorem Walk.src{F:Gt}{w:Gy}{A:OA}{l:List Edge}(h:Walk F w A l){n:Nat}(hn:n=l.length):Src w A n 4 (l.map Edge.cells).flatten:=by
 subst hn;have:=Recs.src h Zao
 rwa [F6]at this
theorem Walk.drop{F:Gt}{w:Gy}{A:OA}{l:List Edge}(h:Walk F w A l){i c:Nat}(hc:l.length<=c):Walk F w (ZcT A c i 4) (l.drop i):=by
 unfold Walk;rw[List.map_drop];exact Recs.cut h (by simpa using hc)
theorem Walk.take{F:Gt}{w:Gy}{A:OA}{l:List Edge}(h:Walk F w A l){i:Nat}:Walk F w A (l.take i):=by
 unfold Walk;rw[List.map_take];exact Recs.take h
/- Walks turned:the plain law:the least of all that are begun elsewhere is one,from whichever place it is begun. -/
theorem Zhm(a:Edge):ltE a a=false:=by unfold ltE;simp
theorem Zb3(a b:Edge):ltE a b=true↔a.f<b.f∨(a.f=b.f∧(a.k<b.k∨(a.k=b.k∧(a.key<b.key∨(a.key=b.key∧a.t<b.t))))):=by
 unfold ltE
 split
 ·simp;omega
 ·split
  ·simp;omega
  ·split<;>simp<;>omega
theorem Zkz{a b c:Edge}(h:ltE a b=true)(k:ltE b c=true):ltE a c=true:=by
 rw[Zb3]at*;omega
theorem ZjJ{a b:Edge}(h:ltE a b=false)(k:ltE b a=false):a=b:=by
 rw[<-Fm,Zb3]at h k;obtain⟨f,t,n,y⟩:=a;obtain⟨f',t',n',y'⟩:=b;simp only[Edge.mk.injEq]at*;omega
/- The document on histories:what is there,orders,writers. -/
def ZcE(txs:List HTx)(v:Ver):Bool:=
 if v.tx=0∧v.nth=0 then idB v.key
 else match Zh txs v.tx with
  |some t=>decide (1<=v.nth)&&decide (v.nth<=(Zd t.ops v.key:Int))
  |none=>false
section
variable {F:Gt} {w:Gy} {txs:List HTx} {ords:Gq} {A:OA} {c:Nat} {B:OA} {d:Nat} {i:Int}
theorem Zdz(H:Hist.lies F w ⟨txs,ords,A,c,B,d⟩)(hf:Zh txs i=none):Calls Tryz.prog 87 #[.agg #[.slice A txs.length c,.slice B ords.length d],Qi i] w fun e w'=>
  e= .returned (.tuple #[.agg #[Qi 0,.bool false,.slice none 0 0],.bool false])∧Upd No w w':=by
 have h:=Zsm F w ⟨txs,ords,A,c,B,d⟩ i H;refine h.mono ?_;intro e w' hq;unfold Zd4 at hq;rw[show Zh (Hist.txs ⟨txs,ords,A,c,B,d⟩) i=none from hf]at hq;exact hq
theorem ZbB{t:HTx}(H:Hist.lies F w ⟨txs,ords,A,c,B,d⟩)(hf:Zh txs i=some t):Calls Tryz.prog 87 #[.agg #[.slice A txs.length c,.slice B ords.length d],Qi i] w fun e w'=>
  ∃A' c',e= .returned (.tuple #[.agg #[Qi t.id,.bool t.done,.slice A' t.ops.length c'],.bool true])∧t.ops.length<=c'∧HOps F w' A' t.ops∧Upd No w w':=by
 have h:=Zsm F w ⟨txs,ords,A,c,B,d⟩ i H;refine h.mono ?_;intro e w' hq;unfold Zd4 at hq;rw[show Zh (Hist.txs ⟨txs,ords,A,c,B,d⟩) i=some t from hf]at hq;obtain⟨⟨A',c',h1,h2,h3⟩,h4⟩:=hq;exact⟨A',c',h1,h2,h3,h4⟩
end
theorem Zp8{txs:List HTx}{v:Ver}(h:¬(v.tx=0∧v.nth=0))(hf:Zh txs v.tx=none):ZcE txs v=false:=by unfold ZcE;rw[if_neg h,hf]
theorem Zp7{txs:List HTx}{v:Ver}{t:HTx}(h:¬(v.tx=0∧v.nth=0))(hf:Zh txs v.tx=some t):ZcE txs v=(decide (1<=v.nth)&&decide (v.nth<=(Zd t.ops v.key:Int))):=by unfold ZcE;rw[if_neg h,hf]
theorem Zf8{txs:List HTx}{i:Int}{t:HTx}(h:Zh txs i=some t):t∈txs:=List.mem_of_find?_eq_some h
theorem Zwd(F:Gt)(w:Gy)(txs:List HTx)(ords:Gq)(A:OA)(c:Nat)(B:OA)(d:Nat)(v:Ver)(H:Hist.lies F w ⟨txs,ords,A,c,B,d⟩):
  CN 127 #[.agg #[.slice A txs.length c,.slice B ords.length d],.agg v.cells.toArray] w (.bool (ZcE txs v)):=by
 obtain⟨tx,key,nth⟩:=v;unfold Ver.cells;have u0:=((Gg No w).alloc (.cells #[.slice A txs.length c,.slice B ords.length d] 29)).alloc (.cells #[Qi tx,Qi key,Qi nth] 36);have b1:=Gh (w.alloc (.cells #[.slice A txs.length c,.slice B ords.length d] 29)) 36 [Qi tx,Qi key,Qi nth];simp only[Ge]at b1;have B1:=Qh b1;have U0:=Qh u0;have HH:=Qh (H.upd u0 Qo);clear b1 u0
 by_cases h0:tx=0∧nth=0
 ·have HV:=Qh (show ZcE txs ⟨tx,key,nth⟩=idB key by unfold ZcE;rw[if_pos h0]);obtain⟨rfl,rfl⟩:=h0;obtain⟨b,hb⟩:=Qe (idB key);rw[hb]at HV;have Hb:=Qh hb;clear hb;go_enter Tryz.func127,Tryz.ntmps127;go_wp2_with fail;refine(ZbZ Hb.out).mono ?_;rintro e w1 ⟨rfl,rfl⟩;go_wp2;go_ret;exact⟨by rw[HV.out];rfl,U0.out⟩
 ·cases hf:Zh txs tx with
  |none=>
   have HV:=Qh (Zp8 (v:=⟨tx,key,nth⟩) h0 hf);have HF:=Qh hf
   by_cases htx:tx=0
   ·have hb1:(tx==0)=true:=by simpa using htx
    have hb2:(nth==0)=false:=by simpa using fun e=>h0 ⟨htx,e⟩
    clear hf h0 htx;go_enter Tryz.func127,Tryz.ntmps127;go_wp2_with fail;refine Ck (Zdz HH.out HF.out) fun w1 hu1=>?_;have uT:=hu1.alloc (.cells #[Qi 0,.bool false,.slice none 0 0] 53);have hT:∀W,Upd No (w1.alloc (.cells #[Qi 0,.bool false,.slice none 0 0] 53)) W->True:=fun W hW=>trivial
    clear hu1;go_wp2;refine wpS (fun w'=>Upd No (w1.alloc (.cells #[Qi 0,.bool false,.slice none 0 0] 53)) w') ?_ fun jH=>?_
    ·(first|exact(Gg No _).drew|exact jH.trans hu3)
    (iterate 11 refine wpF ?_);refine wpN 12 rfl ?_;refine wpN 13 rfl ?_;refine wpZ 11 rfl fun K hK=>?_;go_simp;refine hK.out _ _ ?_ fun jH=>?_
    ·exact jH
    try simp only[Qa]
    (iterate 3 refine wpF ?_);refine wpD (Gd ?_);have HU:=Qh (U0.out.trans (uT.trans jH));clear jH;go_wp2;go_ret;exact⟨by rw[HV.out];rfl,HU.out⟩
   ·have hb1:(tx==0)=false:=by simpa using htx
    clear hf h0 htx;go_enter Tryz.func127,Tryz.ntmps127;go_wp2_with fail;refine Ck (Zdz HH.out HF.out) fun w1 hu1=>?_;have uT:=hu1.alloc (.cells #[Qi 0,.bool false,.slice none 0 0] 53);have hT:∀W,Upd No (w1.alloc (.cells #[Qi 0,.bool false,.slice none 0 0] 53)) W->True:=fun W hW=>trivial
    clear hu1;go_wp2;refine wpS (fun w'=>Upd No (w1.alloc (.cells #[Qi 0,.bool false,.slice none 0 0] 53)) w') ?_ fun jH=>?_
    ·(first|exact(Gg No _).drew|exact jH.trans hu3)
    (iterate 11 refine wpF ?_);refine wpN 12 rfl ?_;refine wpN 13 rfl ?_;refine wpZ 11 rfl fun K hK=>?_;go_simp;refine hK.out _ _ ?_ fun jH=>?_
    ·exact jH
    try simp only[Qa]
    (iterate 3 refine wpF ?_);refine wpD (Gd ?_);have HU:=Qh (U0.out.trans (uT.trans jH));clear jH;go_wp2;go_ret;exact⟨by rw[HV.out];rfl,HU.out⟩
  |some t=>
   have HV:=Qh (Zp7 (v:=⟨tx,key,nth⟩) h0 hf);have HF:=Qh hf;have HT:=Qh (H.tx t (Zf8 hf))
   by_cases htx:tx=0
   ·have hb1:(tx==0)=true:=by simpa using htx
    have hb2:(nth==0)=false:=by simpa using fun e=>h0 ⟨htx,e⟩
    clear hf h0 htx
    by_cases hn1:1<=nth
    ·go_enter Tryz.func127,Tryz.ntmps127;go_wp2_with fail;refine(ZbB HH.out HF.out).mono ?_;rintro e w1 ⟨A1,c1,rfl,cZ,bq,hu1⟩;have bT:=Gh w1 53 [Qi t.id,.bool t.done,.slice A1 t.ops.length c1];have uT:=hu1.alloc (.cells #[Qi t.id,.bool t.done,.slice A1 t.ops.length c1] 53);have hT:∀W,Upd No (w1.alloc (.cells #[Qi t.id,.bool t.done,.slice A1 t.ops.length c1] 53)) W->W.cell? ⟨w1.heap.size,2,none⟩=some (.slice A1 t.ops.length c1):=fun W hW=>(bT.upd hW id).cell 2
     have sB:∀W,Upd No (w1.alloc (.cells #[Qi t.id,.bool t.done,.slice A1 t.ops.length c1] 53)) W->W.cell? ⟨w.heap.size+1,1,none⟩=some (Qi key):=fun W hW=>(B1.out.upd (uT.trans hW) id).cell 1
     have sP:∀W,Upd No (w1.alloc (.cells #[Qi t.id,.bool t.done,.slice A1 t.ops.length c1] 53)) W->W.cell? ⟨w.heap.size+1,2,none⟩=some (Qi nth):=fun W hW=>(B1.out.upd (uT.trans hW) id).cell 2
     have HW:=Qh fun W (hW:Upd No (w1.alloc (.cells #[Qi t.id,.bool t.done,.slice A1 t.ops.length c1] 53)) W)=>ZcI F W A1 c1 t.ops key (HOps.upd bq (((Gg No _).alloc _).trans hW) Qo) HT.out.2.2.1
     have UT:=Qh uT;clear bT uT hu1 bq;go_wp2;refine wpS (fun w'=>Upd No (w1.alloc (.cells #[Qi t.id,.bool t.done,.slice A1 t.ops.length c1] 53)) w') ?_ fun jH=>?_
     ·(first|exact(Gg No _).drew|exact jH.trans hu3)
     (iterate 11 refine wpF ?_);refine wpK 12 rfl ?_;refine wpK 13 rfl ?_;refine wpZ 11 rfl fun K hK=>?_;go_simp
     (first
  |(go_at_call 88;refine Ck (HW.out _ jH) fun w3 hu3=>?_))
     try (go_wp2_with fail)
     refine hK.out _ _ ?_ fun jH=>?_
     ·(first|exact(Gg No _).drew|exact jH.trans hu3)
     try simp only[Qa]
     (iterate 3 refine wpF ?_);refine wpD (Gd ?_);have HU:=Qh (U0.out.trans (UT.out.trans jH));clear jH;go_wp2;go_ret;exact⟨by rw[HV.out,Qt hn1];rfl,HU.out⟩
    ·have gr:decide (1<=nth)=false:=Qf hn1;go_enter Tryz.func127,Tryz.ntmps127;go_wp2_with fail;refine(ZbB HH.out HF.out).mono ?_;rintro e w1 ⟨A1,c1,rfl,cZ,bq,hu1⟩;have bT:=Gh w1 53 [Qi t.id,.bool t.done,.slice A1 t.ops.length c1];have uT:=hu1.alloc (.cells #[Qi t.id,.bool t.done,.slice A1 t.ops.length c1] 53);have hT:∀W,Upd No (w1.alloc (.cells #[Qi t.id,.bool t.done,.slice A1 t.ops.length c1] 53)) W->W.cell? ⟨w1.heap.size,2,none⟩=some (.slice A1 t.ops.length c1):=fun W hW=>(bT.upd hW id).cell 2
     have sB:∀W,Upd No (w1.alloc (.cells #[Qi t.id,.bool t.done,.slice A1 t.ops.length c1] 53)) W->W.cell? ⟨w.heap.size+1,1,none⟩=some (Qi key):=fun W hW=>(B1.out.upd (uT.trans hW) id).cell 1
     have sP:∀W,Upd No (w1.alloc (.cells #[Qi t.id,.bool t.done,.slice A1 t.ops.length c1] 53)) W->W.cell? ⟨w.heap.size+1,2,none⟩=some (Qi nth):=fun W hW=>(B1.out.upd (uT.trans hW) id).cell 2
     have HW:=Qh fun W (hW:Upd No (w1.alloc (.cells #[Qi t.id,.bool t.done,.slice A1 t.ops.length c1] 53)) W)=>ZcI F W A1 c1 t.ops key (HOps.upd bq (((Gg No _).alloc _).trans hW) Qo) HT.out.2.2.1
     have UT:=Qh uT;clear bT uT hu1 bq;go_wp2;refine wpS (fun w'=>Upd No (w1.alloc (.cells #[Qi t.id,.bool t.done,.slice A1 t.ops.length c1] 53)) w') ?_ fun jH=>?_
     ·(first|exact(Gg No _).drew|exact jH.trans hu3)
     (iterate 11 refine wpF ?_);refine wpN 12 rfl ?_;refine wpN 13 rfl ?_;refine wpZ 11 rfl fun K hK=>?_;go_simp;refine hK.out _ _ ?_ fun jH=>?_
     ·exact jH
     try simp only[Qa]
     (iterate 3 refine wpF ?_);refine wpD (Gd ?_);have HU:=Qh (U0.out.trans (UT.out.trans jH));clear jH;go_wp2;go_ret;exact⟨by rw[HV.out,gr];rfl,HU.out⟩
   ·have hb1:(tx==0)=false:=by simpa using htx
    clear hf h0 htx
    by_cases hn1:1<=nth
    ·go_enter Tryz.func127,Tryz.ntmps127;go_wp2_with fail;refine(ZbB HH.out HF.out).mono ?_;rintro e w1 ⟨A1,c1,rfl,cZ,bq,hu1⟩;have bT:=Gh w1 53 [Qi t.id,.bool t.done,.slice A1 t.ops.length c1];have uT:=hu1.alloc (.cells #[Qi t.id,.bool t.done,.slice A1 t.ops.length c1] 53);have hT:∀W,Upd No (w1.alloc (.cells #[Qi t.id,.bool t.done,.slice A1 t.ops.length c1] 53)) W->W.cell? ⟨w1.heap.size,2,none⟩=some (.slice A1 t.ops.length c1):=fun W hW=>(bT.upd hW id).cell 2
     have sB:∀W,Upd No (w1.alloc (.cells #[Qi t.id,.bool t.done,.slice A1 t.ops.length c1] 53)) W->W.cell? ⟨w.heap.size+1,1,none⟩=some (Qi key):=fun W hW=>(B1.out.upd (uT.trans hW) id).cell 1
     have sP:∀W,Upd No (w1.alloc (.cells #[Qi t.id,.bool t.done,.slice A1 t.ops.length c1] 53)) W->W.cell? ⟨w.heap.size+1,2,none⟩=some (Qi nth):=fun W hW=>(B1.out.upd (uT.trans hW) id).cell 2
     have HW:=Qh fun W (hW:Upd No (w1.alloc (.cells #[Qi t.id,.bool t.done,.slice A1 t.ops.length c1] 53)) W)=>ZcI F W A1 c1 t.ops key (HOps.upd bq (((Gg No _).alloc _).trans hW) Qo) HT.out.2.2.1
     have UT:=Qh uT;clear bT uT hu1 bq;go_wp2;refine wpS (fun w'=>Upd No (w1.alloc (.cells #[Qi t.id,.bool t.done,.slice A1 t.ops.length c1] 53)) w') ?_ fun jH=>?_
     ·(first|exact(Gg No _).drew|exact jH.trans hu3)
     (iterate 11 refine wpF ?_);refine wpK 12 rfl ?_;refine wpK 13 rfl ?_;refine wpZ 11 rfl fun K hK=>?_;go_simp
     (first
  |(go_at_call 88;refine Ck (HW.out _ jH) fun w3 hu3=>?_))
     try (go_wp2_with fail)
     refine hK.out _ _ ?_ fun jH=>?_
     ·(first|exact(Gg No _).drew|exact jH.trans hu3)
     try simp only[Qa]
     (iterate 3 refine wpF ?_);refine wpD (Gd ?_);have HU:=Qh (U0.out.trans (UT.out.trans jH));clear jH;go_wp2;go_ret;exact⟨by rw[HV.out,Qt hn1];rfl,HU.out⟩
    ·have gr:decide (1<=nth)=false:=Qf hn1;go_enter Tryz.func127,Tryz.ntmps127;go_wp2_with fail;refine(ZbB HH.out HF.out).mono ?_;rintro e w1 ⟨A1,c1,rfl,cZ,bq,hu1⟩;have bT:=Gh w1 53 [Qi t.id,.bool t.done,.slice A1 t.ops.length c1];have uT:=hu1.alloc (.cells #[Qi t.id,.bool t.done,.slice A1 t.ops.length c1] 53);have hT:∀W,Upd No (w1.alloc (.cells #[Qi t.id,.bool t.done,.slice A1 t.ops.length c1] 53)) W->W.cell? ⟨w1.heap.size,2,none⟩=some (.slice A1 t.ops.length c1):=fun W hW=>(bT.upd hW id).cell 2
     have sB:∀W,Upd No (w1.alloc (.cells #[Qi t.id,.bool t.done,.slice A1 t.ops.length c1] 53)) W->W.cell? ⟨w.heap.size+1,1,none⟩=some (Qi key):=fun W hW=>(B1.out.upd (uT.trans hW) id).cell 1
     have sP:∀W,Upd No (w1.alloc (.cells #[Qi t.id,.bool t.done,.slice A1 t.ops.length c1] 53)) W->W.cell? ⟨w.heap.size+1,2,none⟩=some (Qi nth):=fun W hW=>(B1.out.upd (uT.trans hW) id).cell 2
     have HW:=Qh fun W (hW:Upd No (w1.alloc (.cells #[Qi t.id,.bool t.done,.slice A1 t.ops.length c1] 53)) W)=>ZcI F W A1 c1 t.ops key (HOps.upd bq (((Gg No _).alloc _).trans hW) Qo) HT.out.2.2.1
     have UT:=Qh uT;clear bT uT hu1 bq;go_wp2;refine wpS (fun w'=>Upd No (w1.alloc (.cells #[Qi t.id,.bool t.done,.slice A1 t.ops.length c1] 53)) w') ?_ fun jH=>?_
     ·(first|exact(Gg No _).drew|exact jH.trans hu3)
     (iterate 11 refine wpF ?_);refine wpN 12 rfl ?_;refine wpN 13 rfl ?_;refine wpZ 11 rfl fun K hK=>?_;go_simp;refine hK.out _ _ ?_ fun jH=>?_
     ·exact jH
     try simp only[Qa]
     (iterate 3 refine wpF ?_);refine wpD (Gd ?_);have HU:=Qh (U0.out.trans (UT.out.trans jH));clear jH;go_wp2;go_ret;exact⟨by rw[HV.out,gr];rfl,HU.out⟩
/- The document on histories:needs,right transactions,orders,writers,keys. -/
theorem ZiY(id:Int):∀(l:Gu) (acc:Gs),(ZS id acc l).length<=acc.length+l.length
 |[],acc=>by simp[ZS]
 |o::l,acc=>by
  rw[Zfi];have:=ZiY id l (if Zb0 id o&& !acc.contains (Zw o) then acc++[Zw o] else acc);have h2:(if Zb0 id o&& !acc.contains (Zw o) then acc++[Zw o] else acc).length<=acc.length+1:=by split<;>simp
  rw[Fs];omega
theorem Zt5(F:Gt)(w:Gy)(txs:List HTx)(ords:Gq)(A:OA)(c:Nat)(B:OA)(d:Nat)(i0:Int)(dn:Bool)(A1:OA)(c1:Nat)(l:Gu)
  (H:Hist.lies F w ⟨txs,ords,A,c,B,d⟩) (h:HOps F w A1 l) (hl:l.length<=100000):
  CN 83 #[.agg #[.slice A txs.length c,.slice B ords.length d],.agg #[Qi i0,.bool dn,.slice A1 l.length c1]] w (.bool ((ZS i0 [] l).all (ZcE txs))):=by
 have u0:=((Gg No w).alloc (.cells #[.slice A txs.length c,.slice B ords.length d] 29)).alloc (.cells #[Qi i0,.bool dn,.slice A1 l.length c1] 53);have bH:=Qh ((Gh w 29 [.slice A txs.length c,.slice B ords.length d]).alloc (.cells #[Qi i0,.bool dn,.slice A1 l.length c1] 53));have HN:=Qh (Zuc F _ i0 dn A1 c1 l (HOps.upd h u0 Qo) hl);have hlen:=ZiY i0 l [];obtain⟨ns,my⟩:=Qe (ZS i0 [] l);rw[my]at HN hlen ⊢;simp only[Fz,Nat.zero_add]at hlen;have U0:=Qh u0;clear my u0;go_enter Tryz.func83,Tryz.ntmps83;go_wp2_with fail;refine(HN.out).mono ?_;rintro e w1 ⟨A2,c2,rfl,bi,hu1⟩;have HV:=Qh (Zhy bi);have U1:=Qh (U0.out.trans hu1);have DX:∀W,Upd No w1 W->W.cell? ⟨w.heap.size,0,none⟩=some (.slice A txs.length c):=fun W hW=>(bH.out.upd (hu1.trans hW) id).cell 0
 have sB:∀W,Upd No w1 W->W.cell? ⟨w.heap.size,1,none⟩=some (.slice B ords.length d):=fun W hW=>(bH.out.upd (hu1.trans hW) id).cell 1
 have HH:=Qh fun W (hW:Upd No w1 W) v=>Zwd F W txs ords A c B d v (H.upd (U1.out.trans hW) Qo)
 clear bi hu1;go_wp2
 go_loopg [10] ns.length (fun gk i wr=>∃(k:Nat),k+gk=ns.length∧i= Qi k∧Hid ((ns.drop k).all (ZcE txs)=ns.all (ZcE txs))∧Upd No w1 wr)
 case atStart=>exact⟨0,by omega,rfl,Qh rfl,Gg _ _⟩
 case round=>
  obtain⟨k,aK,rfl,hs,hu⟩:=hrel
  by_cases hlt:k<ns.length
  ·obtain⟨ad,aA,q0,q1,q2⟩:=(HV.out.upd hu Qo).at_ hlt;obtain⟨x,hx⟩:=Qe (ns[k]);rw[hx]at q0 q1 q2;subst aA;have X:=Qh (show ns.drop k=x::ns.drop (k+1) by rw[<-hx];exact Ev hlt);have b1:(0:Int)<=(k:Int):=Qn _;have b2:(k:Int)<(ns.length:Int):=by omega
   clear hx;have uA:=hu.alloc (.cells #[Qi x.tx,Qi x.key,Qi x.nth] 36);have ag:=hs.out;rw[X.out,List.all_cons]at ag;have HC:=Qh (HH.out _ uA ⟨x.tx,x.key,x.nth⟩);obtain⟨b,hb⟩:=Qe (ZcE txs ⟨x.tx,x.key,x.nth⟩);rw[hb]at HC;rw[show ZcE txs x=b from hb]at ag
   cases b
   ·have HS:=Qh (show ns.all (ZcE txs)=false by rw[<-ag];rfl);clear ag hb;go_wp2_with fail;refine Ck HC.out fun w2 hu2=>?_;have HU:=Qh (U1.out.trans (uA.trans hu2));go_wp2;go_ret;exact⟨by rw[HS.out];rfl,HU.out⟩
   ·rw[Bool.true_and]at ag;have HS:=Qh ag;clear ag hb;go_wp2_with fail;refine Ck HC.out fun w2 hu2=>?_;go_wp2;go_roundg (gk-1);exact⟨k+1,by omega,by go_num,HS,uA.trans hu2⟩;omega
  ·obtain rfl:k=ns.length:=by omega
   have HS:=Qh (show ns.all (ZcE txs)=true by rw[<-hs.out,Fq];rfl);go_wp2;go_ret;exact⟨by rw[HS.out];rfl,U1.out.trans hu⟩
def ZeT(id:Int)(all:Gu)(k:Nat)(o:HOp):Int:=if opB o=false then 1 else if o.read&&o.tx==id&&decide ((wrN all o.key k:Int)<o.nth) then 6 else 0
def Zcq(id:Int)(all:Gu):Gu->Nat->Int
 |[],_=>0
 |o::l,k=>if ZeT id all k o=0 then Zcq id all l (k+1) else ZeT id all k o
theorem ZkO(id:Int)(all:Gu)(o:HOp)(l:Gu)(k:Nat):Zcq id all (o::l) k=if ZeT id all k o=0 then Zcq id all l (k+1) else ZeT id all k o:=rfl
theorem Znw(id:Int)(l:Gu):∀(m:Nat) (k:Nat),k+m=l.length->ZJ id l k=0->Zcq id l (l.drop k) k=ZJ id l l.length
 |0,k,hk,h0=>by
  obtain rfl:k=l.length:=by omega
  rw[Fq,h0];rfl
 |m+1,k,hk,h0=>by
  have hlt:k<l.length:=by omega
  rw[Ev hlt,ZkO]
  have hb:ZaV id l k=ZeT id l k l[k]:=by
   unfold ZaV ZeT;rw[Qg hlt]
   have:(!decide (l[k].nth<=(wrN l l[k].key k:Int)))=decide ((wrN l l[k].key k:Int)<l[k].nth):=by
    rw[<-decide_not];congr 1;simp only[eq_iff_iff];omega
   simp only[this]
  have jd:ZJ id l (k+1)=ZeT id l k l[k]:=by
   show(if ZJ id l k=0 then ZaV id l k else ZJ id l k)=_
   rw[if_pos h0,hb]
  by_cases hz:ZeT id l k l[k]=0
  ·rw[if_pos hz];exact Znw id l m (k+1) (by omega) (by rw[jd,hz])
  ·rw[if_neg hz,<-jd]
   have ag:∀n,ZJ id l (k+1+n)=ZJ id l (k+1):=by
    intro n
    induction n with
    |zero=>rfl
    |succ n ih=>
     show(if ZJ id l (k+1+n)=0 then ZaV id l (k+1+n) else ZJ id l (k+1+n))=_
     rw[ih,if_neg (by rw[jd];exact hz)]
   have:=ag (l.length-(k+1));rw[show k+1+(l.length-(k+1))=l.length by omega]at this;exact this.symm
theorem ZmM(F:Gt)(w:Gy)(A:OA)(c c2:Nat)(l:Gu)(k:Nat)(key:Int)(h:HOps F w A l)(hk:k<=l.length)(hl:Zp l.length)(hc:l.length<=c2):
  CN 88 #[.slice (ZcT A c2 0 4) k c,Qi key] w (Qi ((wrN l key k:Nat):Int)):=by
 have h1:HOps F w (ZcT A c2 0 4) (l.take k):=by
  have h2:=Recs.take (Recs.cut (i:=0) h (c:=c2) (by simpa using hc)) (i:=k);unfold HOps;rw[List.drop_zero]at h2
  rwa [List.map_take]
 have hlen:(l.take k).length=k:=by rw[Fl];omega
 have:=ZcI F w (ZcT A c2 0 4) c (l.take k) key h1 (by unfold Zp at*;omega);rw[hlen]at this;have hw:Zd (l.take k) key=wrN l key k:=by unfold Zd wrN;rw[hlen,List.take_take,Nat.min_self]
 rwa [hw]at this
theorem Zq6(F:Gt)(w:Gy)(i0:Int)(dn:Bool)(A:OA)(c:Nat)(l:Gu)(h:HOps F w A l)(og:l.length<=c)(hl:Zp l.length):
  CN 82 #[.agg #[Qi i0,.bool dn,.slice A l.length c]] w (Qi (Z3 i0 l)):=by
 unfold Zp at hl;have u0:=(Gg No w).alloc (.cells #[Qi i0,.bool dn,.slice A l.length c] 53);have bT:=Qh (Gh w 53 [Qi i0,.bool dn,.slice A l.length c]);obtain⟨b,hb⟩:=Qe (idB i0)
 cases b
 ·have HV:=Qh (show Z3 i0 l=1 by unfold Z3;rw[if_pos hb]);have Hb:=Qh hb;clear hb;go_enter Tryz.func82,Tryz.ntmps82;go_wp2_with fail;refine(ZbZ Hb.out).mono ?_;rintro e w1 ⟨rfl,rfl⟩;go_wp2;go_ret;exact⟨by rw[HV.out];rfl,u0⟩
 ·have hv:=(show Z3 i0 l=if 4095<l.length then 9 else ZJ i0 l l.length by unfold Z3;rw[if_neg (by rw[hb];decide)]);have Hb:=Qh hb;clear hb
  by_cases hlong:4095<l.length
  ·rw[if_pos hlong]at hv;have HV:=Qh hv;clear hv;go_enter Tryz.func82,Tryz.ntmps82;go_wp2_with fail;refine(ZbZ Hb.out).mono ?_;rintro e w1 ⟨rfl,rfl⟩;go_wp2;go_ret;exact⟨by rw[HV.out];rfl,u0⟩
  ·rw[if_neg hlong,<-Znw i0 l l.length 0 (by omega) rfl]at hv;have HV:=Qh hv;clear hv;go_enter Tryz.func82,Tryz.ntmps82;go_wp2_with fail;refine(ZbZ Hb.out).mono ?_;rintro e w1 ⟨rfl,rfl⟩;go_wp2
   go_loopg [16] l.length (fun gk i wr=>∃(k:Nat),k+gk=l.length∧i= Qi k∧Hid (Zcq i0 l (l.drop k) k=Zcq i0 l (l.drop 0) 0)∧Upd No (w.alloc (.cells #[Qi i0,.bool dn,.slice A l.length c] 53)) wr)
   case atStart=>exact⟨0,by omega,rfl,Qh rfl,Gg _ _⟩
   case round=>
    obtain⟨k,aK,rfl,hs,hu⟩:=hrel
    by_cases hlt:k<l.length
    ·obtain⟨ad,aA,q0,q1,q2,q3⟩:=(h.upd (u0.trans hu) Qo).at_ hlt;obtain⟨x,hx⟩:=Qe (l[k]);rw[hx]at q0 q1 q2 q3;obtain⟨rd,ky,tx,nt⟩:=x;simp only at q0 q1 q2 q3;subst aA;have X:=Qh (show l.drop k=⟨rd,ky,tx,nt⟩::l.drop (k+1) by rw[<-hx];exact Ev hlt);have b1:(0:Int)<=(k:Int):=Qn _;have b2:(k:Int)<(l.length:Int):=by omega
     clear hx;have ag:=hs.out;rw[X.out,ZkO]at ag;have bO:=Gh wr 50 [.bool rd,Qi ky,Qi tx,Qi nt];have HU:=Qh (hu.alloc (.cells #[.bool rd,Qi ky,Qi tx,Qi nt] 50));have hr:=Zt3 (wr.alloc (.cells #[.bool rd,Qi ky,Qi tx,Qi nt] 50)) ⟨rd,ky,tx,nt⟩;obtain⟨bo,bK⟩:=Qe (opB ⟨rd,ky,tx,nt⟩);rw[bK]at hr;have HR:=Qh hr
     cases bo
     ·have du:=Qh (show Zcq i0 l (l.drop 0) 0=1 by rw[<-ag];unfold ZeT;rw[if_pos bK];rfl);clear ag bK hr bO;go_wp2_with (go_at_call 125;refine HR.out.mono ?_;rintro e w1 ⟨rfl,hu1⟩);go_ret;exact⟨by rw[HV.out];rw[show Zcq i0 l (List.drop 0 l) 0=1 from du.out];rfl,u0.trans (HU.out.trans hu1)⟩
     ·have gC:ZeT i0 l k ⟨rd,ky,tx,nt⟩=if rd&&tx==i0&&decide ((wrN l ky k:Int)<nt) then 6 else 0:=by unfold ZeT;rw[if_neg (by rw[bK];decide)]
      rw[gC]at ag;have aD:=Qh ag;have BO:=Qh bO;clear ag bK hr bO gC;have e0:∀W,Upd No (wr.alloc (.cells #[.bool rd,Qi ky,Qi tx,Qi nt] 50)) W->W.cell? ⟨wr.heap.size,0,none⟩=some (.bool rd):=fun W hW=>(BO.out.upd hW id).cell 0
      have e1:∀W,Upd No (wr.alloc (.cells #[.bool rd,Qi ky,Qi tx,Qi nt] 50)) W->W.cell? ⟨wr.heap.size,1,none⟩=some (Qi ky):=fun W hW=>(BO.out.upd hW id).cell 1
      have e2:∀W,Upd No (wr.alloc (.cells #[.bool rd,Qi ky,Qi tx,Qi nt] 50)) W->W.cell? ⟨wr.heap.size,2,none⟩=some (Qi tx):=fun W hW=>(BO.out.upd hW id).cell 2
      have e3:∀W,Upd No (wr.alloc (.cells #[.bool rd,Qi ky,Qi tx,Qi nt] 50)) W->W.cell? ⟨wr.heap.size,3,none⟩=some (Qi nt):=fun W hW=>(BO.out.upd hW id).cell 3
      have t0:∀W,Upd No (wr.alloc (.cells #[.bool rd,Qi ky,Qi tx,Qi nt] 50)) W->W.cell? ⟨w.heap.size,0,none⟩=some (Qi i0):=fun W hW=>(bT.out.upd (HU.out.trans hW) id).cell 0
      have t2:∀W,Upd No (wr.alloc (.cells #[.bool rd,Qi ky,Qi tx,Qi nt] 50)) W->W.cell? ⟨w.heap.size,2,none⟩=some (.slice (some ad) l.length c):=fun W hW=>(bT.out.upd (HU.out.trans hW) id).cell 2
      have yx:=Qh fun W (hW:Upd No (wr.alloc (.cells #[.bool rd,Qi ky,Qi tx,Qi nt] 50)) W)=>ZmM F W (some ad) c c l k ky (HOps.upd h (u0.trans (HU.out.trans hW)) Qo) (by omega) (by unfold Zp;omega) (by omega)
      have kO:=fun W=>Zd6 W (Znb) (some ad) l.length c k (by omega)
      cases rd
      ·have HS:=Qh (show Zcq i0 l (l.drop (k+1)) (k+1)=Zcq i0 l (l.drop 0) 0 by rw[<-aD.out];rfl);go_wp2_with (go_at_call 125;refine HR.out.mono ?_;rintro e w1 ⟨rfl,hu1⟩);refine wpS (fun w'=>Upd No (wr.alloc (.cells #[.bool false,Qi ky,Qi tx,Qi nt] 50)) w') ?_ fun jH=>?_
       ·(first|exact hu1.drew|exact jH.trans hu3)
       (iterate 18 refine wpF ?_);refine wpZ 18 rfl fun K hK=>?_;go_simp;refine hK.out _ _ ?_ fun jH=>?_
       ·exact jH
       try simp only[Qa]
       (iterate 2 refine wpF ?_);refine wpD (Gd ?_);have bC:=Qh (HU.out.trans jH);clear jH e0 e1 e2 e3 t0 t2 kO;go_wp2;go_roundg (gk-1);exact⟨k+1,by omega,by go_num,HS,bC.out⟩;omega
      ·by_cases hti:tx=i0
       ·have eS:(tx==i0)=true:=by simpa using hti
        by_cases hn:(wrN l ky k:Int)<nt
        ·have HS:=Qh (show Zcq i0 l (l.drop 0) 0=6 by rw[<-aD.out,eS,Qt hn];rfl);clear hti;go_wp2_with (go_at_call 125;refine HR.out.mono ?_;rintro e w1 ⟨rfl,hu1⟩);refine wpS (fun w'=>Upd No (wr.alloc (.cells #[.bool true,Qi ky,Qi tx,Qi nt] 50)) w') ?_ fun jH=>?_
         ·(first|exact hu1.drew|exact jH.trans hu3)
         (iterate 18 refine wpF ?_);refine wpZ 18 rfl fun K hK=>?_;go_simp
         (first
  |(go_at_call 88;refine Ck (yx.out _ jH) fun w3 hu3=>?_))
         try (go_wp2_with fail)
         refine hK.out _ _ ?_ fun jH=>?_
         ·(first|exact hu1.drew|exact jH.trans hu3)
         try simp only[Qa]
         (iterate 2 refine wpF ?_);refine wpD (Gd ?_);have bC:=Qh (HU.out.trans jH);clear jH e0 e1 e2 e3 t0 t2 kO;go_wp2;go_ret;exact⟨by rw[HV.out];rw[show Zcq i0 l (List.drop 0 l) 0=6 from HS.out];rfl,u0.trans bC.out⟩
        ·have HS:=Qh (show Zcq i0 l (l.drop (k+1)) (k+1)=Zcq i0 l (l.drop 0) 0 by rw[<-aD.out,eS,Qf hn];rfl);clear hti;go_wp2_with (go_at_call 125;refine HR.out.mono ?_;rintro e w1 ⟨rfl,hu1⟩);refine wpS (fun w'=>Upd No (wr.alloc (.cells #[.bool true,Qi ky,Qi tx,Qi nt] 50)) w') ?_ fun jH=>?_
         ·(first|exact hu1.drew|exact jH.trans hu3)
         (iterate 18 refine wpF ?_);refine wpZ 18 rfl fun K hK=>?_;go_simp
         (first
  |(go_at_call 88;refine Ck (yx.out _ jH) fun w3 hu3=>?_))
         try (go_wp2_with fail)
         refine hK.out _ _ ?_ fun jH=>?_
         ·(first|exact hu1.drew|exact jH.trans hu3)
         try simp only[Qa]
         (iterate 2 refine wpF ?_);refine wpD (Gd ?_);have bC:=Qh (HU.out.trans jH);clear jH e0 e1 e2 e3 t0 t2 kO;go_wp2;go_roundg (gk-1);exact⟨k+1,by omega,by go_num,HS,bC.out⟩;omega
       ·have eS:(tx==i0)=false:=by simpa using hti
        have HS:=Qh (show Zcq i0 l (l.drop (k+1)) (k+1)=Zcq i0 l (l.drop 0) 0 by rw[<-aD.out,eS];rfl);clear hti;go_wp2_with (go_at_call 125;refine HR.out.mono ?_;rintro e w1 ⟨rfl,hu1⟩);refine wpS (fun w'=>Upd No (wr.alloc (.cells #[.bool true,Qi ky,Qi tx,Qi nt] 50)) w') ?_ fun jH=>?_
        ·(first|exact hu1.drew|exact jH.trans hu3)
        (iterate 18 refine wpF ?_);refine wpZ 18 rfl fun K hK=>?_;go_simp;refine hK.out _ _ ?_ fun jH=>?_
        ·exact jH
        try simp only[Qa]
        (iterate 2 refine wpF ?_);refine wpD (Gd ?_);have bC:=Qh (HU.out.trans jH);clear jH e0 e1 e2 e3 t0 t2 kO;go_wp2;go_roundg (gk-1);exact⟨k+1,by omega,by go_num,HS,bC.out⟩;omega
    ·obtain rfl:k=l.length:=by omega
     have du:=Qh (show Zcq i0 l (l.drop 0) 0=0 by rw[<-hs.out,Fq];rfl);go_wp2;go_ret;exact⟨by rw[HV.out];rw[show Zcq i0 l (List.drop 0 l) 0=0 from du.out];rfl,u0.trans hu⟩
