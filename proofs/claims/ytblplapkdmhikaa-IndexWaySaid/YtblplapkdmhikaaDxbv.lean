/- An index: the law's asking for some answers (tenterlaw13.lives). -/
import Derived.Test.YtblplapkdmhikaaDxbu
namespace Go.Proofs.Ytblplapkdmhikaa
set_option linter.unusedVariables false
set_option linter.unusedSimpArgs false
section
open Go.RowKit
/-! an index that is none -/
set_option maxRecDepth 100000 in
theorem Zfy (w:World) (k:Int):Calls Try.prog 25 #[.pointer none,.int .i64 k] w fun e w'=>e= .returned (.tuple #[.agg #[.int .i64 0,.bool false,.slice none 0 0],.bool false])∧Upd No w w':=by
 obtain⟨z,hz⟩:∃z,w.heap.size=z:=⟨_,rfl⟩;obtain⟨w1,hw1⟩:∃w1,w.alloc (.cells #[.int .i64 0,.bool false,.slice none 0 0] 35)=w1:=⟨_,rfl⟩;have u1:Upd No w w1:=by rw[←hw1];exact(Upd.refl No w).alloc _
 have b1:Blk w1 z 35 [.int .i64 0,.bool false,.slice none 0 0]:=by rw[←hw1,←hz];exact Blk.new w _ _
 have g0:=b1.cell 0;have g1:=b1.cell 1;have g2:=b1.cell 2;have k0:=b1.free 0;have k1:=b1.free 1;have k2:=b1.free 2;simp only[Qz,Qs]at g0 g1 g2;have U1:=Qh u1;have B1:=Qh b1;have HZ:=Qh hz;clear u1 b1
 go_enter Try.func25,Try.ntmps25
 go_wp2;have hzz:=HZ.out;have b9:=((B1.out.set_ 0 (.int .i64 0)).set_ 1 (.bool false)).set_ 2 (.slice none 0 0);simp only[List.set_cons_zero,List.set_cons_succ]at b9;have r0:=b9.cell 0;have r1:=b9.cell 1;have r2:=b9.cell 2;simp only[Qz,Qs]at r0 r1 r2;refine bodyPost_ret (v:= .tuple #[.agg #[.int .i64 0,.bool false,.slice none 0 0],.bool false]) (by simp[results,Try.results25,go_sem,r0,r1,r2]) rfl ⟨rfl,?_⟩;exact((U1.out.setCell (p:=⟨z,0,none⟩) (.inr (by show w.heap.size≤z;omega)) _).setCell (p:=⟨z,1,none⟩) (.inr (by show w.heap.size≤z;omega)) _).setCell (p:=⟨z,2,none⟩) (.inr (by show w.heap.size≤z;omega)) _
set_option maxRecDepth 100000 in
theorem Zdz (w:World):Calls Try.prog 35 #[.pointer none] w fun e w'=>e= .returned (.int .i64 0)∧Upd No w w':=by
 have HU:=Qh (Upd.refl No w)
 go_enter Try.func35,Try.ntmps35
 go_wp2
 go_ret
 exact⟨rfl,HU.out⟩
set_option maxRecDepth 100000 in
theorem ZeY (w:World):Calls Try.prog 24 #[.pointer none] w fun e w'=>e= .returned (.slice none 0 0)∧Upd No w w':=by
 have HU:=Qh (Upd.refl No w)
 go_enter Try.func24,Try.ntmps24
 go_wp2
 go_ret
 exact⟨rfl,HU.out⟩
set_option maxRecDepth 100000 in
theorem Zej (w:World) (k:Int):Calls Try.prog 27 #[.pointer none,.int .i64 k] w fun e w'=>e= .returned (.int .i64 3)∧Upd No w w':=by
 have HC:=Qh (Zfy w k)
 go_enter Try.func27,Try.ntmps27
 go_wp2_with fail
 refine(HC.out).mono ?_;rintro e w1 ⟨rfl,hu1⟩;have HU:=Qh (hu1.alloc (.cells #[.int .i64 0,.bool false,.slice none 0 0] 35));clear hu1;go_wp2
 go_ret
 exact⟨rfl,HU.out⟩
set_option maxRecDepth 100000 in
theorem ZeW (w:World):Calls Try.prog 23 #[.pointer none,.agg #[.int .i64 1,.bool false,.slice none 0 0]] w fun e w'=>e= .returned (.int .i64 17)∧Upd No w w':=by
 obtain⟨z,hz⟩:∃z,w.heap.size=z:=⟨_,rfl⟩;obtain⟨wb,hwb⟩:∃wb,w.alloc (.cells #[.int .i64 1,.bool false,.slice none 0 0] 35)=wb:=⟨_,rfl⟩;have ub:Upd No w wb:=by rw[←hwb];exact(Upd.refl No w).alloc _
 have bb:Blk wb z 35 [.int .i64 1,.bool false,.slice none 0 0]:=by rw[←hwb,←hz];exact Blk.new w _ _
 have q0:=bb.cell 0;have q1:=bb.cell 1;have q2:=bb.cell 2;simp only[Qz,Qs]at q0 q1 q2;have HR:=Qh (Zdc (fun _=>False) wb 1 false none 0 [] (fun h=>absurd rfl h) (by unfold Zd;simp));rw[show Zn 1 []=0 by kernel_rfl]at HR;simp only[List.length_nil]at HR;have UB:=Qh ub;clear bb ub
 go_enter Try.func23,Try.ntmps23
 go_wp2_with fail
 refine(HR.out).mono ?_;rintro e w1 ⟨rfl,hu1⟩;go_wp2
 go_ret
 exact⟨rfl,UB.out.trans hu1⟩
def St13 (w:World) (g:Nat) (K:Nat→Prop) (q:List HTx) (W:World):Prop:=
 ∃col,IX W col g q∧Upd No w W∧(∀i,col i≠0→w.heap.size≤i)∧∀i,K i→i<W.heap.size∧col i=0
namespace St13
variable {w W W':World} {g:Nat} {K:Nat→Prop} {q:List HTx}
theorem no (h:St13 w g K q W) (u:Upd No W W'):St13 w g K q W':=by
 obtain⟨col,h1,h2,h3,h4⟩:=h;exact⟨col,h1.no u,h2.trans u,h3,fun i hi=>⟨by have:=(h4 i hi).1;have:=u.size;omega,(h4 i hi).2⟩⟩
theorem new (h:St13 w g K q W) (u:Upd No W W') (K':Nat→Prop) (hK:∀i,K' i→K i∨(W.heap.size≤i∧i<W'.heap.size)):St13 w g K' q W':=by
 obtain⟨col,h1,h2,h3,h4⟩:=h;refine⟨col,h1.no u,h2.trans u,h3,fun i hi=> ?_⟩;rcases hK i hi with e|e
 ·exact⟨by have:=(h4 i e).1;have:=u.size;omega,(h4 i e).2⟩
 ·exact⟨e.2,h1.z i e.1⟩
theorem upd (h:St13 w g K q W):Upd No w W:=by
 obtain⟨col,h1,h2,h3,h4⟩:=h;exact h2
theorem turn {col col':Nat→Nat} (h1:IX W col g q) (h2:Upd No w W) (h3:∀i,col i≠0→w.heap.size≤i) (h4:∀i,K i→i<W.heap.size∧col i=0) {q':List HTx} (k1:IX W' col' g q') (k2:TurnX W col W' col'):St13 w g K q' W'∧Upd (fun i=>¬K i) W W':=by
 refine⟨⟨col',k1,h2.then_ k2.2 (fun i e=> .inr (h3 i e)),fun i hi=> ?_,k2.keep h4⟩,k2.2.mono fun i _ e hk=>e (h4 i hk).2⟩;rcases Nat.lt_or_ge i W.heap.size with hlt|hge
 ·exact h3 i (by rw[←k2.1 i hlt];exact hi)
 ·have:=h2.size;omega
theorem put (h:St13 w g K q W) (F:Nat→Prop) (t:HTx) (ht:HOps F W t.A t.ops) (hF:∀i,F i→K i) (hq:q.length≤200) (hl:Zd t.ops.length) (r:Int) (q':List HTx) (e1:Zn t.id t.ops=r) (e2:(if r=0 then ZG q t else q)=q'):
  Calls Try.prog 23 #[.pointer (some ⟨g,0,none⟩),.agg #[.int .i64 t.id,.bool t.done,.slice t.A t.ops.length t.c]] W fun e w'=>e= .returned (.int .i64 r)∧St13 w g K q' w'∧Upd (fun i=>¬K i) W w':=by
 obtain⟨col,h1,h2,h3,h4⟩:=h;subst e1 e2;refine(Zgt F h1 hq t ht hl (fun i hi=>(h4 i (hF i hi)).2)).mono ?_;rintro e w' ⟨rfl,col',k1,k2⟩;exact⟨rfl,turn h1 h2 h3 h4 k1 k2⟩
theorem drop (h:St13 w g K q W) (i:Int) (hq:q.length≤200) (r:Int) (q':List HTx) (e1:(if (Zb q i).isSome then 0 else 3:Int)=r) (e2:Zc q i=q'):
  Calls Try.prog 27 #[.pointer (some ⟨g,0,none⟩),.int .i64 i] W fun e w'=>e= .returned (.int .i64 r)∧St13 w g K q' w'∧Upd (fun i=>¬K i) W w':=by
 obtain⟨col,h1,h2,h3,h4⟩:=h;subst e1 e2;refine(ZfI h1 hq i).mono ?_;rintro e w' ⟨rfl,col',k1,k2⟩;exact⟨rfl,turn h1 h2 h3 h4 k1 k2⟩
theorem tx (h:St13 w g K q W) (k:Int) (o:Option HTx) (e:Zb q k=o):Calls Try.prog 25 #[.pointer (some ⟨g,0,none⟩),.int .i64 k] W (Zba W o):=by
 obtain⟨col,h1,_⟩:=h;exact e▸xtx h1 k
theorem ids (h:St13 w g K q W) (hq:q.length≤200) (l:List Int) (e:q.map (·.id)=l):Calls Try.prog 24 #[.pointer (some ⟨g,0,none⟩)] W (Z4 W l):=by
 obtain⟨col,h1,_⟩:=h;exact e▸Zd9 h1 hq
theorem writers (h:St13 w g K q W) (hq:q.length≤200) (k:Int) (l:List Int) (e:Zz q k=l):Calls Try.prog 31 #[.pointer (some ⟨g,0,none⟩),.int .i64 k] W (Z4 W l):=by
 obtain⟨col,h1,_⟩:=h;exact e▸Zb3 h1 hq k
theorem readers (h:St13 w g K q W) (hq:q.length≤200) (v:Ver) (l:List Int) (e:Zt q v=l):Calls Try.prog 32 #[.pointer (some ⟨g,0,none⟩),.agg v.cells.toArray] W (Z4 W l):=by
 obtain⟨col,h1,_⟩:=h;exact e▸Zb4 h1 hq v
theorem users (h:St13 w g K q W) (hq:q.length≤200) (k:Int) (l:List Int) (e:Zbi q k=l):Calls Try.prog 29 #[.pointer (some ⟨g,0,none⟩),.int .i64 k] W (Z4 W l):=by
 obtain⟨col,h1,_⟩:=h;exact e▸Zc7 h1 hq k
theorem lacks (h:St13 w g K q W) (hq:q.length≤200) (l:List Ver) (e:Zap q=l):Calls Try.prog 34 #[.pointer (some ⟨g,0,none⟩)] W (Zbo W l):=by
 obtain⟨col,h1,_⟩:=h;exact e▸Zc8 h1 hq
theorem writes (h:St13 w g K q W) (i k n:Int) (e:(Zac q i k:Int)=n):Calls Try.prog 30 #[.pointer (some ⟨g,0,none⟩),.int .i64 i,.int .i64 k] W fun e w'=>e= .returned (.int .i64 n)∧Upd No W w':=by
 obtain⟨col,h1,_⟩:=h;exact(Zct h1 i k).mono fun _ _ h=>⟨e▸h.1,h.2▸Upd.refl _ _⟩
theorem weight (h:St13 w g K q W) (n:Int) (e:(Zk q:Int)=n):Calls Try.prog 35 #[.pointer (some ⟨g,0,none⟩)] W fun e w'=>e= .returned (.int .i64 n)∧Upd No W w':=by
 obtain⟨col,h1,_⟩:=h;exact(Zcu h1).mono fun _ _ h=>⟨e▸h.1,h.2▸Upd.refl _ _⟩
theorem lit1 {x:Int} {e:TypeId} (_h:St13 w g K q (W.alloc (.cells #[.int .i64 x] e))):Ints (fun i=>i=W.heap.size) (W.alloc (.cells #[.int .i64 x] e)) (some ⟨W.heap.size,0,none⟩) [x]:=Zbx [x] e
theorem lit2 {x y:Int} {e:TypeId} (_h:St13 w g K q (W.alloc (.cells #[.int .i64 x,.int .i64 y] e))):Ints (fun i=>i=W.heap.size) (W.alloc (.cells #[.int .i64 x,.int .i64 y] e)) (some ⟨W.heap.size,0,none⟩) [x,y]:=Zbx [x,y] e
end St13
theorem Zf4 {w':World} {base:Nat} {v:Ver} {A:Option Addr} {c:Nat} (h:w'.ownsRow base 28 3 (.slice A [v].length c) [v].length ([v].map Ver.cells).flatten):
  ∃b,A=some ⟨b,0,none⟩∧base≤b∧b<w'.heap.size∧VersR (fun i=>i=b) w' (some ⟨b,0,none⟩) [v]:=by
 have h2:=Recs.of_own (n:=[v].length) (c:=c) ZcF (by omega) h;rcases h.2 with ⟨h',hn⟩|⟨g,cap,cur,hv,hb,hg,_⟩
 ·cases hn
 ·cases hv
  exact⟨g,rfl,hb,(Array.getElem?_eq_some_iff.1 hg).1,Recs.weak h2 fun i _ hi=>by unfold Own at hi;simpa[Value.ownBlock,eq_comm]using hi⟩
theorem Zc3 {W:World} {b:Nat} {v:Ver} (h:VersR (fun i=>i=b) W (some ⟨b,0,none⟩) [v]):W.cell? ⟨b,0,none⟩=some (.int .i64 v.tx)∧W.cell? ⟨b,1,none⟩=some (.int .i64 v.key)∧W.cell? ⟨b,2,none⟩=some (.int .i64 v.nth):=by
 obtain⟨ad,e,_,_,hc⟩:=Recs.at_ h (k:=0) (by simp)
 cases e
 have a0:=hc 0 (.int .i64 v.tx) rfl;have a1:=hc 1 (.int .i64 v.key) rfl;have a2:=hc 2 (.int .i64 v.nth) rfl;simp[Addr.add]at a0 a1 a2;exact⟨a0,a1,a2⟩
def v13:Ver:=⟨1,5,1⟩
def Zbw:HOp:=⟨true,5,1,1⟩
def Zbv:HOp:=⟨false,5,0,0⟩
theorem ZeP {w:World} (o:HOp):HOps (fun i=>i=w.heap.size) (w.alloc (.cells o.cells.toArray 75)) (some ⟨w.heap.size,0,none⟩) [o]:=fun _=>by
 refine⟨_,rfl,rfl,by simp,fun i row hi j v hj=> ?_⟩;have b:=Blk.new w 75 o.cells;rcases i with _|i
 ·cases hi
  have h4:j<4:=(List.getElem?_eq_some_iff.1 hj).1;have e1:(⟨w.heap.size,0,none⟩:Addr).add (0*4+j)=⟨w.heap.size,j,none⟩:=by unfold Addr.add;split<;>simp_all
  rw[e1];exact(b.cell j).trans hj
 ·cases hi
set_option maxRecDepth 100000 in
theorem Zei (w:World):Calls Try.prog 23 #[.pointer none,.agg #[.int .i64 0,.bool false,.slice none 0 0]] w fun e w'=>e= .returned (.int .i64 1)∧Upd No w w':=by
 have h:=ZeX (fun _=>False) w none 0 false none 0 [] (fun h=>absurd rfl h) (by unfold Zd;simp) (by decide);rw[show Zn 0 []=1 by kernel_rfl]at h;exact h
def Su13 (w:World) (g z b x:Nat) (A8:Option Addr) (c8:Nat) (q:List HTx) (W:World):Prop:=
 St13 w g (fun i=>i=z∨i=b∨i=x) q W∧Blk W z 28 [.int .i64 1,.int .i64 5,.int .i64 1]∧VersR (fun i=>i=b) W (some ⟨b,0,none⟩) [v13]∧Blk W x 35 [.int .i64 1,.bool true,.slice A8 1 c8]
namespace Su13
variable {w W W':World} {g z b x:Nat} {A8:Option Addr} {c8:Nat} {q:List HTx}
theorem no (h:Su13 w g z b x A8 c8 q W) (u:Upd No W W'):Su13 w g z b x A8 c8 q W':=⟨h.1.no u,h.2.1.upd u id,Recs.upd h.2.2.1 u (fun _ _=>id),h.2.2.2.upd u id⟩
theorem al (h:Su13 w g z b x A8 c8 q W) (o:Obj):Su13 w g z b x A8 c8 q (W.alloc o):=h.no ((Upd.refl No W).alloc o)
theorem cel (h:Su13 w g z b x A8 c8 q W):W.cell? ⟨z,0,none⟩=some (.int .i64 1)∧W.cell? ⟨z,1,none⟩=some (.int .i64 5)∧W.cell? ⟨z,2,none⟩=some (.int .i64 1)∧W.cell? ⟨b,0,none⟩=some (.int .i64 1)∧W.cell? ⟨b,1,none⟩=some (.int .i64 5)∧W.cell? ⟨b,2,none⟩=some (.int .i64 1)∧W.cell? ⟨x,2,none⟩=some (.slice A8 1 c8):=by
 have a:=Zc3 h.2.2.1;exact⟨h.2.1.cell 0,h.2.1.cell 1,h.2.1.cell 2,a.1,a.2.1,a.2.2,h.2.2.2.cell 2⟩
theorem all (h:Su13 w g z b x A8 c8 q W):Su13 w g z b x A8 c8 q W∧W.cell? ⟨z,0,none⟩=some (.int .i64 1)∧W.cell? ⟨z,1,none⟩=some (.int .i64 5)∧W.cell? ⟨z,2,none⟩=some (.int .i64 1)∧W.cell? ⟨b,0,none⟩=some (.int .i64 1)∧W.cell? ⟨b,1,none⟩=some (.int .i64 5)∧W.cell? ⟨b,2,none⟩=some (.int .i64 1)∧W.cell? ⟨x,2,none⟩=some (.slice A8 1 c8):=⟨h,h.cel⟩
theorem drop (h:Su13 w g z b x A8 c8 q W) (i:Int) (hq:q.length≤200) (r:Int) (q':List HTx) (e1:(if (Zb q i).isSome then 0 else 3:Int)=r) (e2:Zc q i=q'):
  Calls Try.prog 27 #[.pointer (some ⟨g,0,none⟩),.int .i64 i] W fun e w'=>e= .returned (.int .i64 r)∧Su13 w g z b x A8 c8 q' w':=by
 obtain⟨h1,h2,h3,h4⟩:=h;refine(h1.drop i hq r q' e1 e2).mono ?_;rintro e w' ⟨rfl,k1,k2⟩;exact⟨rfl,k1,h2.upd k2 (fun e=>e (.inl rfl)),Recs.upd h3 k2 (fun i hi e=>e (.inr (.inl hi))),h4.upd k2 (fun e=>e (.inr (.inr rfl)))⟩
theorem lit1 {x1:Int} {e:TypeId} (_h:Su13 w g z b x A8 c8 q (W.alloc (.cells #[.int .i64 x1] e))):Ints (fun i=>i=W.heap.size) (W.alloc (.cells #[.int .i64 x1] e)) (some ⟨W.heap.size,0,none⟩) [x1]:=Zbx [x1] e
theorem lit2 {x1 y1:Int} {e:TypeId} (_h:Su13 w g z b x A8 c8 q (W.alloc (.cells #[.int .i64 x1,.int .i64 y1] e))):Ints (fun i=>i=W.heap.size) (W.alloc (.cells #[.int .i64 x1,.int .i64 y1] e)) (some ⟨W.heap.size,0,none⟩) [x1,y1]:=Zbx [x1,y1] e
theorem keepI {F:Nat→Prop} {A:Option Addr} {xs:List Int} {o:Obj} (_h:Su13 w g z b x A8 c8 q (W.alloc o)) (k:Ints F W A xs):Ints F (W.alloc o) A xs:=k.upd ((Upd.refl No W).alloc o) (fun _ _=>id)
end Su13
def q13 (y z:Nat):List HTx:=[⟨1,true,[Zbv],some ⟨y,0,none⟩,1⟩,⟨2,false,[Zbw],some ⟨z+1,0,none⟩,1⟩]
def Zbq (y:Nat):List HTx:=[⟨1,true,[Zbv],some ⟨y,0,none⟩,1⟩]
set_option maxRecDepth 100000 in
set_option maxHeartbeats 40000000 in
theorem Zga (w:World):Calls Try.prog 21 #[] w fun e w'=>e= .returned (.bool true)∧Upd No w w':=by
 have HN:=Qh (Zgu w)
 go_enter Try.func21,Try.ntmps21
 go_wp2_with fail
 refine(HN.out).mono ?_;rintro e w1 ⟨g,col,rfl,hx1,hu1,hc1⟩;obtain⟨z,hz⟩:∃z,w1.heap.size=z:=⟨_,rfl⟩;obtain⟨wa,hwa⟩:∃wa,w1.alloc (.cells #[.int .i64 1,.int .i64 5,.int .i64 1] 28)=wa:=⟨_,rfl⟩;have sa:wa.heap.size=z+1:=by rw[←hwa,←hz];simp
 have ua:Upd No w1 wa:=by rw[←hwa];exact(Upd.refl No w1).alloc _
 have ba:Blk wa z 28 [.int .i64 1,.int .i64 5,.int .i64 1]:=by rw[←hwa,←hz];exact Blk.new w1 _ _
 obtain⟨wb,hwb⟩:∃wb,wa.alloc (.cells #[.bool true,.int .i64 5,.int .i64 1,.int .i64 1] 75)=wb:=⟨_,rfl⟩;have ub:Upd No wa wb:=by rw[←hwb];exact(Upd.refl No wa).alloc _
 have sb:wb.heap.size=z+2:=by rw[←hwb];simp[sa]
 have ob:HOps (fun i=>i=z+1) wb (some ⟨z+1,0,none⟩) [Zbw]:=by rw[←hwb,←sa];exact ZeP Zbw
 have hsb:St13 w g (fun i=>i=z∨i=z+1) [] wb:=St13.new (W:=w1) (K:=fun _=>False) ⟨col,hx1,hu1,hc1,fun _ h=>h.elim⟩ (ua.trans ub) _ (fun i hi=> .inr (by omega));have bb:=ba.upd ub id;have CP:=Qh (hsb.put _ ⟨2,false,[Zbw],some ⟨z+1,0,none⟩,1⟩ ob (fun i hi=> .inr hi) (by simp) (by unfold Zd;simp) 0 [⟨2,false,[Zbw],some ⟨z+1,0,none⟩,1⟩] (by kernel_rfl) (by kernel_rfl));have BB:=Qh bb;clear ua ub ba ob hsb bb sb hx1 hu1 hc1 HN
 go_wp2_with fail
 refine(CP.out).mono ?_;rintro e w2 ⟨rfl,hs2,hu2⟩;have BB:=Qh (BB.out.upd hu2 (fun e=>e (.inl rfl)));have CL:=Qh (hs2.lacks (by simp) [v13] (by kernel_rfl));have HS2:=Qh hs2;clear hs2 hu2 CP;clear hz hwa hwb sa
 go_wp2_with fail
 refine(CL.out).mono ?_;rintro e w4 ⟨A4,c4,rfl,ho4,hu4⟩;obtain⟨b4,rfl,hb4,hl4,hv4⟩:=Zf4 ho4;have BB:=Qh (BB.out.upd hu4 id);obtain⟨y,hy⟩:∃y,w4.heap.size=y:=⟨_,rfl⟩;obtain⟨wc,hwc⟩:∃wc,w4.alloc (.cells #[.bool false,.int .i64 5,.int .i64 0,.int .i64 0] 75)=wc:=⟨_,rfl⟩;have uc:Upd No w4 wc:=by rw[←hwc];exact(Upd.refl No w4).alloc _
 have sc:wc.heap.size=y+1:=by rw[←hwc];simp[hy]
 have oc:HOps (fun i=>i=y) wc (some ⟨y,0,none⟩) [Zbv]:=by rw[←hwc,←hy];exact ZeP Zbv
 have hsc:St13 w g (fun i=>i=z∨i=b4∨i=y) [⟨2,false,[Zbw],some ⟨z+1,0,none⟩,1⟩] wc:=by
  have h1:=hu4.size;have h2:=uc.size;refine HS2.out.new (hu4.trans uc) _ (fun i hi=> ?_);rcases hi with e|e|e
  ·exact .inl (.inl e)
  ·exact .inr (by omega)
  ·exact .inr (by omega)
 have CP:=Qh (hsc.put _ ⟨1,true,[Zbv],some ⟨y,0,none⟩,1⟩ oc (fun i hi=> .inr (.inr hi)) (by simp) (by unfold Zd;simp) 0 [⟨1,true,[Zbv],some ⟨y,0,none⟩,1⟩,⟨2,false,[Zbw],some ⟨z+1,0,none⟩,1⟩] (by kernel_rfl) (by kernel_rfl));have BB:=Qh (BB.out.upd uc id);have HV:=Qh (hv4.upd uc (fun _ _=>id));clear hsc oc sc uc hv4 hb4 hl4 ho4 hu4 CL HS2
 go_wp2_with fail
 refine(CP.out).mono ?_;rintro e w5 ⟨rfl,hs5,hu5⟩;have BB:=Qh (BB.out.upd hu5 (fun e=>e (.inl rfl)));have HV:=Qh (Recs.upd HV.out hu5 (fun i hi e=>e (.inr (.inl hi))));clear hy hwc CP hu5;have CP:=Qh (hs5.put (fun _=>False) ⟨0,false,[],none,0⟩ (fun h=>absurd rfl h) (fun i hi=>hi.elim) (by simp) (by unfold Zd;simp) 1 _ (by kernel_rfl) rfl);simp only[List.length_nil,show¬((1:Int)=0) by decide,if_false]at CP;clear hs5
 go_wp2_with fail
 refine(CP.out).mono ?_;rintro e w6 ⟨rfl,hs6,hu6⟩;have BB:=Qh (BB.out.upd hu6 (fun e=>e (.inl rfl)));have HV:=Qh (Recs.upd HV.out hu6 (fun i hi e=>e (.inr (.inl hi))));have CP:=Qh (hs6.drop 7 (by simp) 3 [⟨1,true,[Zbv],some ⟨y,0,none⟩,1⟩,⟨2,false,[Zbw],some ⟨z+1,0,none⟩,1⟩] (by kernel_rfl) (by kernel_rfl));clear hs6 hu6
 go_wp2_with fail
 refine(CP.out).mono ?_;rintro e w7 ⟨rfl,hs7,hu7⟩;have BB:=Qh (BB.out.upd hu7 (fun e=>e (.inl rfl)));have HV:=Qh (Recs.upd HV.out hu7 (fun i hi e=>e (.inr (.inl hi))));clear hu7 CP;have CT:=Qh (hs7.tx 1 (some ⟨1,true,[Zbv],some ⟨y,0,none⟩,1⟩) (by kernel_rfl));unfold Zba at CT;simp only[oId,oDn,Zat,Option.isSome_some,List.length_cons,List.length_nil,Nat.zero_add]at CT;have HS7:=Qh hs7;clear hs7
 go_wp2_with fail
 refine(CT.out).mono ?_;rintro e w8 ⟨A8,c8,rfl,hc8,ho8,hu8⟩;obtain⟨x,hx⟩:∃x,w8.heap.size=x:=⟨_,rfl⟩;obtain⟨wd,hwd⟩:∃wd,w8.alloc (.cells #[.int .i64 1,.bool true,.slice A8 1 c8] 35)=wd:=⟨_,rfl⟩;have ud:Upd No w8 wd:=by rw[←hwd];exact(Upd.refl No w8).alloc _
 have bd:Blk wd x 35 [.int .i64 1,.bool true,.slice A8 1 c8]:=by rw[←hwd,←hx];exact Blk.new w8 _ _
 have hsd:St13 w g (fun i=>i=z∨i=b4∨i=x) [⟨1,true,[Zbv],some ⟨y,0,none⟩,1⟩,⟨2,false,[Zbw],some ⟨z+1,0,none⟩,1⟩] wd:=by
  have h1:=hu8.size;have h2:=bd.lt;refine HS7.out.new (hu8.trans ud) _ (fun i hi=> ?_);rcases hi with e|e|e
  ·exact .inl (.inl e)
  ·exact .inl (.inr (.inl e))
  ·exact .inr (by omega)
 have BB:=Qh (BB.out.upd (hu8.trans ud) id);have HV:=Qh (Recs.upd HV.out (hu8.trans ud) (fun _ _=>id));have BD:=Qh bd;have CT:=Qh (hsd.tx 9 none (by kernel_rfl));unfold Zba at CT;simp only[oId,oDn,Zat,Option.isSome_none,List.length_nil]at CT;have HSD:=Qh hsd;clear hsd bd ud hc8 ho8 hu8 HS7
 go_wp2_with fail
 refine(CT.out).mono ?_;rintro e w9 ⟨A9,c9,rfl,hc9,ho9,hu9⟩;have BB:=Qh (BB.out.upd hu9 id);have HV:=Qh (Recs.upd HV.out hu9 (fun _ _=>id));have BD:=Qh (BD.out.upd hu9 id);have HSD:=Qh (HSD.out.no hu9);obtain⟨v,hv⟩:∃v,w9.heap.size=v:=⟨_,rfl⟩;obtain⟨we,hwe⟩:∃we,w9.alloc (.cells #[.int .i64 0,.bool false,.slice A9 0 c9] 35)=we:=⟨_,rfl⟩;have ue:Upd No w9 we:=by rw[←hwe];exact(Upd.refl No w9).alloc _
 have hsu:Su13 w g z b4 x A8 c8 (q13 y z) w9:=⟨HSD.out,BB.out,HV.out,BD.out⟩;have HSU:=Qh (hsu.no ue);clear hc9 ho9 hu9 CT hx hwd CP BB HV BD HSD hsu ue;go_wp2;clear hv hwe;have hHeld:=(HSU.out.no ((Upd.refl No we).drew)).all;clear HSU;refine wp_region_noPanic ?_;refine Zck (by kernel_rfl) ?_
 generalize we.drew=w5 at hHeld ⊢
 refine Zx 3 (by kernel_rfl) (by kernel_rfl) 122 rfl (fun _ _ _ _ _ h=>h) (fun QQ hq hdone=> ?_);simp only[List.append,Za,Zl,Ze,Zf,Zi];refine wpAny_of_held (S:=(fun W=>Su13 w g z b4 x A8 c8 (q13 y z) W∧W.cell? ⟨z,0,none⟩=some (.int .i64 1)∧W.cell? ⟨z,1,none⟩=some (.int .i64 5)∧W.cell? ⟨z,2,none⟩=some (.int .i64 1)∧W.cell? ⟨b4,0,none⟩=some (.int .i64 1)∧W.cell? ⟨b4,1,none⟩=some (.int .i64 5)∧W.cell? ⟨b4,2,none⟩=some (.int .i64 1)∧W.cell? ⟨x,2,none⟩=some (.slice A8 1 c8))) _ _ _ _ ?_;refine wpL hq 0 rfl ?_;refine wpL hq 1 rfl ?_;refine wpL hq 2 rfl ?_;refine wpD (hdone.out _ _ ?_);clear hdone hq QQ;refine Zx 5 (by kernel_rfl) (by kernel_rfl) 117 rfl (fun _ _ _ _ _ h=>h) (fun QQ hq hdone=> ?_);simp only[List.append,Za,Zl,Ze,Zf,Zi];refine wpAny_of_held (S:=(fun W=>Su13 w g z b4 x A8 c8 (q13 y z) W∧W.cell? ⟨z,0,none⟩=some (.int .i64 1)∧W.cell? ⟨z,1,none⟩=some (.int .i64 5)∧W.cell? ⟨z,2,none⟩=some (.int .i64 1)∧W.cell? ⟨b4,0,none⟩=some (.int .i64 1)∧W.cell? ⟨b4,1,none⟩=some (.int .i64 5)∧W.cell? ⟨b4,2,none⟩=some (.int .i64 1)∧W.cell? ⟨x,2,none⟩=some (.slice A8 1 c8))) _ _ _ _ ?_;refine wpL hq 0 rfl ?_;refine wpL hq 1 rfl ?_;refine wpL hq 2 rfl ?_;refine wpL hq 3 rfl ?_;refine wpL hq 4 rfl ?_;refine wpD (hdone.out _ _ ?_);clear hdone hq QQ;refine Zx 7 (by kernel_rfl) (by kernel_rfl) 110 rfl (fun _ _ _ _ _ h=>h) (fun QQ hq hdone=> ?_);simp only[List.append,Za,Zl,Ze,Zf,Zi];refine wpAny_of_held (S:=(fun W=>Su13 w g z b4 x A8 c8 (q13 y z) W∧W.cell? ⟨z,0,none⟩=some (.int .i64 1)∧W.cell? ⟨z,1,none⟩=some (.int .i64 5)∧W.cell? ⟨z,2,none⟩=some (.int .i64 1)∧W.cell? ⟨b4,0,none⟩=some (.int .i64 1)∧W.cell? ⟨b4,1,none⟩=some (.int .i64 5)∧W.cell? ⟨b4,2,none⟩=some (.int .i64 1)∧W.cell? ⟨x,2,none⟩=some (.slice A8 1 c8))) _ _ _ _ ?_
 refine wpL hq 0 rfl ?_;refine wpL hq 1 rfl ?_;refine wpL hq 2 rfl ?_;refine wpL hq 3 rfl ?_;refine wpL hq 4 rfl ?_;refine wpL hq 5 rfl ?_;refine wpL hq 6 rfl ?_;refine wpD (hdone.out _ _ ?_);clear hdone hq QQ;refine Zx 4 (by kernel_rfl) (by kernel_rfl) 106 rfl (fun _ _ _ _ _ h=>h) (fun QQ hq hdone=> ?_);simp only[List.append,Za,Zl,Ze,Zf,Zi];refine wpAny_of_held (S:=(fun W=>Su13 w g z b4 x A8 c8 (q13 y z) W∧W.cell? ⟨z,0,none⟩=some (.int .i64 1)∧W.cell? ⟨z,1,none⟩=some (.int .i64 5)∧W.cell? ⟨z,2,none⟩=some (.int .i64 1)∧W.cell? ⟨b4,0,none⟩=some (.int .i64 1)∧W.cell? ⟨b4,1,none⟩=some (.int .i64 5)∧W.cell? ⟨b4,2,none⟩=some (.int .i64 1)∧W.cell? ⟨x,2,none⟩=some (.slice A8 1 c8))) _ _ _ _ ?_;refine wpL hq 0 rfl ?_;refine wpL hq 1 rfl ?_;refine wpL hq 2 rfl ?_;refine wpL hq 3 rfl ?_;refine wpD (hdone.out _ _ ?_);clear hdone hq QQ;refine Zx 4 (by kernel_rfl) (by kernel_rfl) 102 rfl (fun _ _ _ _ _ h=>h) (fun QQ hq hdone=> ?_);simp only[List.append,Za,Zl,Ze,Zf,Zi];refine wpAny_of_held (S:=(fun W=>Su13 w g z b4 x A8 c8 (q13 y z) W∧W.cell? ⟨z,0,none⟩=some (.int .i64 1)∧W.cell? ⟨z,1,none⟩=some (.int .i64 5)∧W.cell? ⟨z,2,none⟩=some (.int .i64 1)∧W.cell? ⟨b4,0,none⟩=some (.int .i64 1)∧W.cell? ⟨b4,1,none⟩=some (.int .i64 5)∧W.cell? ⟨b4,2,none⟩=some (.int .i64 1)∧W.cell? ⟨x,2,none⟩=some (.slice A8 1 c8))) _ _ _ _ ?_;refine wpL hq 0 rfl ?_;refine wpL hq 1 rfl ?_;refine wpL hq 2 rfl ?_;refine wpL hq 3 rfl ?_;refine wpD (hdone.out _ _ ?_);clear hdone hq QQ;refine Zx 4 (by kernel_rfl) (by kernel_rfl) 98 rfl (fun _ _ _ _ _ h=>h) (fun QQ hq hdone=> ?_)
 simp only[List.append,Za,Zl,Ze,Zf,Zi];refine wpAny_of_held (S:=(fun W=>Su13 w g z b4 x A8 c8 (q13 y z) W∧W.cell? ⟨z,0,none⟩=some (.int .i64 1)∧W.cell? ⟨z,1,none⟩=some (.int .i64 5)∧W.cell? ⟨z,2,none⟩=some (.int .i64 1)∧W.cell? ⟨b4,0,none⟩=some (.int .i64 1)∧W.cell? ⟨b4,1,none⟩=some (.int .i64 5)∧W.cell? ⟨b4,2,none⟩=some (.int .i64 1)∧W.cell? ⟨x,2,none⟩=some (.slice A8 1 c8))) _ _ _ _ ?_;refine wpL hq 0 rfl ?_;refine wpL hq 1 rfl ?_;refine wpL hq 2 rfl ?_;refine wpL hq 3 rfl ?_;refine wpD (hdone.out _ _ ?_);clear hdone hq QQ;refine Zx 3 (by kernel_rfl) (by kernel_rfl) 95 rfl (fun _ _ _ _ _ h=>h) (fun QQ hq hdone=> ?_);simp only[List.append,Za,Zl,Ze,Zf,Zi];refine wpAny_of_held (S:=(fun W=>Su13 w g z b4 x A8 c8 (q13 y z) W∧W.cell? ⟨z,0,none⟩=some (.int .i64 1)∧W.cell? ⟨z,1,none⟩=some (.int .i64 5)∧W.cell? ⟨z,2,none⟩=some (.int .i64 1)∧W.cell? ⟨b4,0,none⟩=some (.int .i64 1)∧W.cell? ⟨b4,1,none⟩=some (.int .i64 5)∧W.cell? ⟨b4,2,none⟩=some (.int .i64 1)∧W.cell? ⟨x,2,none⟩=some (.slice A8 1 c8))) _ _ _ _ ?_;refine wpL hq 0 rfl ?_;refine wpL hq 1 rfl ?_;refine wpL hq 2 rfl ?_;refine wpD (hdone.out _ _ ?_);clear hdone hq QQ;refine Zx 6 (by kernel_rfl) (by kernel_rfl) 89 rfl (fun _ _ _ _ _ h=>h) (fun QQ hq hdone=> ?_);simp only[List.append,Za,Zl,Ze,Zf,Zi];refine wpAny_of_held (S:=(fun W=>Su13 w g z b4 x A8 c8 (q13 y z) W∧W.cell? ⟨z,0,none⟩=some (.int .i64 1)∧W.cell? ⟨z,1,none⟩=some (.int .i64 5)∧W.cell? ⟨z,2,none⟩=some (.int .i64 1)∧W.cell? ⟨b4,0,none⟩=some (.int .i64 1)∧W.cell? ⟨b4,1,none⟩=some (.int .i64 5)∧W.cell? ⟨b4,2,none⟩=some (.int .i64 1)∧W.cell? ⟨x,2,none⟩=some (.slice A8 1 c8))) _ _ _ _ ?_
 refine wpL hq 0 rfl ?_;refine wpL hq 1 rfl ?_;refine wpL hq 2 rfl ?_;refine wpL hq 3 rfl ?_;refine wpL hq 4 rfl ?_;refine wpL hq 5 rfl ?_;refine wpD (hdone.out _ _ ?_);clear hdone hq QQ;refine Zx 4 (by kernel_rfl) (by kernel_rfl) 85 rfl (fun _ _ _ _ _ h=>h) (fun QQ hq hdone=> ?_);simp only[List.append,Za,Zl,Ze,Zf,Zi];refine wpAny_of_held (S:=(fun W=>Su13 w g z b4 x A8 c8 (q13 y z) W∧W.cell? ⟨z,0,none⟩=some (.int .i64 1)∧W.cell? ⟨z,1,none⟩=some (.int .i64 5)∧W.cell? ⟨z,2,none⟩=some (.int .i64 1)∧W.cell? ⟨b4,0,none⟩=some (.int .i64 1)∧W.cell? ⟨b4,1,none⟩=some (.int .i64 5)∧W.cell? ⟨b4,2,none⟩=some (.int .i64 1)∧W.cell? ⟨x,2,none⟩=some (.slice A8 1 c8))) _ _ _ _ ?_;refine wpL hq 0 rfl ?_;refine wpL hq 1 rfl ?_;refine wpL hq 2 rfl ?_;refine wpL hq 3 rfl ?_;refine wpD (hdone.out _ _ ?_);clear hdone hq QQ;refine Zx 6 (by kernel_rfl) (by kernel_rfl) 79 rfl (fun _ _ _ _ _ h=>h) (fun QQ hq hdone=> ?_);simp only[List.append,Za,Zl,Ze,Zf,Zi];refine wpAny_of_held (S:=(fun W=>Su13 w g z b4 x A8 c8 (q13 y z) W∧W.cell? ⟨z,0,none⟩=some (.int .i64 1)∧W.cell? ⟨z,1,none⟩=some (.int .i64 5)∧W.cell? ⟨z,2,none⟩=some (.int .i64 1)∧W.cell? ⟨b4,0,none⟩=some (.int .i64 1)∧W.cell? ⟨b4,1,none⟩=some (.int .i64 5)∧W.cell? ⟨b4,2,none⟩=some (.int .i64 1)∧W.cell? ⟨x,2,none⟩=some (.slice A8 1 c8))) _ _ _ _ ?_;refine Za5 [84,85,86,87] [88,89] (.bool true) ?_ (fun hrest=> ?_)
 ·intro vs W hHeld;refine hdone.out _ _ ?_;clear hdone hq QQ;simp only[Zbr,Zbs]
  try simp only[Act.put,sT,sS,sZ]
  refine Zx 7 (by kernel_rfl) (by kernel_rfl) 72 rfl (fun _ _ _ _ _ h=>h) (fun QQ hq hdone=> ?_);simp only[List.append,Za,Zl,Ze,Zf,Zi];refine wpAny_of_held (S:=(fun W=>Su13 w g z b4 x A8 c8 (q13 y z) W∧W.cell? ⟨z,0,none⟩=some (.int .i64 1)∧W.cell? ⟨z,1,none⟩=some (.int .i64 5)∧W.cell? ⟨z,2,none⟩=some (.int .i64 1)∧W.cell? ⟨b4,0,none⟩=some (.int .i64 1)∧W.cell? ⟨b4,1,none⟩=some (.int .i64 5)∧W.cell? ⟨b4,2,none⟩=some (.int .i64 1)∧W.cell? ⟨x,2,none⟩=some (.slice A8 1 c8))) _ _ _ _ ?_;refine Za5 [90,91,92,93,94] [95,96] (.bool true) ?_ (fun hrest=> ?_)
  ·intro vs W hHeld;refine hdone.out _ _ ?_;clear hdone hq QQ;simp only[Zbr,Zbs]
   try simp only[Act.put,sT,sS,sZ]
   refine Zx 6 (by kernel_rfl) (by kernel_rfl) 66 rfl (fun _ _ _ _ _ h=>h) (fun QQ hq hdone=> ?_);simp only[List.append,Za,Zl,Ze,Zf,Zi];refine wpAny_of_held (S:=(fun W=>Su13 w g z b4 x A8 c8 (q13 y z) W∧W.cell? ⟨z,0,none⟩=some (.int .i64 1)∧W.cell? ⟨z,1,none⟩=some (.int .i64 5)∧W.cell? ⟨z,2,none⟩=some (.int .i64 1)∧W.cell? ⟨b4,0,none⟩=some (.int .i64 1)∧W.cell? ⟨b4,1,none⟩=some (.int .i64 5)∧W.cell? ⟨b4,2,none⟩=some (.int .i64 1)∧W.cell? ⟨x,2,none⟩=some (.slice A8 1 c8))) _ _ _ _ ?_;refine Za5 [97,98,99,100] [101,102] (.bool true) ?_ (fun hrest=> ?_)
   ·intro vs W hHeld;refine hdone.out _ _ ?_;clear hdone hq QQ;simp only[Zbr,Zbs]
    try simp only[Act.put,sT,sS,sZ]
    refine Zx 6 (by kernel_rfl) (by kernel_rfl) 60 rfl (fun _ _ _ _ _ h=>h) (fun QQ hq hdone=> ?_);simp only[List.append,Za,Zl,Ze,Zf,Zi];refine wpAny_of_held (S:=(fun W=>Su13 w g z b4 x A8 c8 (q13 y z) W∧W.cell? ⟨z,0,none⟩=some (.int .i64 1)∧W.cell? ⟨z,1,none⟩=some (.int .i64 5)∧W.cell? ⟨z,2,none⟩=some (.int .i64 1)∧W.cell? ⟨b4,0,none⟩=some (.int .i64 1)∧W.cell? ⟨b4,1,none⟩=some (.int .i64 5)∧W.cell? ⟨b4,2,none⟩=some (.int .i64 1)∧W.cell? ⟨x,2,none⟩=some (.slice A8 1 c8))) _ _ _ _ ?_;refine wpL hq 0 rfl ?_;refine wpR [1] ?_;refine wpC rfl (fun K hK=> ?_) AllReadyH.nil;go_simp
    (first
      |(go_at_call 34;refine(hHeld.1.1.lacks (by simp[q13]) [] (by kernel_rfl)).mono ?_;rintro e w2 ⟨A5,c5,rfl,ho5,hu2⟩;clear ho5))
    try (go_wp2_with fail)
    refine hK.out _ _ ?_ (fun hHeld=> ?_)
    ·(first|(with_reducible exact Su13.all (hHeld.1.no hu2))|(with_reducible exact Su13.all (hHeld.1.al _))|(with_reducible exact hHeld))
    clear hK K
    try simp only[Act.put,sT,sS,sZ]
    refine wpL hq 2 rfl ?_;refine wpL hq 3 rfl ?_;refine wpL hq 4 rfl ?_;refine wpL hq 5 rfl ?_;refine wpD (hdone.out _ _ ?_);clear hdone hq QQ;refine Zx 6 (by kernel_rfl) (by kernel_rfl) 54 rfl (fun _ _ _ _ _ h=>h) (fun QQ hq hdone=> ?_);simp only[List.append,Za,Zl,Ze,Zf,Zi];refine wpAny_of_held (S:=(fun W=>Su13 w g z b4 x A8 c8 (q13 y z) W∧W.cell? ⟨z,0,none⟩=some (.int .i64 1)∧W.cell? ⟨z,1,none⟩=some (.int .i64 5)∧W.cell? ⟨z,2,none⟩=some (.int .i64 1)∧W.cell? ⟨b4,0,none⟩=some (.int .i64 1)∧W.cell? ⟨b4,1,none⟩=some (.int .i64 5)∧W.cell? ⟨b4,2,none⟩=some (.int .i64 1)∧W.cell? ⟨x,2,none⟩=some (.slice A8 1 c8))) _ _ _ _ ?_;refine Za5 [109,110,111,112] [113,114] (.bool true) ?_ (fun hrest=> ?_)
    ·intro vs W hHeld;refine hdone.out _ _ ?_;clear hdone hq QQ;simp only[Zbr,Zbs]
     try simp only[Act.put,sT,sS,sZ]
     refine Zx 5 (by kernel_rfl) (by kernel_rfl) 49 rfl (fun _ _ _ _ _ h=>h) (fun QQ hq hdone=> ?_);simp only[List.append,Za,Zl,Ze,Zf,Zi];refine wpAny_of_held (S:=(fun W=>Su13 w g z b4 x A8 c8 (q13 y z) W∧W.cell? ⟨z,0,none⟩=some (.int .i64 1)∧W.cell? ⟨z,1,none⟩=some (.int .i64 5)∧W.cell? ⟨z,2,none⟩=some (.int .i64 1)∧W.cell? ⟨b4,0,none⟩=some (.int .i64 1)∧W.cell? ⟨b4,1,none⟩=some (.int .i64 5)∧W.cell? ⟨b4,2,none⟩=some (.int .i64 1)∧W.cell? ⟨x,2,none⟩=some (.slice A8 1 c8))) _ _ _ _ ?_;refine wpL hq 0 rfl ?_;refine wpR [1] ?_;refine wpC rfl (fun K hK=> ?_) AllReadyH.nil;go_simp
     (first
       |(go_at_call 30;refine(hHeld.1.1.writes 1 5 1 (by kernel_rfl)).mono ?_;rintro e w2 ⟨rfl,hu2⟩))
     try (go_wp2_with fail)
     refine hK.out _ _ ?_ (fun hHeld=> ?_)
     ·(first|(with_reducible exact Su13.all (hHeld.1.no hu2))|(with_reducible exact Su13.all (hHeld.1.al _))|(with_reducible exact hHeld))
     clear hK K
     try simp only[Act.put,sT,sS,sZ]
     refine wpL hq 2 rfl ?_;refine wpL hq 3 rfl ?_;refine wpL hq 4 rfl ?_;refine wpD (hdone.out _ _ ?_);clear hdone hq QQ;refine Zx 5 (by kernel_rfl) (by kernel_rfl) 44 rfl (fun _ _ _ _ _ h=>h) (fun QQ hq hdone=> ?_);simp only[List.append,Za,Zl,Ze,Zf,Zi];refine wpAny_of_held (S:=(fun W=>Su13 w g z b4 x A8 c8 (q13 y z) W∧W.cell? ⟨z,0,none⟩=some (.int .i64 1)∧W.cell? ⟨z,1,none⟩=some (.int .i64 5)∧W.cell? ⟨z,2,none⟩=some (.int .i64 1)∧W.cell? ⟨b4,0,none⟩=some (.int .i64 1)∧W.cell? ⟨b4,1,none⟩=some (.int .i64 5)∧W.cell? ⟨b4,2,none⟩=some (.int .i64 1)∧W.cell? ⟨x,2,none⟩=some (.slice A8 1 c8))) _ _ _ _ ?_;refine wpL hq 0 rfl ?_;refine wpR [1] ?_;refine wpC rfl (fun K hK=> ?_) AllReadyH.nil;go_simp
     (first
       |(go_at_call 30;refine(hHeld.1.1.writes 3 5 0 (by kernel_rfl)).mono ?_;rintro e w2 ⟨rfl,hu2⟩))
     try (go_wp2_with fail)
     refine hK.out _ _ ?_ (fun hHeld=> ?_)
     ·(first|(with_reducible exact Su13.all (hHeld.1.no hu2))|(with_reducible exact Su13.all (hHeld.1.al _))|(with_reducible exact hHeld))
     clear hK K
     try simp only[Act.put,sT,sS,sZ]
     refine wpL hq 2 rfl ?_;refine wpL hq 3 rfl ?_;refine wpL hq 4 rfl ?_;refine wpD (hdone.out _ _ ?_);clear hdone hq QQ;refine Zx 5 (by kernel_rfl) (by kernel_rfl) 39 rfl (fun _ _ _ _ _ h=>h) (fun QQ hq hdone=> ?_);simp only[List.append,Za,Zl,Ze,Zf,Zi];refine wpAny_of_held (S:=(fun W=>Su13 w g z b4 x A8 c8 (q13 y z) W∧W.cell? ⟨z,0,none⟩=some (.int .i64 1)∧W.cell? ⟨z,1,none⟩=some (.int .i64 5)∧W.cell? ⟨z,2,none⟩=some (.int .i64 1)∧W.cell? ⟨b4,0,none⟩=some (.int .i64 1)∧W.cell? ⟨b4,1,none⟩=some (.int .i64 5)∧W.cell? ⟨b4,2,none⟩=some (.int .i64 1)∧W.cell? ⟨x,2,none⟩=some (.slice A8 1 c8))) _ _ _ _ ?_;refine wpL hq 0 rfl ?_;refine wpR [1] ?_;refine wpC rfl (fun K hK=> ?_) AllReadyH.nil;go_simp
     (first
       |(go_at_call 35;refine(hHeld.1.1.weight 4 (by kernel_rfl)).mono ?_;rintro e w2 ⟨rfl,hu2⟩))
     try (go_wp2_with fail)
     refine hK.out _ _ ?_ (fun hHeld=> ?_)
     ·(first|(with_reducible exact Su13.all (hHeld.1.no hu2))|(with_reducible exact Su13.all (hHeld.1.al _))|(with_reducible exact hHeld))
     clear hK K
     try simp only[Act.put,sT,sS,sZ]
     refine wpL hq 2 rfl ?_;refine wpL hq 3 rfl ?_;refine wpL hq 4 rfl ?_;refine wpD (hdone.out _ _ ?_);clear hdone hq QQ;refine Zx 5 (by kernel_rfl) (by kernel_rfl) 34 rfl (fun _ _ _ _ _ h=>h) (fun QQ hq hdone=> ?_);simp only[List.append,Za,Zl,Ze,Zf,Zi];have HS:=Qh hHeld.1;have hHeld:=And.intro (show∃q,Su13 w g z b4 x A8 c8 q _ from Exists.intro _ hHeld.1) hHeld.2;refine wpAny_of_held (S:=(fun W=>(∃q,Su13 w g z b4 x A8 c8 q W)∧W.cell? ⟨z,0,none⟩=some (.int .i64 1)∧W.cell? ⟨z,1,none⟩=some (.int .i64 5)∧W.cell? ⟨z,2,none⟩=some (.int .i64 1)∧W.cell? ⟨b4,0,none⟩=some (.int .i64 1)∧W.cell? ⟨b4,1,none⟩=some (.int .i64 5)∧W.cell? ⟨b4,2,none⟩=some (.int .i64 1)∧W.cell? ⟨x,2,none⟩=some (.slice A8 1 c8))) _ _ _ _ ?_;refine wpL hq 0 rfl ?_;refine wpR [1] ?_;refine wpC rfl (fun K hK=> ?_) AllReadyH.nil;go_simp
     (first
       |(go_at_call 27;refine(HS.out.drop 2 (by simp[q13]) 0 (Zbq y) (by kernel_rfl) (by kernel_rfl)).mono ?_;rintro e w2 ⟨rfl,hs2⟩))
     try (go_wp2_with fail)
     refine hK.out _ _ ?_ (fun hHeld=> ?_)
     ·exact⟨⟨_,hs2⟩,hs2.cel⟩
     clear hK K
     try simp only[Act.put,sT,sS,sZ]
     refine wpL hq 2 rfl ?_;refine wpL hq 3 rfl ?_;refine wpL hq 4 rfl ?_;refine wpD (hdone.out _ _ ?_);clear hdone hq QQ;refine Zx 6 (by kernel_rfl) (by kernel_rfl) 28 rfl (fun _ _ _ _ _ h=>h) (fun QQ hq hdone=> ?_);simp only[List.append,Za,Zl,Ze,Zf,Zi];have hHeld:Su13 w g z b4 x A8 c8 (Zbq y) w2∧w2.cell? ⟨z,0,none⟩=some (.int .i64 1)∧w2.cell? ⟨z,1,none⟩=some (.int .i64 5)∧w2.cell? ⟨z,2,none⟩=some (.int .i64 1)∧w2.cell? ⟨b4,0,none⟩=some (.int .i64 1)∧w2.cell? ⟨b4,1,none⟩=some (.int .i64 5)∧w2.cell? ⟨b4,2,none⟩=some (.int .i64 1)∧w2.cell? ⟨x,2,none⟩=some (.slice A8 1 c8):=⟨hs2,hs2.cel⟩;refine wpAny_of_held (S:=(fun W=>Su13 w g z b4 x A8 c8 (Zbq y) W∧W.cell? ⟨z,0,none⟩=some (.int .i64 1)∧W.cell? ⟨z,1,none⟩=some (.int .i64 5)∧W.cell? ⟨z,2,none⟩=some (.int .i64 1)∧W.cell? ⟨b4,0,none⟩=some (.int .i64 1)∧W.cell? ⟨b4,1,none⟩=some (.int .i64 5)∧W.cell? ⟨b4,2,none⟩=some (.int .i64 1)∧W.cell? ⟨x,2,none⟩=some (.slice A8 1 c8))) _ _ _ _ ?_;refine wpL hq 0 rfl ?_;refine wpR [1] ?_;refine wpC rfl (fun K hK=> ?_) AllReadyH.nil;go_simp
     (first
       |(go_at_call 29;refine(hHeld.1.1.users (by simp[Zbq]) 1 [] (by kernel_rfl)).mono ?_;rintro e w2 ⟨A5,c5,rfl,ho5,hu2⟩;clear ho5))
     try (go_wp2_with fail)
     refine hK.out _ _ ?_ (fun hHeld=> ?_)
     ·(first|(with_reducible exact Su13.all (hHeld.1.no hu2))|(with_reducible exact Su13.all (hHeld.1.al _))|(with_reducible exact hHeld))
     clear hK K
     try simp only[Act.put,sT,sS,sZ]
     refine wpL hq 2 rfl ?_;refine wpL hq 3 rfl ?_;refine wpL hq 4 rfl ?_;refine wpL hq 5 rfl ?_;refine wpD (hdone.out _ _ ?_);clear hdone hq QQ;refine Zx 5 (by kernel_rfl) (by kernel_rfl) 23 rfl (fun _ _ _ _ _ h=>h) (fun QQ hq hdone=> ?_);simp only[List.append,Za,Zl,Ze,Zf,Zi];refine wpAny_of_held (S:=(fun W=>Su13 w g z b4 x A8 c8 (Zbq y) W∧W.cell? ⟨z,0,none⟩=some (.int .i64 1)∧W.cell? ⟨z,1,none⟩=some (.int .i64 5)∧W.cell? ⟨z,2,none⟩=some (.int .i64 1)∧W.cell? ⟨b4,0,none⟩=some (.int .i64 1)∧W.cell? ⟨b4,1,none⟩=some (.int .i64 5)∧W.cell? ⟨b4,2,none⟩=some (.int .i64 1)∧W.cell? ⟨x,2,none⟩=some (.slice A8 1 c8))) _ _ _ _ ?_;refine wpL hq 0 rfl ?_;refine wpR [1] ?_;refine wpC rfl (fun K hK=> ?_) AllReadyH.nil;go_simp
     (first
       |(go_at_call 35;refine(Zdz _).mono ?_;rintro e w2 ⟨rfl,hu2⟩))
     try (go_wp2_with fail)
     refine hK.out _ _ ?_ (fun hHeld=> ?_)
     ·(first|(with_reducible exact Su13.all (hHeld.1.no hu2))|(with_reducible exact Su13.all (hHeld.1.al _))|(with_reducible exact hHeld))
     clear hK K
     try simp only[Act.put,sT,sS,sZ]
     refine wpL hq 2 rfl ?_;refine wpL hq 3 rfl ?_;refine wpL hq 4 rfl ?_;refine wpD (hdone.out _ _ ?_);clear hdone hq QQ;refine Zx 6 (by kernel_rfl) (by kernel_rfl) 17 rfl (fun _ _ _ _ _ h=>h) (fun QQ hq hdone=> ?_);simp only[List.append,Za,Zl,Ze,Zf,Zi];refine wpAny_of_held (S:=(fun W=>Su13 w g z b4 x A8 c8 (Zbq y) W∧W.cell? ⟨z,0,none⟩=some (.int .i64 1)∧W.cell? ⟨z,1,none⟩=some (.int .i64 5)∧W.cell? ⟨z,2,none⟩=some (.int .i64 1)∧W.cell? ⟨b4,0,none⟩=some (.int .i64 1)∧W.cell? ⟨b4,1,none⟩=some (.int .i64 5)∧W.cell? ⟨b4,2,none⟩=some (.int .i64 1)∧W.cell? ⟨x,2,none⟩=some (.slice A8 1 c8))) _ _ _ _ ?_;refine wpL hq 0 rfl ?_;refine wpR [1] ?_;refine wpC rfl (fun K hK=> ?_) AllReadyH.nil;go_simp
     (first
       |(go_at_call 24;refine(ZeY _).mono ?_;rintro e w2 ⟨rfl,hu2⟩))
     try (go_wp2_with fail)
     refine hK.out _ _ ?_ (fun hHeld=> ?_)
     ·(first|(with_reducible exact Su13.all (hHeld.1.no hu2))|(with_reducible exact Su13.all (hHeld.1.al _))|(with_reducible exact hHeld))
     clear hK K
     try simp only[Act.put,sT,sS,sZ]
     refine wpL hq 2 rfl ?_;refine wpL hq 3 rfl ?_;refine wpL hq 4 rfl ?_;refine wpL hq 5 rfl ?_;refine wpD (hdone.out _ _ ?_);clear hdone hq QQ;refine Zx 5 (by kernel_rfl) (by kernel_rfl) 12 rfl (fun _ _ _ _ _ h=>h) (fun QQ hq hdone=> ?_);simp only[List.append,Za,Zl,Ze,Zf,Zi];refine wpAny_of_held (S:=(fun W=>Su13 w g z b4 x A8 c8 (Zbq y) W∧W.cell? ⟨z,0,none⟩=some (.int .i64 1)∧W.cell? ⟨z,1,none⟩=some (.int .i64 5)∧W.cell? ⟨z,2,none⟩=some (.int .i64 1)∧W.cell? ⟨b4,0,none⟩=some (.int .i64 1)∧W.cell? ⟨b4,1,none⟩=some (.int .i64 5)∧W.cell? ⟨b4,2,none⟩=some (.int .i64 1)∧W.cell? ⟨x,2,none⟩=some (.slice A8 1 c8))) _ _ _ _ ?_;refine wpL hq 0 rfl ?_;refine wpR [1] ?_;refine wpC rfl (fun K hK=> ?_) AllReadyH.nil;go_simp
     (first
       |(go_at_call 27;refine(Zej _ 1).mono ?_;rintro e w2 ⟨rfl,hu2⟩))
     try (go_wp2_with fail)
     refine hK.out _ _ ?_ (fun hHeld=> ?_)
     ·(first|(with_reducible exact Su13.all (hHeld.1.no hu2))|(with_reducible exact Su13.all (hHeld.1.al _))|(with_reducible exact hHeld))
     clear hK K
     try simp only[Act.put,sT,sS,sZ]
     refine wpL hq 2 rfl ?_;refine wpL hq 3 rfl ?_;refine wpL hq 4 rfl ?_;refine wpD (hdone.out _ _ ?_);clear hdone hq QQ;refine Zx 6 (by kernel_rfl) (by kernel_rfl) 6 rfl (fun _ _ _ _ _ h=>h) (fun QQ hq hdone=> ?_);simp only[List.append,Za,Zl,Ze,Zf,Zi];refine wpAny_of_held (S:=(fun W=>Su13 w g z b4 x A8 c8 (Zbq y) W∧W.cell? ⟨z,0,none⟩=some (.int .i64 1)∧W.cell? ⟨z,1,none⟩=some (.int .i64 5)∧W.cell? ⟨z,2,none⟩=some (.int .i64 1)∧W.cell? ⟨b4,0,none⟩=some (.int .i64 1)∧W.cell? ⟨b4,1,none⟩=some (.int .i64 5)∧W.cell? ⟨b4,2,none⟩=some (.int .i64 1)∧W.cell? ⟨x,2,none⟩=some (.slice A8 1 c8))) _ _ _ _ ?_;refine wpL hq 0 rfl ?_;refine wpL hq 1 rfl ?_;refine wpR [2] ?_;refine wpC rfl (fun K hK=> ?_) AllReadyH.nil;go_simp
     (first
       |(go_at_call 23;refine(ZeW _).mono ?_;rintro e w2 ⟨rfl,hu2⟩))
     try (go_wp2_with fail)
     refine hK.out _ _ ?_ (fun hHeld=> ?_)
     ·(first|(with_reducible exact Su13.all (hHeld.1.no hu2))|(with_reducible exact Su13.all (hHeld.1.al _))|(with_reducible exact hHeld))
     clear hK K
     try simp only[Act.put,sT,sS,sZ]
     refine wpL hq 3 rfl ?_;refine wpL hq 4 rfl ?_;refine wpL hq 5 rfl ?_;refine wpD (hdone.out _ _ ?_);clear hdone hq QQ;refine Zx 6 (by kernel_rfl) (by kernel_rfl) 0 rfl (fun _ _ _ _ _ h=>h) (fun QQ hq hdone=> ?_);simp only[List.append,Za,Zl,Ze,Zf,Zi];refine wpAny_of_held (S:=(fun W=>Su13 w g z b4 x A8 c8 (Zbq y) W∧W.cell? ⟨z,0,none⟩=some (.int .i64 1)∧W.cell? ⟨z,1,none⟩=some (.int .i64 5)∧W.cell? ⟨z,2,none⟩=some (.int .i64 1)∧W.cell? ⟨b4,0,none⟩=some (.int .i64 1)∧W.cell? ⟨b4,1,none⟩=some (.int .i64 5)∧W.cell? ⟨b4,2,none⟩=some (.int .i64 1)∧W.cell? ⟨x,2,none⟩=some (.slice A8 1 c8))) _ _ _ _ ?_;refine wpL hq 0 rfl ?_;refine wpL hq 1 rfl ?_;refine wpR [2] ?_;refine wpC rfl (fun K hK=> ?_) AllReadyH.nil;go_simp
     (first
       |(go_at_call 23;refine(Zei _).mono ?_;rintro e w2 ⟨rfl,hu2⟩))
     try (go_wp2_with fail)
     refine hK.out _ _ ?_ (fun hHeld=> ?_)
     ·(first|(with_reducible exact Su13.all (hHeld.1.no hu2))|(with_reducible exact Su13.all (hHeld.1.al _))|(with_reducible exact hHeld))
     clear hK K
     try simp only[Act.put,sT,sS,sZ]
     refine wpL hq 3 rfl ?_;refine wpL hq 4 rfl ?_;refine wpL hq 5 rfl ?_;refine wpD (hdone.out _ _ ?_);clear hdone hq QQ;refine Zdq (NoPanic.normal ?_)
     try go_wp2
     go_ret
     exact⟨rfl,hHeld.1.1.upd⟩
    refine wpL hq 0 rfl ?_;refine wpR [1,2] ?_;refine wpC rfl (fun K hK=> ?_) ?_
    ·go_simp
     (first
       |(go_at_call 31;refine(hHeld.1.1.writers (by simp[q13]) 5 [1] (by kernel_rfl)).mono ?_;rintro e w2 ⟨A5,c5,rfl,ho5,hu2⟩;have HI:=Qh (Ints.of_own (xs:=[1]) ho5);(try have HL:=Qh (HL.out.upd hu2 (fun _ _=>id)))))
     try (go_wp2_with fail)
     refine hK.out _ _ ?_ (fun hHeld=> ?_)
     ·(first|(with_reducible exact Su13.all (hHeld.1.no hu2))|(with_reducible exact Su13.all (hHeld.1.al _))|(with_reducible exact hHeld))
     clear hK K
     try simp only[Act.put,sT,sS,sZ]
     refine wpR [2] ?_;refine wpC rfl (fun K hK=> ?_) AllReadyH.nil;go_simp;refine hK.out _ _ ?_ (fun hHeld=> ?_)
     ·(first|(with_reducible exact Su13.all (hHeld.1.no hu2))|(with_reducible exact Su13.all (hHeld.1.al _))|(with_reducible exact hHeld))
     clear hK K
     try simp only[Act.put,sT,sS,sZ]
     have HL:=Qh (Su13.lit1 hHeld.1)
     (try have HI:=Qh (Su13.keepI hHeld.1 HI.out))
     refine wpR [3] ?_;refine wpC rfl (fun K hK=> ?_) AllReadyH.nil;go_simp
     (first
       |(go_at_call 28;refine(Z2 _ _ _ A5 _ c5 _ [1] HI.out HL.out (by decide)).mono ?_;rintro e w3 ⟨rfl,hu2⟩))
     try (go_wp2_with fail)
     refine hK.out _ _ ?_ (fun hHeld=> ?_)
     ·(first|(with_reducible exact Su13.all (hHeld.1.no hu2))|(with_reducible exact Su13.all (hHeld.1.al _))|(with_reducible exact hHeld))
     clear hK K
     try simp only[Act.put,sT,sS,sZ]
     refine wpL hq 4 rfl ?_;refine wpL hq 5 rfl ?_;refine wpD (Z7 hrest.out ?_ (by kernel_rfl));exact hHeld
    refine wpC rfl (fun K hK=> ?_) AllReadyH.nil;go_simp;refine hK.out _ _ ?_ (fun hHeld=> ?_)
    ·(first|(with_reducible exact Su13.all (hHeld.1.no hu2))|(with_reducible exact Su13.all (hHeld.1.al _))|(with_reducible exact hHeld))
    clear hK K
    try simp only[Act.put,sT,sS,sZ]
    have HL:=Qh (Su13.lit1 hHeld.1)
    (try have HI:=Qh (Su13.keepI hHeld.1 HI.out))
    refine wpR [1] ?_;refine wpC rfl (fun K hK=> ?_) AllReadyH.nil;go_simp
    (first
      |(go_at_call 31;refine(hHeld.1.1.writers (by simp[q13]) 5 [1] (by kernel_rfl)).mono ?_;rintro e w2 ⟨A5,c5,rfl,ho5,hu2⟩;have HI:=Qh (Ints.of_own (xs:=[1]) ho5);(try have HL:=Qh (HL.out.upd hu2 (fun _ _=>id)))))
    try (go_wp2_with fail)
    refine hK.out _ _ ?_ (fun hHeld=> ?_)
    ·(first|(with_reducible exact Su13.all (hHeld.1.no hu2))|(with_reducible exact Su13.all (hHeld.1.al _))|(with_reducible exact hHeld))
    clear hK K
    try simp only[Act.put,sT,sS,sZ]
    refine wpR [3] ?_;refine wpC rfl (fun K hK=> ?_) AllReadyH.nil;go_simp
    (first
      |(go_at_call 28;refine(Z2 _ _ _ A5 _ c5 _ [1] HI.out HL.out (by decide)).mono ?_;rintro e w3 ⟨rfl,hu2⟩))
    try (go_wp2_with fail)
    refine hK.out _ _ ?_ (fun hHeld=> ?_)
    ·(first|(with_reducible exact Su13.all (hHeld.1.no hu2))|(with_reducible exact Su13.all (hHeld.1.al _))|(with_reducible exact hHeld))
    clear hK K
    try simp only[Act.put,sT,sS,sZ]
    refine wpL hq 4 rfl ?_;refine wpL hq 5 rfl ?_;refine wpD (Z7 hrest.out ?_ (by kernel_rfl));exact hHeld
   refine wpL hq 0 rfl ?_;refine wpR [1,2] ?_;refine wpC rfl (fun K hK=> ?_) ?_
   ·go_simp
    (first
      |(go_at_call 29;refine(hHeld.1.1.users (by simp[q13]) 1 [2] (by kernel_rfl)).mono ?_;rintro e w2 ⟨A5,c5,rfl,ho5,hu2⟩;have HI:=Qh (Ints.of_own (xs:=[2]) ho5);(try have HL:=Qh (HL.out.upd hu2 (fun _ _=>id)))))
    try (go_wp2_with fail)
    refine hK.out _ _ ?_ (fun hHeld=> ?_)
    ·(first|(with_reducible exact Su13.all (hHeld.1.no hu2))|(with_reducible exact Su13.all (hHeld.1.al _))|(with_reducible exact hHeld))
    clear hK K
    try simp only[Act.put,sT,sS,sZ]
    refine wpR [2] ?_;refine wpC rfl (fun K hK=> ?_) AllReadyH.nil;go_simp;refine hK.out _ _ ?_ (fun hHeld=> ?_)
    ·(first|(with_reducible exact Su13.all (hHeld.1.no hu2))|(with_reducible exact Su13.all (hHeld.1.al _))|(with_reducible exact hHeld))
    clear hK K
    try simp only[Act.put,sT,sS,sZ]
    have HL:=Qh (Su13.lit1 hHeld.1)
    (try have HI:=Qh (Su13.keepI hHeld.1 HI.out))
    refine wpR [3] ?_;refine wpC rfl (fun K hK=> ?_) AllReadyH.nil;go_simp
    (first
      |(go_at_call 28;refine(Z2 _ _ _ A5 _ c5 _ [2] HI.out HL.out (by decide)).mono ?_;rintro e w3 ⟨rfl,hu2⟩))
    try (go_wp2_with fail)
    refine hK.out _ _ ?_ (fun hHeld=> ?_)
    ·(first|(with_reducible exact Su13.all (hHeld.1.no hu2))|(with_reducible exact Su13.all (hHeld.1.al _))|(with_reducible exact hHeld))
    clear hK K
    try simp only[Act.put,sT,sS,sZ]
    refine wpL hq 4 rfl ?_;refine wpL hq 5 rfl ?_;refine wpD (Z7 hrest.out ?_ (by kernel_rfl));exact hHeld
   refine wpC rfl (fun K hK=> ?_) AllReadyH.nil;go_simp;refine hK.out _ _ ?_ (fun hHeld=> ?_)
   ·(first|(with_reducible exact Su13.all (hHeld.1.no hu2))|(with_reducible exact Su13.all (hHeld.1.al _))|(with_reducible exact hHeld))
   clear hK K
   try simp only[Act.put,sT,sS,sZ]
   have HL:=Qh (Su13.lit1 hHeld.1)
   (try have HI:=Qh (Su13.keepI hHeld.1 HI.out))
   refine wpR [1] ?_;refine wpC rfl (fun K hK=> ?_) AllReadyH.nil;go_simp
   (first
     |(go_at_call 29;refine(hHeld.1.1.users (by simp[q13]) 1 [2] (by kernel_rfl)).mono ?_;rintro e w2 ⟨A5,c5,rfl,ho5,hu2⟩;have HI:=Qh (Ints.of_own (xs:=[2]) ho5);(try have HL:=Qh (HL.out.upd hu2 (fun _ _=>id)))))
   try (go_wp2_with fail)
   refine hK.out _ _ ?_ (fun hHeld=> ?_)
   ·(first|(with_reducible exact Su13.all (hHeld.1.no hu2))|(with_reducible exact Su13.all (hHeld.1.al _))|(with_reducible exact hHeld))
   clear hK K
   try simp only[Act.put,sT,sS,sZ]
   refine wpR [3] ?_;refine wpC rfl (fun K hK=> ?_) AllReadyH.nil;go_simp
   (first
     |(go_at_call 28;refine(Z2 _ _ _ A5 _ c5 _ [2] HI.out HL.out (by decide)).mono ?_;rintro e w3 ⟨rfl,hu2⟩))
   try (go_wp2_with fail)
   refine hK.out _ _ ?_ (fun hHeld=> ?_)
   ·(first|(with_reducible exact Su13.all (hHeld.1.no hu2))|(with_reducible exact Su13.all (hHeld.1.al _))|(with_reducible exact hHeld))
   clear hK K
   try simp only[Act.put,sT,sS,sZ]
   refine wpL hq 4 rfl ?_;refine wpL hq 5 rfl ?_;refine wpD (Z7 hrest.out ?_ (by kernel_rfl));exact hHeld
  refine wpL hq 0 rfl ?_;refine wpL hq 1 rfl ?_;refine wpR [2,3] ?_;refine wpC rfl (fun K hK=> ?_) ?_
  ·go_simp
   (first
     |(go_at_call 32;refine(hHeld.1.1.readers (by simp[q13]) v13 [2] (by kernel_rfl)).mono ?_;rintro e w2 ⟨A5,c5,rfl,ho5,hu2⟩;have HI:=Qh (Ints.of_own (xs:=[2]) ho5);(try have HL:=Qh (HL.out.upd hu2 (fun _ _=>id)))))
   try (go_wp2_with fail)
   refine hK.out _ _ ?_ (fun hHeld=> ?_)
   ·(first|(with_reducible exact Su13.all (hHeld.1.no hu2))|(with_reducible exact Su13.all (hHeld.1.al _))|(with_reducible exact hHeld))
   clear hK K
   try simp only[Act.put,sT,sS,sZ]
   refine wpR [3] ?_;refine wpC rfl (fun K hK=> ?_) AllReadyH.nil;go_simp;refine hK.out _ _ ?_ (fun hHeld=> ?_)
   ·(first|(with_reducible exact Su13.all (hHeld.1.no hu2))|(with_reducible exact Su13.all (hHeld.1.al _))|(with_reducible exact hHeld))
   clear hK K
   try simp only[Act.put,sT,sS,sZ]
   have HL:=Qh (Su13.lit1 hHeld.1)
   (try have HI:=Qh (Su13.keepI hHeld.1 HI.out))
   refine wpR [4] ?_;refine wpC rfl (fun K hK=> ?_) AllReadyH.nil;go_simp
   (first
     |(go_at_call 28;refine(Z2 _ _ _ A5 _ c5 _ [2] HI.out HL.out (by decide)).mono ?_;rintro e w3 ⟨rfl,hu2⟩))
   try (go_wp2_with fail)
   refine hK.out _ _ ?_ (fun hHeld=> ?_)
   ·(first|(with_reducible exact Su13.all (hHeld.1.no hu2))|(with_reducible exact Su13.all (hHeld.1.al _))|(with_reducible exact hHeld))
   clear hK K
   try simp only[Act.put,sT,sS,sZ]
   refine wpL hq 5 rfl ?_;refine wpL hq 6 rfl ?_;refine wpD (Z7 hrest.out ?_ (by kernel_rfl));exact hHeld
  refine wpC rfl (fun K hK=> ?_) AllReadyH.nil;go_simp;refine hK.out _ _ ?_ (fun hHeld=> ?_)
  ·(first|(with_reducible exact Su13.all (hHeld.1.no hu2))|(with_reducible exact Su13.all (hHeld.1.al _))|(with_reducible exact hHeld))
  clear hK K
  try simp only[Act.put,sT,sS,sZ]
  have HL:=Qh (Su13.lit1 hHeld.1)
  (try have HI:=Qh (Su13.keepI hHeld.1 HI.out))
  refine wpR [2] ?_;refine wpC rfl (fun K hK=> ?_) AllReadyH.nil;go_simp
  (first
    |(go_at_call 32;refine(hHeld.1.1.readers (by simp[q13]) v13 [2] (by kernel_rfl)).mono ?_;rintro e w2 ⟨A5,c5,rfl,ho5,hu2⟩;have HI:=Qh (Ints.of_own (xs:=[2]) ho5);(try have HL:=Qh (HL.out.upd hu2 (fun _ _=>id)))))
  try (go_wp2_with fail)
  refine hK.out _ _ ?_ (fun hHeld=> ?_)
  ·(first|(with_reducible exact Su13.all (hHeld.1.no hu2))|(with_reducible exact Su13.all (hHeld.1.al _))|(with_reducible exact hHeld))
  clear hK K
  try simp only[Act.put,sT,sS,sZ]
  refine wpR [4] ?_;refine wpC rfl (fun K hK=> ?_) AllReadyH.nil;go_simp
  (first
    |(go_at_call 28;refine(Z2 _ _ _ A5 _ c5 _ [2] HI.out HL.out (by decide)).mono ?_;rintro e w3 ⟨rfl,hu2⟩))
  try (go_wp2_with fail)
  refine hK.out _ _ ?_ (fun hHeld=> ?_)
  ·(first|(with_reducible exact Su13.all (hHeld.1.no hu2))|(with_reducible exact Su13.all (hHeld.1.al _))|(with_reducible exact hHeld))
  clear hK K
  try simp only[Act.put,sT,sS,sZ]
  refine wpL hq 5 rfl ?_;refine wpL hq 6 rfl ?_;refine wpD (Z7 hrest.out ?_ (by kernel_rfl));exact hHeld
 refine wpL hq 0 rfl ?_;refine wpR [1,2] ?_;refine wpC rfl (fun K hK=> ?_) ?_
 ·go_simp
  (first
    |(go_at_call 24;refine(hHeld.1.1.ids (by simp[q13]) [1,2] (by kernel_rfl)).mono ?_;rintro e w2 ⟨A5,c5,rfl,ho5,hu2⟩;have HI:=Qh (Ints.of_own (xs:=[1,2]) ho5);(try have HL:=Qh (HL.out.upd hu2 (fun _ _=>id)))))
  try (go_wp2_with fail)
  refine hK.out _ _ ?_ (fun hHeld=> ?_)
  ·(first|(with_reducible exact Su13.all (hHeld.1.no hu2))|(with_reducible exact Su13.all (hHeld.1.al _))|(with_reducible exact hHeld))
  clear hK K
  try simp only[Act.put,sT,sS,sZ]
  refine wpR [2] ?_;refine wpC rfl (fun K hK=> ?_) AllReadyH.nil;go_simp;refine hK.out _ _ ?_ (fun hHeld=> ?_)
  ·(first|(with_reducible exact Su13.all (hHeld.1.no hu2))|(with_reducible exact Su13.all (hHeld.1.al _))|(with_reducible exact hHeld))
  clear hK K
  try simp only[Act.put,sT,sS,sZ]
  have HL:=Qh (Su13.lit2 hHeld.1)
  (try have HI:=Qh (Su13.keepI hHeld.1 HI.out))
  refine wpR [3] ?_;refine wpC rfl (fun K hK=> ?_) AllReadyH.nil;go_simp
  (first
    |(go_at_call 28;refine(Z2 _ _ _ A5 _ c5 _ [1,2] HI.out HL.out (by decide)).mono ?_;rintro e w3 ⟨rfl,hu2⟩))
  try (go_wp2_with fail)
  refine hK.out _ _ ?_ (fun hHeld=> ?_)
  ·(first|(with_reducible exact Su13.all (hHeld.1.no hu2))|(with_reducible exact Su13.all (hHeld.1.al _))|(with_reducible exact hHeld))
  clear hK K
  try simp only[Act.put,sT,sS,sZ]
  refine wpL hq 4 rfl ?_;refine wpL hq 5 rfl ?_;refine wpD (Z7 hrest.out ?_ (by kernel_rfl));exact hHeld
 refine wpC rfl (fun K hK=> ?_) AllReadyH.nil;go_simp;refine hK.out _ _ ?_ (fun hHeld=> ?_)
 ·(first|(with_reducible exact Su13.all (hHeld.1.no hu2))|(with_reducible exact Su13.all (hHeld.1.al _))|(with_reducible exact hHeld))
 clear hK K
 try simp only[Act.put,sT,sS,sZ]
 have HL:=Qh (Su13.lit2 hHeld.1)
 (try have HI:=Qh (Su13.keepI hHeld.1 HI.out))
 refine wpR [1] ?_;refine wpC rfl (fun K hK=> ?_) AllReadyH.nil;go_simp
 (first
   |(go_at_call 24;refine(hHeld.1.1.ids (by simp[q13]) [1,2] (by kernel_rfl)).mono ?_;rintro e w2 ⟨A5,c5,rfl,ho5,hu2⟩;have HI:=Qh (Ints.of_own (xs:=[1,2]) ho5);(try have HL:=Qh (HL.out.upd hu2 (fun _ _=>id)))))
 try (go_wp2_with fail)
 refine hK.out _ _ ?_ (fun hHeld=> ?_)
 ·(first|(with_reducible exact Su13.all (hHeld.1.no hu2))|(with_reducible exact Su13.all (hHeld.1.al _))|(with_reducible exact hHeld))
 clear hK K
 try simp only[Act.put,sT,sS,sZ]
 refine wpR [3] ?_;refine wpC rfl (fun K hK=> ?_) AllReadyH.nil;go_simp
 (first
   |(go_at_call 28;refine(Z2 _ _ _ A5 _ c5 _ [1,2] HI.out HL.out (by decide)).mono ?_;rintro e w3 ⟨rfl,hu2⟩))
 try (go_wp2_with fail)
 refine hK.out _ _ ?_ (fun hHeld=> ?_)
 ·(first|(with_reducible exact Su13.all (hHeld.1.no hu2))|(with_reducible exact Su13.all (hHeld.1.al _))|(with_reducible exact hHeld))
 clear hK K
 try simp only[Act.put,sT,sS,sZ]
 refine wpL hq 4 rfl ?_;refine wpL hq 5 rfl ?_;refine wpD (Z7 hrest.out ?_ (by kernel_rfl));exact hHeld
end
end Go.Proofs.Ytblplapkdmhikaa
