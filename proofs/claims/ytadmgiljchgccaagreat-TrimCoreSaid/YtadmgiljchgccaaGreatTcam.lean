/- Walks: whether two are one; one begun elsewhere, by the program and by the document. -/
import Derived.Test.YtadmgiljchgccaaGreatTcac
import Derived.Test.YtadmgiljchgccaaGreatTcag
import Derived.Test.YtadmgiljchgccaaGreatTcai
namespace Go.Proofs.YtadmgiljchgccaaGreat
open Go.RowKit
set_option linter.unusedVariables false
set_option linter.unusedSimpArgs false
set_option maxRecDepth 100000
set_option maxHeartbeats 4000000
def Zyw(w:I0)(xs:Ip)(n:Nat)(e:Ending)(w':I0):Prop:=∃A c,e= .returned (.slice A n c)∧w'.ownsRow w.heap.size 58 4 (.slice A n c) n xs∧Upd No w w'
/- Operations cloned,transactions copied and found. -/
theorem ZuG:SlT Tryz.prog 37 66 4 32:=SlT.mk_ Tryz.underlying37 (z:= .agg #[.bool false,Qi 0,Qi 0,Qi 0]) (by kernel_rfl) rfl (by omega)
theorem Zgg{l:Is}:∀r∈l.map HOp.cells,r.length=4:=fun r hr=>by
 obtain⟨e,_,rfl⟩:=Ih.1 hr;rfl
theorem Zs8{l:Is}:∀v∈(l.map HOp.cells).flatten,v.oneCell'=true:=fun v hv=>by
 obtain⟨r,hr,h⟩:=List.mem_flatten.1 hv;obtain⟨e,_,rfl⟩:=Ih.1 hr;simp only[HOp.cells,Ie,G6,or_false]at h;rcases h with rfl|rfl|rfl|rfl<;>rfl
theorem ZuV{W:I0}{B n s:Nat}{e:Iy}(hn:n=W.heap.size)(hB:B<=W.heap.size):(W.alloc (.cells #[] e)).ownsRow B e s (.slice (some ⟨n,0,none⟩) 0 0) 0 []:=by
 subst hn;exact ZK (World.ownsRow_made W #[] 0 (Nat.le_refl _) (by decide) (by simp)) hB
def ZwI(w:I0)(l:Is)(e:Ending)(w':I0):Prop:=∃A c,e= .returned (.slice A l.length c)∧l.length<=c∧HOps (fun i=>w.heap.size<=i) w' A l∧Upd No w w'
theorem ZqB(F:Iw)(w:I0)(A:OA)(c:Nat)(l:Is)(h:HOps F w A l)(hl:Zt l.length):
  Calls Tryz.prog 72 #[.slice A l.length c] w (ZwI w l):=by
 unfold Zt at hl;have qT:∀(w:I0) (a:OA) (n c:Nat),(binOp .eql 37 (.slice a n c) (.slice none 0 0)).run Tryz.prog w= .ok (.bool a.isNone) w:=fun w a n c=>Lib.run_eql_slice_nil w _ _ a n c 0 0 Tryz.underlying37
 cases A with
 |none=>
  have h0:l=[]:=by
   cases l with
   |nil=>rfl
   |cons a l=>obtain⟨_,e,_⟩:=h (by simp);cases e
  subst h0;go_enter Tryz.func72,Tryz.ntmps72;go_wp2;go_ret;exact⟨none,0,rfl,Nat.le_refl _,fun h=>absurd rfl h,Il _ _⟩
 |some ad=>
  have hs:=Qh (show Src (w.alloc (.cells #[] 66)) (some ad) l.length 4 (l.map HOp.cells).flatten by
   have:=Recs.src (h.upd ((Il No w).alloc (.cells #[] 66)) Qo) Zgg
   rwa [Hw]at this)
  go_enter Tryz.func72,Tryz.ntmps72;go_wp2_with (at_builtin;refine Ziq rfl rfl ZuG (base:=w.heap.size) (v:= .slice (some ⟨w.heap.size,0,none⟩) 0 0) (n:=0) (m:=l.length) (xs:=[]) rfl rfl (ZuV rfl (Nat.le_refl _)) hs.out Zs8 (by omega) (by omega) (by simp) ?_);intro v4 w4 aF hu4 dd;obtain⟨A4,c4,rfl⟩:=Zaz aF;have uw4:Upd No w w4:=((Il No w).alloc _).then_ hu4 (fun j e=> .inr (ZiN e));have cT:=Zbq aF;have hr:=(Recs.of_own Zgg (by omega) aF).weak (G:=fun i=>w.heap.size<=i) fun i _ e=>(aF.lt i e).1
  have HR:=Qh (And.intro cT hr);clear cT hr;go_wp2;go_ret;exact⟨A4,c4,rfl,HR.out.1,HR.out.2,uw4⟩
def ZxP(w:I0)(i0:Int)(dn:Bool)(l:Is)(e:Ending)(w':I0):Prop:=∃A c,e= .returned (.agg #[Qi i0,.bool dn,.slice A l.length c])∧l.length<=c∧HOps (fun i=>w.heap.size<=i) w' A l∧Upd No w w'
theorem Zn6(F:Iw)(w:I0)(i0:Int)(dn:Bool)(A:OA)(c:Nat)(l:Is)(h:HOps F w A l)(hl:Zt l.length):
  Calls Tryz.prog 41 #[.agg #[Qi i0,.bool dn,.slice A l.length c]] w (ZxP w i0 dn l):=by
 have u0:=((Il No w).alloc (.cells #[Qi i0,.bool dn,.slice A l.length c] 39)).alloc (.cells #[Qi 0,.bool false,.slice none 0 0] 39);have b1:=(Im w 39 [Qi i0,.bool dn,.slice A l.length c]).alloc (.cells #[Qi 0,.bool false,.slice none 0 0] 39);have b2:=Im (w.alloc (.cells #[Qi i0,.bool dn,.slice A l.length c] 39)) 39 [Qi 0,.bool false,.slice none 0 0];simp only[Ij]at b2;go_enter Tryz.func41,Tryz.ntmps41;go_wp2_with fail;refine(ZqB F _ A c l (h.upd u0 Qo) hl).mono ?_;rintro e w1 ⟨A1,c1,rfl,dP,cD,hu1⟩;have fG:=hu1.size;simp only[Ij]at fG;have d1:=b1.upd hu1 id;have d2:=b2.upd hu1 id;obtain⟨e0,e1,e2⟩:=d1.c3;have f2:=d1.free 2;obtain⟨g0,g1,g2⟩:=d2.c3;obtain⟨k0,k1,k2⟩:=d2.f3;have D:=Qh (And.intro d1 (And.intro d2 (And.intro b1 b2)));clear d1 d2 b1 b2;have Hh:=Qh (And.intro dP (And.intro cD (And.intro hu1 fG)));clear dP cD hu1 fG;go_wp2;obtain⟨dP,cD,hu1,fG⟩:=Hh.out;obtain⟨d1,d2,-,-⟩:=D.out;have b3:=(((d2.far (p:=⟨w.heap.size,2,none⟩) (by show w.heap.size+1≠w.heap.size;omega) (.slice A1 l.length c1)).set_ 0 (Qi i0)).set_ 1 (.bool dn)).set_ 2 (.slice A1 l.length c1);simp only[List.set_cons_zero,List.set_cons_succ]at b3;refine bodyPost_ret (results_cell_row (p:=2) rfl _ _ _ _ _ _ _ rfl b3 Tryz.underlying39 rfl (by kernel_rfl)) rfl ⟨A1,c1,rfl,dP,?_,?_⟩
 ·have u8:=((((Il (fun i=>i=w.heap.size∨i=w.heap.size+1) w1).setCell (p:=⟨w.heap.size,2,none⟩) (.inl (.inl rfl)) (.slice A1 l.length c1)).setCell (p:=⟨w.heap.size+1,0,none⟩) (.inl (.inr rfl)) (Qi i0)).setCell (p:=⟨w.heap.size+1,1,none⟩) (.inl (.inr rfl)) (.bool dn)).setCell (p:=⟨w.heap.size+1,2,none⟩) (.inl (.inr rfl)) (.slice A1 l.length c1);simp only[Ij]at cD;exact(Recs.upd cD u8 (fun i hi e=>by rcases e with e|e<;>omega)).weak (fun i _ e=>by omega)
 ·have u9:Upd No w w1:=u0.trans hu1;exact(((u9.setCell (p:=⟨w.heap.size,2,none⟩) (.inr (Nat.le_refl _)) _).setCell (p:=⟨w.heap.size+1,0,none⟩) (.inr (Nat.le_succ _)) _).setCell (p:=⟨w.heap.size+1,1,none⟩) (.inr (Nat.le_succ _)) _).setCell (p:=⟨w.heap.size+1,2,none⟩) (.inr (Nat.le_succ _)) _
def Ze(txs:List HTx)(i:Int):Option HTx:=txs.find? fun t=>t.id==i
def Zht(G:Iw)(w:I0)(o:Option HTx)(e:Ending)(w':I0):Prop:=
 (match o with
  |some t=>∃A c,e= .returned (.tuple #[.agg #[Qi t.id,.bool t.done,.slice A t.ops.length c],.bool true])∧t.ops.length<=c∧HOps G w' A t.ops
  |none=>e= .returned (.tuple #[.agg #[Qi 0,.bool false,.slice none 0 0],.bool false]))∧Upd No w w'
theorem Zpb{txs:List HTx}{i:Int}(h:∀(k:Nat) (hk:k<txs.length),(txs[k].id==i)=false):Ze txs i=none:=by
 unfold Ze;rw[Gs];intro x hx;obtain⟨k,hk,rfl⟩:=Gl.1 hx;rw[h k hk];decide
theorem Zjj{txs:List HTx}{i:Int}{k:Nat}(hk:k<txs.length)(h:∀(j:Nat) (hj:j<k),((txs[j]'(by omega)).id==i)=false)(h1:(txs[k].id==i)=true):Ze txs i=some txs[k]:=by
 unfold Ze;rw[List.find?_eq_some_iff_getElem];exact⟨h1,k,hk,rfl,fun j hj=>by simp only[h j hj];rfl⟩
theorem ZoN(F:Iw)(w:I0)(h:Hist)(i:Int)(H:h.lies F w):Calls Tryz.prog 14 #[h.val,Qi i] w (Zht (fun i=>w.heap.size<=i) w (Ze h.txs i)):=by
 obtain⟨txs,ords,A,c,B,d⟩:=h;unfold Hist.val;have hf:=H.few;simp only at hf;have b0:=(Im w 25 [.slice A txs.length c,.slice B ords.length d]).alloc (.cells #[Qi 0,.bool false,.slice none 0 0] 39);have b1:=Im (w.alloc (.cells #[.slice A txs.length c,.slice B ords.length d] 25)) 39 [Qi 0,.bool false,.slice none 0 0];simp only[Ij]at b1;have B1:=Qh b1;clear b0 b1;go_enter Tryz.func14,Tryz.ntmps14;go_wp2
 go_loopg [11] txs.length (fun gk s wr=>∃k:Nat,k+gk=txs.length∧s= Qi k∧Hid (∀(j:Nat) (hj:j<txs.length),j<k->(txs[j].id==i)=false)∧Upd No ((w.alloc (.cells #[.slice A txs.length c,.slice B ords.length d] 25)).alloc (.cells #[Qi 0,.bool false,.slice none 0 0] 39)) wr)
 case atStart=>exact⟨0,by omega,rfl,Qh (fun j _ hj=>by omega),Il _ _⟩
 case round=>
  obtain⟨k,aI,rfl,ah,hu⟩:=hrel;have fC:Upd No w wr:=(((Il No w).alloc _).alloc _).trans hu;have bb:=B1.out.upd hu id;obtain⟨g0,g1,g2⟩:=bb.c3;obtain⟨k0,k1,k2⟩:=bb.f3;have BB:=Qh bb;clear bb
  by_cases hlt:k<txs.length
  ·obtain⟨ad,aH,c0,c1,c2⟩:=(H.upd fC Qo).tx_at hlt;simp only at aH c0 c1 c2;have jc:=(H.upd fC Qo).tx txs[k] (Hg hlt);obtain⟨x,hx⟩:=Qe (txs[k]);rw[hx]at c0 c1 c2 jc;subst aH;have X:=Qh hx;have M:=Qh jc;clear hx jc
   by_cases he:x.id=i
   ·have eO:(x.id==i)=true:=by simpa using he
    clear he g0 g1 g2 k0 k1 k2;have ba:=BB.out.alloc (.cells #[Qi x.id,.bool x.done,.slice x.A x.ops.length x.c] 39);obtain⟨g0,g1,g2⟩:=ba.c3;obtain⟨k0,k1,k2⟩:=ba.f3;have BA:=Qh ba;clear ba;have pX:=Qh (Zjj (txs:=txs) (i:=i) hlt (fun j hj=>ah.out j (by omega) hj) (by rw[X.out];exact eO));have lQ:=HOps.upd (H.tx x (by rw[<-X.out];exact Hg hlt)).1 (fC.alloc (.cells #[Qi x.id,.bool x.done,.slice x.A x.ops.length x.c] 39)) Qo;have kv:=hu.size;simp only[Ij]at kv;clear g0 g1 g2 k0 k1 k2;go_wp2_with fail;refine(Zn6 F _ x.id x.done x.A x.c x.ops lQ M.out.2.2.1).mono ?_;rintro e w1 ⟨A1,c1,rfl,dP,cD,hu1⟩;have ym:=Qh (BA.out.upd hu1 id);obtain⟨g0,g1,g2⟩:=ym.out.c3;obtain⟨k0,k1,k2⟩:=ym.out.f3;have HH:=Qh (And.intro dP (And.intro cD hu1));clear dP cD hu1;go_wp2;obtain⟨dP,cD,hu1⟩:=HH.out;have b3:=((ym.out.set_ 0 (Qi x.id)).set_ 1 (.bool x.done)).set_ 2 (.slice A1 x.ops.length c1);simp only[List.set_cons_zero,List.set_cons_succ]at b3;obtain⟨r0,r1,r2⟩:=b3.c3;have yF:Upd No w w1:=(fC.alloc _).trans hu1;have u3:Upd No w (((w1.setCell ⟨w.heap.size+1,0,none⟩ (Qi x.id)).setCell ⟨w.heap.size+1,1,none⟩ (.bool x.done)).setCell ⟨w.heap.size+1,2,none⟩ (.slice A1 x.ops.length c1)):=((yF.setCell (p:=⟨w.heap.size+1,0,none⟩) (.inr (Nat.le_succ _)) _).setCell (p:=⟨w.heap.size+1,1,none⟩) (.inr (Nat.le_succ _)) _).setCell (p:=⟨w.heap.size+1,2,none⟩) (.inr (Nat.le_succ _)) _
    have u4:Upd (One (w.heap.size+1)) w1 (((w1.setCell ⟨w.heap.size+1,0,none⟩ (Qi x.id)).setCell ⟨w.heap.size+1,1,none⟩ (.bool x.done)).setCell ⟨w.heap.size+1,2,none⟩ (.slice A1 x.ops.length c1)):=(((Il _ w1).setOne _ _).setOne _ _).setOne _ _;simp only[Ij]at cD;refine bodyPost_ret (v:= .tuple #[.agg #[Qi x.id,.bool x.done,.slice A1 x.ops.length c1],.bool true]) (by simp[results,Tryz.results14,go_sem,r0,r1,r2]) rfl ?_;unfold Zht;rw[show Ze txs i=some x from by rw[pX.out,X.out]];exact⟨⟨A1,c1,rfl,dP,(Recs.upd cD u4 (fun i hi e=>by cases e;omega)).weak (fun i _ e=>by omega)⟩,u3⟩
   ·have eO:(x.id==i)=false:=by simpa using he
    clear he;go_wp2;go_roundg (gk-1)
    case measure=>omega
    case rel=>exact⟨k+1,by omega,by go_num,Qh (fun j hj hjk=>by
      by_cases e:j=k
      ·subst e;rw[X.out];exact eO
      ·exact ah.out j hj (by omega)),hu.alloc _⟩
  ·obtain rfl:k=txs.length:=by omega
   have rm:=Qh (Zpb (txs:=txs) (i:=i) fun k hk=>ah.out k hk hk);go_wp2;have b3:=((BB.out.set_ 0 (Qi 0)).set_ 1 (.bool false)).set_ 2 (.slice none 0 0);simp only[List.set_cons_zero,List.set_cons_succ]at b3;obtain⟨r0,r1,r2⟩:=b3.c3;have u3:Upd No w (((wr.setCell ⟨w.heap.size+1,0,none⟩ (Qi 0)).setCell ⟨w.heap.size+1,1,none⟩ (.bool false)).setCell ⟨w.heap.size+1,2,none⟩ (.slice none 0 0)):=((fC.setCell (p:=⟨w.heap.size+1,0,none⟩) (.inr (Nat.le_succ _)) _).setCell (p:=⟨w.heap.size+1,1,none⟩) (.inr (Nat.le_succ _)) _).setCell (p:=⟨w.heap.size+1,2,none⟩) (.inr (Nat.le_succ _)) _;refine bodyPost_ret (v:= .tuple #[.agg #[Qi 0,.bool false,.slice none 0 0],.bool false]) (by simp[results,Tryz.results14,go_sem,r0,r1,r2]) rfl ?_;unfold Zht;rw[rm.out];exact⟨rfl,u3⟩
/- Walks begun elsewhere,and turned,by the program and by the document. -/
theorem ZsJ{W:I0}{B n:Nat}{e:Iy}(hn:n=W.heap.size)(hB:B<=W.heap.size):(W.alloc (.cells #[] e)).ownsRow B e 4 (.slice (some ⟨n,0,none⟩) 0 0) 0 []:=by
 subst hn;exact ZK (World.ownsRow_made W #[] 0 (Nat.le_refl _) (by decide) rfl) hB
theorem Walk.src{F:Iw}{w:I0}{A:OA}{l:List Edge}(h:Walk F w A l){n:Nat}(hn:n=l.length):Src w A n 4 (l.map Edge.cells).flatten:=by
 subst hn;have:=Recs.src h Zbn
 rwa [Hw]at this
/- Walks turned:the plain law:the least of all that are begun elsewhere is one,from whichever place it is begun. -/
theorem Zho(a:Edge):ltE a a=false:=by unfold ltE;simp
theorem ZbT(a b:Edge):ltE a b=true↔a.f<b.f∨(a.f=b.f∧(a.k<b.k∨(a.k=b.k∧(a.key<b.key∨(a.key=b.key∧a.t<b.t))))):=by
 unfold ltE
 split
 ·simp;omega
 ·split
  ·simp;omega
  ·split<;>simp<;>omega
theorem ZkF{a b c:Edge}(h:ltE a b=true)(k:ltE b c=true):ltE a c=true:=by
 rw[ZbT]at*;omega
theorem ZjP{a b:Edge}(h:ltE a b=false)(k:ltE b a=false):a=b:=by
 rw[<-Gz,ZbT]at h k;obtain⟨f,t,n,y⟩:=a;obtain⟨f',t',n',y'⟩:=b;simp only[Edge.mk.injEq]at*;omega
/- Where a transaction stands among others:slices.BinarySearchFunc at transactions,history.place. -/
def Zm4(l:List HTx)(tid:Int)(p:Nat):Prop:=p<=l.length∧∀k (hk:k<l.length),(Zw l[k].id tid<0↔k<p)
def Zcu(l:List HTx)(tid:Int)(p:Nat):Bool:=match l[p]? with|some x=>Zw x.id tid==0|none=>false
theorem ZvO(w:I0)(x:HTx)(tid:Int):Calls Tryz.prog 195 #[.agg #[Qi x.id,.bool x.done,.slice x.A x.ops.length x.c],Qi tid] w fun r w'=>r= .returned (Qi (Zw x.id tid))∧Upd No w w':=by
 have b:=Im w 39 [Qi x.id,.bool x.done,.slice x.A x.ops.length x.c];have u:=(Il No w).alloc (.cells #[Qi x.id,.bool x.done,.slice x.A x.ops.length x.c] 39);have b0:=b.cell 0;simp only[Qz]at b0;go_enter Tryz.func195,Tryz.ntmps195;go_wp2_with (go_at_call 196;refine(ZaX _ _ _).mono ?_;rintro e w3 ⟨rfl,rfl⟩);go_ret;exact⟨rfl,u⟩
theorem ZwW(F:Iw)(w:I0)(A:OA)(c:Nat)(l:List HTx)(tid:Int)(p:Nat)(h:Recs F w A 3 (l.map HTx.cells))(hl:l.length<=1000000)(hp:Zm4 l tid p):
  Calls Tryz.prog 194 #[.slice A l.length c,Qi tid,.func (.func 195) #[] #[]] w fun r w'=>r= .returned (.tuple #[Qi (p:Int),.bool (Zcu l tid p)])∧Upd No w w':=by
 have hc:∀W (x:HTx),Calls Tryz.prog 195 #[.agg #[Qi x.id,.bool x.done,.slice x.A x.ops.length x.c],Qi tid] W fun r w'=>r= .returned (Qi (Zw x.id tid))∧Upd No W w':=fun W x=>ZvO W x tid
 have HC:=Qh hc;have HP:=Qh hp.2;have dh:=hp.1;clear hc hp;go_enter Tryz.func194,Tryz.ntmps194;go_wp2
 go_loopg [9,10] l.length (fun gk s9 s10 wr=>∃i j:Nat,i+gk=j∧s9= Qi i∧s10= Qi j∧i<=p∧p<=j∧j<=l.length∧Upd No w wr)
 case atStart=>exact⟨0,l.length,by omega,rfl,rfl,by omega,by omega,by omega,Il _ _⟩
 case round=>
  obtain⟨i,j,aI,rfl,rfl,hi,hj,nX,hu⟩:=hrel;have hr:Upd No wr wr:=Il _ _
  by_cases hlt:i<j
  ·have b1:(i:Int)<(j:Int):=by omega
   have b2:(0:Int)<=(i:Int):=Qn _;have b3:(j:Int)<=1000000:=by omega
   obtain⟨m,hm⟩:=Qe ((i+j)/2:Nat);have pu:((i:Int)+(j:Int))/2=(m:Int):=by omega
   have cd:i<=m:=by omega
   have bh:m<j:=by omega
   have ej:m<l.length:=by omega
   have b4:(0:Int)<=(m:Int):=Qn _;have b5:(m:Int)<(l.length:Int):=by omega
   obtain⟨ad,hA,-⟩:=ZdB (Recs.upd h hu Qo) ej;have hq:=fun W (hW:Upd No wr W)=>ZdB (Recs.upd h (hu.trans hW) Qo) ej
   obtain⟨x,hx⟩:=Qe (l[m]);rw[hx]at hq
   have q0:∀W,Upd No wr W->W.cell? (ad.add (m*3))=some (Qi x.id):=fun W hW=>by
    obtain⟨ad',e,c0,_⟩:=hq W hW;rw[hA]at e
    cases e
    exact c0
   have q1:∀W,Upd No wr W->W.cell? ⟨(ad.add (m*3)).block,(ad.add (m*3)).off+1,none⟩=some (.bool x.done):=fun W hW=>by
    obtain⟨ad',e,_,c1,_⟩:=hq W hW;rw[hA]at e
    cases e
    exact c1
   have q2:∀W,Upd No wr W->W.cell? ⟨(ad.add (m*3)).block,(ad.add (m*3)).off+2,none⟩=some (.slice x.A x.ops.length x.c):=fun W hW=>by
    obtain⟨ad',e,_,_,c2⟩:=hq W hW;rw[hA]at e
    cases e
    exact c2
   have jR:=HP.out m ej;rw[hx]at jR;subst hA;clear hq hx hm
   by_cases hlt2:Zw x.id tid<0
   ·have xU:=jR.1 hlt2;have hd:decide (Zw x.id tid<0)=true:=Qt hlt2;clear jR hlt2;go_wp2_with fail;refine Ck (HC.out _ x) fun w3 hu3=>?_;have HU:=Qh (hu.trans hu3);clear hu3 q0 q1 q2;go_wp2;go_roundg (j-(m+1))
    case measure=>omega
    case rel=>exact⟨m+1,j,by omega,by go_num,rfl,by omega,by omega,by omega,HU.out⟩
   ·have xU:¬m<p:=fun e=>hlt2 (jR.2 e)
    have hd:decide (Zw x.id tid<0)=false:=Qf hlt2;clear jR hlt2;go_wp2_with fail;refine Ck (HC.out _ x) fun w3 hu3=>?_;have HU:=Qh (hu.trans hu3);clear hu3 q0 q1 q2;go_wp2;go_roundg (m-i);exact⟨i,m,by omega,rfl,by go_num,by omega,by omega,by omega,HU.out⟩;omega
  ·have pC:i=p:=by omega
   have zf:j=p:=by omega
   subst pC;subst zf
   by_cases hpn:j<l.length
   ·obtain⟨ad,hA,-⟩:=ZdB (Recs.upd h hu Qo) hpn;have hq:=fun W (hW:Upd No wr W)=>ZdB (Recs.upd h (hu.trans hW) Qo) hpn
    obtain⟨x,hx⟩:=Qe (l[j]);rw[hx]at hq
    have q0:∀W,Upd No wr W->W.cell? (ad.add (j*3))=some (Qi x.id):=fun W hW=>by
     obtain⟨ad',e,c0,_⟩:=hq W hW;rw[hA]at e
     cases e
     exact c0
    have q1:∀W,Upd No wr W->W.cell? ⟨(ad.add (j*3)).block,(ad.add (j*3)).off+1,none⟩=some (.bool x.done):=fun W hW=>by
     obtain⟨ad',e,_,c1,_⟩:=hq W hW;rw[hA]at e
     cases e
     exact c1
    have q2:∀W,Upd No wr W->W.cell? ⟨(ad.add (j*3)).block,(ad.add (j*3)).off+2,none⟩=some (.slice x.A x.ops.length x.c):=fun W hW=>by
     obtain⟨ad',e,_,_,c2⟩:=hq W hW;rw[hA]at e
     cases e
     exact c2
    have HV:=Qh (show Zcu l tid j=(Zw x.id tid==0) by unfold Zcu;rw[Qg hpn,hx]);have b1:(j:Int)<(l.length:Int):=by omega
    have b2:(0:Int)<=(j:Int):=Qn _;have yZ:decide (j<l.length)=true:=Qt hpn;have od:¬(j:Int)<(j:Int):=by omega
    subst hA;clear hq hx;go_wp2_with fail;refine Ck (HC.out _ x) fun w3 hu3=>?_;have HU:=Qh (hu.trans hu3);clear hu3;go_wp2;go_ret2;exact⟨by rw[HV.out];rfl,HU.out⟩
   ·have HV:=Qh (show Zcu l tid j=false by unfold Zcu;rw[List.getElem?_eq_none (by omega)]);have b1:¬(j:Int)<(l.length:Int):=by omega
    have yZ:decide (j<l.length)=false:=Qf hpn;have od:¬(j:Int)<(j:Int):=by omega
    clear hpn;go_wp2;have HU:=Qh hu;go_wp2;go_ret2;exact⟨by rw[HV.out];rfl,HU.out⟩
/- history.place. -/
theorem Zmz(F:Iw)(w:I0)(txs:List HTx)(ords:List HOrd)(A:OA)(c:Nat)(B:OA)(d:Nat)(i0:Int)(p:Nat)(H:Hist.lies F w ⟨txs,ords,A,c,B,d⟩)(hl:txs.length<=1000000)(hp:Zm4 txs i0 p):
  Calls Tryz.prog 141 #[.agg #[.slice A txs.length c,.slice B ords.length d],Qi i0] w fun r w'=>r= .returned (.tuple #[Qi (p:Int),.bool (Zcu txs i0 p)])∧Upd No w w':=by
 obtain⟨wb,ag⟩:=Qe (w.alloc (.cells #[.slice A txs.length c,.slice B ords.length d] 25));have u0:Upd No w wb:=by rw[<-ag];exact(Il No w).alloc _
 have bH:Blk wb w.heap.size 25 [.slice A txs.length c,.slice B ords.length d]:=by rw[<-ag];exact Im w _ _
 have h0:=bH.cell 0;simp only[Qz]at h0;have HF:=Qh (ZwW F wb A c txs i0 p (Recs.upd H.txs u0 Qo) hl hp);have U0:=Qh u0;clear bH u0 H hp;go_enter Tryz.func141,Tryz.ntmps141;go_wp2_with fail;refine Ck HF.out fun w3 hu3=>?_;go_wp2;go_ret2;exact⟨rfl,U0.out.trans hu3⟩
/- Histories by what they hold alone. -/
def HTx.nrm(t:HTx):HTx:=⟨t.id,t.done,t.ops,none,0⟩
def HOrd.nrm(o:HOrd):HOrd:=⟨o.key,o.txs,none,0⟩
def Hist.nrm(h:Hist):Hist:=⟨h.txs.map HTx.nrm,h.ords.map HOrd.nrm,none,0,none,0⟩
/- Two histories that are one,by the document (tenterref12.Same). -/
theorem ZiV{x y:HTx}(h:x.nrm=y.nrm):x.id=y.id∧x.done=y.done∧x.ops=y.ops:=by
 simp only[HTx.nrm,HTx.mk.injEq]at h;exact⟨h.1,h.2.1,h.2.2.1⟩
theorem ZqE{x y:HOrd}(h:x.nrm=y.nrm):x.key=y.key∧x.txs=y.txs:=by
 simp only[HOrd.nrm,HOrd.mk.injEq]at h;exact⟨h.1,h.2.1⟩
theorem ZqU{h:Hist}(hl:Zd h=true){o:HOrd}(ho:o∈h.ords):o.txs.length<=24:=by
 unfold Zd at hl;simp only[Hj,Hd,Gw]at hl;exact hl.2 o ho
theorem Zsr{F G:Iw}{w:I0}{k:Int}{A B:OA}{c d:Nat}{xs:Iv}(hx:Ints F w A xs)(hy:Ints G w B xs)(hl:xs.length<=1048576):
  CN 47 #[.agg #[Qi k,.slice A xs.length c],.agg #[Qi k,.slice B xs.length d]] w (.bool true):=by
 have ub:Upd No w ((w.alloc (.cells #[Qi k,.slice A xs.length c] 68)).alloc (.cells #[Qi k,.slice B xs.length d] 68)):=((Il No w).alloc _).alloc _;have UB:=Qh ub;have CS:=Qh (Zqa _ F G A B c d xs (hx.upd ub Qo) (hy.upd ub Qo) hl);clear ub hx hy;go_enter Tryz.func47,Tryz.ntmps47;go_wp2_with fail;refine Ck CS.out fun w1 hu1=>?_;go_wp2;go_ret;exact⟨rfl,UB.out.trans hu1⟩
theorem ZuQ{F G:Iw}{w:I0}{txs t2:List HTx}{ords o2:List HOrd}{A A2:OA}{c c2:Nat}{B B2:OA}{d d2:Nat}(H:Hist.lies F w ⟨txs,ords,A,c,B,d⟩)(H2:Hist.lies G w ⟨t2,o2,A2,c2,B2,d2⟩)(hl:Zd ⟨txs,ords,A,c,B,d⟩=true)
  (hn:Hist.nrm ⟨txs,ords,A,c,B,d⟩=Hist.nrm ⟨t2,o2,A2,c2,B2,d2⟩):
  CN 20 #[.agg #[.slice A txs.length c,.slice B ords.length d],.agg #[.slice A2 t2.length c2,.slice B2 o2.length d2]] w (.bool true):=by
 have rJ:txs.map HTx.nrm=t2.map HTx.nrm:=congrArg Hist.txs hn;have hno:ords.map HOrd.nrm=o2.map HOrd.nrm:=congrArg Hist.ords hn;have e1:t2.length=txs.length:=by have:=congrArg List.length rJ;simpa using this.symm
 have e2:o2.length=ords.length:=by have:=congrArg List.length hno;simpa using this.symm
 rw[e1,e2];obtain⟨z,hz⟩:=Qe w.heap.size;obtain⟨w1,ap⟩:=Qe (w.alloc (.cells #[.slice A txs.length c,.slice B ords.length d] 25));have s1:w1.heap.size=z+1:=by rw[<-ap,<-hz];simp
 obtain⟨wb,ag⟩:=Qe (w1.alloc (.cells #[.slice A2 txs.length c2,.slice B2 ords.length d2] 25));have u1:Upd No w w1:=by rw[<-ap];exact(Il No w).alloc _
 have u2:Upd No w1 wb:=by rw[<-ag];exact(Il No w1).alloc _
 have b0:Blk wb z 25 [.slice A txs.length c,.slice B ords.length d]:=by
  have:Blk w1 z 25 [.slice A txs.length c,.slice B ords.length d]:=by rw[<-ap,<-hz];exact Im w _ _
  exact this.upd u2 id
 have b1:Blk wb (z+1) 25 [.slice A2 txs.length c2,.slice B2 ords.length d2]:=by rw[<-ag,<-s1];exact Im w1 _ _
 have a0:=b0.ev 0 rfl
 have a1:=b0.ev 1 rfl
 have a2:=b1.ev 0 rfl
 have a3:=b1.ev 1 rfl
 have UB:=Qh (u1.trans u2);have HB:=Qh (H.upd (u1.trans u2) Qo);have dR:=Qh (H2.upd (u1.trans u2) Qo);have HN:=Qh (And.intro rJ hno);have HE:=Qh (And.intro e1 e2);have HL:=Qh hl;have hf:=H.few;have iC:=H.fewo;simp only at hf iC;have hbz:Upd No wb wb:=Il _ _;clear u1 u2 b0 b1 H H2 hn rJ hno e1 e2 hl;go_enter Tryz.func20,Tryz.ntmps20;go_wp2
 go_loopg [26] txs.length (fun gk s wr=>∃(k:Nat),k+gk=txs.length∧s= Qi (k:Int)∧Upd No wb wr)
 case atStart=>exact⟨0,by omega,rfl,hbz⟩
 case round=>
  obtain⟨k,aI,rfl,hu⟩:=hrel
  by_cases hlt:k<txs.length
  ·have hlt2:k<t2.length:=by have:=HE.out.1;omega
   obtain⟨x,hx⟩:=Qe (txs[k]);obtain⟨y,hy⟩:=Qe (t2[k])
   have hxy:x.nrm=y.nrm:=by
    have:=congrArg (fun l=>l[k]?) HN.out.1;simp only[List.getElem?_map,Qg hlt,Qg hlt2,Option.map_some,Gy]at this;rw[hx,hy]at this;exact this
   have hQ:=fun W (u:Upd No wb W)=>ZdB (HB.out.txs.upd u Qo) hlt
   have kW:=fun W (u:Upd No wb W)=>ZdB (dR.out.txs.upd u Qo) hlt2
   obtain⟨ad,hA,-⟩:=hQ wb hbz;obtain⟨ad2,iG,-⟩:=kW wb hbz;simp only at hA iG;have bK:=HB.out.tx txs[k] (Hg hlt);have l5:=dR.out.tx t2[k] (Hg hlt2);rw[hx]at bK;rw[hy]at l5;have q0:∀W,Upd No wb W->W.cell? (ad.add (k*3))=some (Qi x.id):=fun W u=>by obtain⟨a',e,c0,_⟩:=hQ W u;simp only at e c0;rw[hA]at e;cases e;rw[hx]at c0;exact c0
   have q1:∀W,Upd No wb W->W.cell? ⟨(ad.add (k*3)).block,(ad.add (k*3)).off+1,none⟩=some (.bool x.done):=fun W u=>by obtain⟨a',e,_,c0,_⟩:=hQ W u;simp only at e c0;rw[hA]at e;cases e;rw[hx]at c0;exact c0
   have q2:∀W,Upd No wb W->W.cell? ⟨(ad.add (k*3)).block,(ad.add (k*3)).off+2,none⟩=some (.slice x.A x.ops.length x.c):=fun W u=>by obtain⟨a',e,_,_,c0⟩:=hQ W u;simp only at e c0;rw[hA]at e;cases e;rw[hx]at c0;exact c0
   have p0:∀W,Upd No wb W->W.cell? (ad2.add (k*3))=some (Qi y.id):=fun W u=>by obtain⟨a',e,c0,_⟩:=kW W u;simp only at e c0;rw[iG]at e;cases e;rw[hy]at c0;exact c0
   have p1:∀W,Upd No wb W->W.cell? ⟨(ad2.add (k*3)).block,(ad2.add (k*3)).off+1,none⟩=some (.bool y.done):=fun W u=>by obtain⟨a',e,_,c0,_⟩:=kW W u;simp only at e c0;rw[iG]at e;cases e;rw[hy]at c0;exact c0
   have p2:∀W,Upd No wb W->W.cell? ⟨(ad2.add (k*3)).block,(ad2.add (k*3)).off+2,none⟩=some (.slice y.A y.ops.length y.c):=fun W u=>by obtain⟨a',e,_,_,c0⟩:=kW W u;simp only at e c0;rw[iG]at e;cases e;rw[hy]at c0;exact c0
   have HC:=Qh (fun W (u:Upd No wb W)=>ZuR (F:=F) (G:=G) (w:=W) (c:=x.c) (c2:=y.c) (HOps.upd bK.1 u Qo) (HOps.upd l5.1 u Qo) bK.2.2.1 l5.2.2.1 (ZiV hxy).1 (ZiV hxy).2.1 (ZiV hxy).2.2);subst hA iG;have b1:(0:Int)<=(k:Int):=Qn _;have b2:(k:Int)<(txs.length:Int):=by omega
   clear hQ kW bK l5 hx hy hxy hlt2;go_wp2;refine wpS (fun W'=>Upd No wb W') ?_ fun jH=>?_
   ·(first|exact hu.drew|exact jH|exact jH.trans hu6)
   (iterate 10 refine wpF ?_);refine wpZ 10 rfl fun K hK=>?_;go_simp
   (first
  |(go_at_call 16;refine Ck (HC.out _ jH) fun w6 hu6=>?_))
   try (go_wp2_with fail)
   refine hK.out _ _ ?_ fun jH=>?_
   ·(first|exact hu.drew|exact jH|exact jH.trans hu6)
   try simp only[Qa]
   refine wpK 11 rfl ?_;refine wpD (Ii ?_);have fH:=Qh jH;clear jH q0 q1 q2 p0 p1 p2;go_wp2;go_roundg (gk-1);exact⟨k+1,by omega,by go_num,fH.out⟩;omega
  ·obtain rfl:k=txs.length:=by omega
   have hu1:=hu;clear aI;go_wp2
   go_loopg [45] ords.length (fun gk s wr=>∃(k:Nat),k+gk=ords.length∧s= Qi (k:Int)∧Upd No wb wr)
   case atStart=>exact⟨0,by omega,rfl,hu1⟩
   case round=>
    obtain⟨k,aI,rfl,hu⟩:=hrel
    by_cases hlt:k<ords.length
    ·have hlt2:k<o2.length:=by have:=HE.out.2;omega
     obtain⟨x,hx⟩:=Qe (ords[k]);obtain⟨y,hy⟩:=Qe (o2[k])
     have hxy:x.nrm=y.nrm:=by
      have:=congrArg (fun l=>l[k]?) HN.out.2;simp only[List.getElem?_map,Qg hlt,Qg hlt2,Option.map_some,Gy]at this;rw[hx,hy]at this;exact this
     have hQ:=fun W (u:Upd No wb W)=>Zhl (HB.out.ords.upd u Qo) hlt
     have kW:=fun W (u:Upd No wb W)=>Zhl (dR.out.ords.upd u Qo) hlt2
     obtain⟨ad,hA,-⟩:=hQ wb hbz;obtain⟨ad2,iG,-⟩:=kW wb hbz;simp only at hA iG;have bK:=HB.out.ord ords[k] (Hg hlt);have l5:=dR.out.ord o2[k] (Hg hlt2);rw[hx]at bK;rw[hy]at l5;have hk:y.key=x.key:=(ZqE hxy).1.symm;have ht:y.txs=x.txs:=(ZqE hxy).2.symm;have E8:=ZqU HL.out (o:=x) (by rw[<-hx];exact Hg hlt);have q0:∀W,Upd No wb W->W.cell? (ad.add (k*2))=some (Qi x.key):=fun W u=>by obtain⟨a',e,c0,_⟩:=hQ W u;simp only at e c0;rw[hA]at e;cases e;rw[hx]at c0;exact c0
     have q1:∀W,Upd No wb W->W.cell? ⟨(ad.add (k*2)).block,(ad.add (k*2)).off+1,none⟩=some (.slice x.A x.txs.length x.c):=fun W u=>by obtain⟨a',e,_,c0⟩:=hQ W u;simp only at e c0;rw[hA]at e;cases e;rw[hx]at c0;exact c0
     have p0:∀W,Upd No wb W->W.cell? (ad2.add (k*2))=some (Qi x.key):=fun W u=>by obtain⟨a',e,c0,_⟩:=kW W u;simp only at e c0;rw[iG]at e;cases e;rw[hy,hk]at c0;exact c0
     have p1:∀W,Upd No wb W->W.cell? ⟨(ad2.add (k*2)).block,(ad2.add (k*2)).off+1,none⟩=some (.slice y.A x.txs.length y.c):=fun W u=>by obtain⟨a',e,_,c0⟩:=kW W u;simp only at e c0;rw[iG]at e;cases e;rw[hy,ht]at c0;exact c0
     have hi2:Ints G wb y.A x.txs:=by rw[<-ht];exact l5.1
     have HC:=Qh (fun W (u:Upd No wb W)=>Zsr (F:=F) (G:=G) (w:=W) (k:=x.key) (c:=x.c) (d:=y.c) (bK.1.upd u Qo) (hi2.upd u Qo) (by omega));subst hA iG;have b1:(0:Int)<=(k:Int):=Qn _;have b2:(k:Int)<(ords.length:Int):=by omega
     clear hQ kW bK l5 hx hy hxy hlt2 hk ht E8 hi2;go_wp2;refine wpS (fun W'=>Upd No wb W') ?_ fun jH=>?_
     ·(first|exact hu.drew|exact jH|exact jH.trans hu6)
     (iterate 10 refine wpF ?_);refine wpZ 10 rfl fun K hK=>?_;go_simp
     (first
  |(go_at_call 47;refine Ck (HC.out _ jH) fun w6 hu6=>?_))
     try (go_wp2_with fail)
     refine hK.out _ _ ?_ fun jH=>?_
     ·(first|exact hu.drew|exact jH|exact jH.trans hu6)
     try simp only[Qa]
     refine wpK 11 rfl ?_;refine wpD (Ii ?_);have fH:=Qh jH;clear jH q0 q1 p0 p1;go_wp2;go_roundg (gk-1);exact⟨k+1,by omega,by go_num,fH.out⟩;omega
    ·obtain rfl:k=ords.length:=by omega
     go_wp2;go_ret;exact⟨rfl,UB.out.trans hu⟩
