/- Phenomena, plain: one brings another; where there is an order that goes along there is none. -/
import Derived.Test.YtdbjokfejmgepaaProg
import Derived.StillTailTactics
import Derived.Sort.Row
import Derived.Test.YtdbjokfejmgepaaRaac
import Derived.Test.YtdbjokfejmgepaaRaad
import Derived.Test.YtdbjokfejmgepaaRaaf
import Derived.Test.YtdbjokfejmgepaaRaai
import Derived.Test.YtdbjokfejmgepaaRaak
import Derived.Test.YtdbjokfejmgepaaRaam
import Derived.Test.YtdbjokfejmgepaaRaaq
import Derived.Test.YtdbjokfejmgepaaRaay
import Derived.Test.YtdbjokfejmgepaaRabg
import Derived.Test.YtdbjokfejmgepaaRabl
import Derived.Test.YtdbjokfejmgepaaRabo
import Derived.Test.YtdbjokfejmgepaaRabp
import Derived.Test.YtdbjokfejmgepaaRabq
import Derived.Test.YtdbjokfejmgepaaRabr
import Derived.Test.YtdbjokfejmgepaaRabs
namespace Go.Proofs.Ytdbjokfejmgepaa
set_option linter.unusedVariables false
set_option linter.unusedSimpArgs false
section
theorem RchE.mono {D D':List Edge} (h:∀e∈D,e∈D') {x y:Int} (k:RchE D x y):RchE D' x y:=by
 induction k with
 |refl=>exact RchE.refl _
 |step _ h2 h3 ih=>exact ih.step (h _ h2) h3
end
/- Components of a digraph:the nodes under way,in memory. -/
section
open Go.RowKit
structure VF where
 node:Nat
 l:List Nat
 A:Option Addr
 c:Nat
def VF.cells (f:VF):List Value:=[.int .i64 (f.node:Int),.slice f.A f.l.length f.c]
def VF.fr (f:VF):Nat×List Nat:=(f.node,f.l)
def VFs (w:World) (NB:Nat→Prop) (fs:List VF):Prop:=∀f∈fs,Ints NB w f.A (f.l.map fun x:Nat=>(x:Int))∧f.l.length≤f.c
theorem VFs.upd {w w':World} {NB S:Nat→Prop} {fs:List VF} (h:VFs w NB fs) (k:Upd S w w') (hn:∀i,NB i→¬S i):VFs w' NB fs:=fun f hf=>⟨(h f hf).1.upd k hn,(h f hf).2⟩
end
/- Components of a digraph:the labels of all nodes (scc.Labels). -/
section
open Go.RowKit
theorem Zlj:SlT Try.prog 50 3 1 8:=SlT.mk_ Try.underlying50 (z:= .int .i64 0) (by kernel_rfl) rfl (by omega)
end
/- Components of a digraph:parts that grow,in memory:an own row of own rows. -/
section
open Go.RowKit
structure PV where
 A:Option Addr
 c:Nat
 l:List Nat
def PV.v (p:PV):Value:= .slice p.A p.l.length p.c
def Zk7 (l:List Nat):List Value:=l.map fun x:Nat=>Value.int .i64 (x:Int)
structure PartsW (w:World) (base:Nat) (O:Value) (ps:List PV):Prop where
 own:w.ownsRow base 50 1 O ps.length (ps.map PV.v)
 rows:∀(i:Nat) (p:PV),ps[i]? =some p→w.ownsRow base 3 1 p.v p.l.length (Zk7 p.l)
 apart:∀(i:Nat) (p:PV),ps[i]? =some p→∀k,Own p.v k→¬Own O k
 two:∀(i j:Nat) (p q:PV),i≠j→ps[i]? =some p→ps[j]? =some q→∀k,Own p.v k→¬Own q.v k
theorem PartsW.nil (w:World) (base:Nat):PartsW w base (.slice none 0 0) []:=⟨World.ownsRow_nil _ _ _ _,fun i p h=>by simp at h,fun i p h=>by simp at h,fun i j p q _ h=>by simp at h⟩
theorem PartsW.upd {w w':World} {base:Nat} {O:Value} {ps:List PV} {S:Nat→Prop} (h:PartsW w base O ps) (u:Upd S w w') (hS:∀i,base≤i→¬S i):PartsW w' base O ps:=
 ⟨Zc h.own u (fun i e=>hS i (h.own.lt i e).1),fun i p hp=>Zc (h.rows i p hp) u (fun k e=>hS k ((h.rows i p hp).lt k e).1),h.apart,h.two⟩
theorem PartsW.push {w w':World} {base g cap:Nat} {O:Value} {ps:List PV} (h:PartsW w base O ps) (ho:w'.ownsRow base 50 1 (.slice (some ⟨g,0,none⟩) (ps.length+1) cap) (ps.length+1) (ps.map PV.v++[.slice none 0 0])) (u:Upd (Own O) w w')
  (hg:∀i,i=g→Own O i∨w.heap.size≤i):PartsW w' base (.slice (some ⟨g,0,none⟩) (ps.length+1) cap) (ps++[⟨none,0,[]⟩]):=by
 have key:∀(i:Nat) (p:PV),(ps++[⟨none,0,[]⟩])[i]? =some p→ps[i]? =some p∨p=⟨none,0,[]⟩:=by
  intro i p hp;rw[List.getElem?_append]at hp
  split at hp
  ·exact Or.inl hp
  ·right
   obtain⟨_,e⟩:=List.getElem?_eq_some_iff.1 hp;simp at e;exact e.symm
 have e1:∀(q:PV) (k:Nat),q=⟨none,0,[]⟩→¬Own q.v k:=by
  rintro q k rfl e;simp[Own,PV.v,Value.ownBlock]at e
 refine⟨?_,fun i p hp=> ?_,fun i p hp k hk=> ?_,fun i j p q hij hp hq k hk hk2=> ?_⟩
 ·rw[List.length_append,List.map_append];exact ho
 ·rcases key i p hp with hp|rfl
  ·exact Zc (h.rows i p hp) u (fun k e=>h.apart i p hp k e)
  ·exact World.ownsRow_nil _ _ _ _
 ·rcases key i p hp with hp|hp
  ·intro e;have e':g=k:=by simpa[Own,Value.ownBlock]using e
   rcases hg k e'.symm with h1|h1
   ·exact h.apart i p hp k hk h1
   ·have:=((h.rows i p hp).lt k hk).2;omega
  ·exact absurd hk (e1 p k hp)
 ·rcases key i p hp with hp|hp
  ·rcases key j q hq with hq|hq
   ·exact h.two i j p q hij hp hq k hk hk2
   ·exact absurd hk2 (e1 q k hq)
  ·exact absurd hk (e1 p k hp)
theorem PartsW.add {w w':World} {base j:Nat} {O:Value} {ps:List PV} {p p':PV} {S:Nat→Prop} (h:PartsW w base O ps) (hj:ps[j]? =some p) (u:Upd S w w') (hS:∀i,S i→Own p.v i∨Own O i)
  (ho:w'.ownsRow base 50 1 O ps.length ((ps.map PV.v).set j p'.v)) (hr:w'.ownsRow base 3 1 p'.v p'.l.length (Zk7 p'.l)) (hg:∀i,Own p'.v i→Own p.v i∨w.heap.size≤i):
  PartsW w' base O (ps.set j p'):=by
 have hl:j<ps.length:=(List.getElem?_eq_some_iff.1 hj).1
 have key:∀(i:Nat) (q:PV),(ps.set j p')[i]? =some q→(i≠j∧ps[i]? =some q)∨(i=j∧q=p'):=by
  intro i q hq;rw[List.getElem?_set]at hq
  by_cases e:j=i
  ·rw[if_pos e]at hq
   by_cases e2:i<ps.length
   ·rw[if_pos (by omega)]at hq;exact Or.inr ⟨e.symm,(Option.some.inj hq).symm⟩
   ·omega
  ·rw[if_neg e]at hq;exact Or.inl ⟨fun e'=>e e'.symm,hq⟩
 refine⟨?_,fun i q hq=> ?_,fun i q hq k hk hO=> ?_,fun i i' q q' hij hq hq' k hk hk2=> ?_⟩
 ·rw[List.length_set,List.map_set];exact ho
 ·rcases key i q hq with ⟨hne,hq⟩|⟨rfl,rfl⟩
  ·exact Zc (h.rows i q hq) u (fun k e hs=>(hS k hs).elim (fun e2=>h.two i j q p hne hq hj k e e2) (fun e2=>h.apart i q hq k e e2))
  ·exact hr
 ·rcases key i q hq with ⟨hne,hq⟩|⟨rfl,rfl⟩
  ·exact h.apart i q hq k hk hO
  ·rcases hg k hk with h1|h1
   ·exact h.apart i p hj k h1 hO
   ·have:=(h.own.lt k hO).2;omega
 ·rcases key i q hq with ⟨hne,hq⟩|⟨e1,e2⟩
  ·rcases key i' q' hq' with ⟨hne',hq'⟩|⟨e1,e2⟩
   ·exact h.two i i' q q' hij hq hq' k hk hk2
   ·rw[e1]at hij;rw[e2]at hk2;rcases hg k hk2 with h1|h1
    ·exact h.two i j q p hij hq hj k hk h1
    ·have:=((h.rows i q hq).lt k hk).2;omega
  ·rcases key i' q' hq' with ⟨hne',hq'⟩|⟨e3,e4⟩
   ·rw[e2]at hk;rcases hg k hk with h1|h1
    ·exact h.two j i' p q' (fun e=>hne' e.symm) hj hq' k h1 hk2
    ·have:=((h.rows i' q' hq').lt k hk2).2;omega
   ·exact hij (e1.trans e3.symm)
end
/- Components of a digraph,the document's:who is reached (tenterref23.Reach). -/
section
open Go.RowKit
theorem ZdW (w:World) (F:Nat→Prop) (A:Option Addr) (c:Nat) (l:List Int) (a:Int) (h:Ints F w A l) (hl:l.length≤4398046511103) {v:Bool} (hv:decide (a∈l)=v):
  Calls Try.prog 82 #[.slice A l.length c,.int .i64 a] w fun e w'=>e= .returned (.bool v)∧w=w':=by
 subst hv;exact ZkZ w F A c l a h hl
end
/- Phenomena,the document's:who is reached by edges (tenterref30.reaches). -/
section
open Go.RowKit
set_option maxRecDepth 100000 in
set_option maxHeartbeats 4000000 in
theorem Zih (F:Nat→Prop) (w:World) (A:Option Addr) (c:Nat) (l:List Edge) (i0:Int) (h:Walk F w A l) (hl:l.length≤2000):
  Calls Try.prog 88 #[.slice A l.length c,.int .i64 i0] w (ZmM w (ZP l i0)):=by
 have HA:=Qh h;have HO1:=Qh (show(w.alloc (.cells #[.int .i64 i0] 3)).ownsRow w.heap.size 3 1 (.slice (some ⟨w.heap.size,0,none⟩) 1 1) 1 ([i0].map (Value.int .i64)) from Zdu (Blk.new w _ _) (Nat.le_refl _) (Nat.le_refl _) rfl rfl (by decide) rfl);have HU1:=Qh (show Upd No w (w.alloc (.cells #[.int .i64 i0] 3)) from(Upd.refl No w).alloc _);have H0:=Qh (show itE l (l.length+1) [i0]=ZP l i0 from rfl);clear h
 go_enter Try.func88,Try.ntmps88
 go_wp2
 go_loopg [5,6] (l.length+1) (fun gk s i wr=>∃(k:Nat) (A5:Option Addr) (c5:Nat) (xs:List Int),k+gk=l.length+1∧i= .int .i64 (k:Int)∧s= .slice A5 xs.length c5∧Hid (itE l gk xs=ZP l i0)∧Hid (xs.length≤1+k*l.length)∧
  Hid (wr.ownsRow w.heap.size 3 1 (.slice A5 xs.length c5) xs.length (xs.map (Value.int .i64)))∧Hid (Upd No w wr))
 case atStart=>exact⟨0,some ⟨w.heap.size,0,none⟩,1,[i0],by omega,rfl,rfl,H0,Qh (by simp),HO1,HU1⟩
 case round=>
  clear H0 HO1 HU1;obtain⟨k,A5,c5,xs,hgk,rfl,rfl,hs,hxl,hown,hu⟩:=hrel
  by_cases hk:k<l.length+1
  ·obtain⟨g1,rfl⟩:∃g1,gk=g1+1:=⟨gk-1,by omega⟩;have e1:(k:Int)≤(l.length:Int):=by omega
   obtain⟨RR,hRR⟩:∃RR,Zb2 xs l=RR:=⟨_,rfl⟩;have HS:=Qh (show itE l g1 RR=ZP l i0 by rw[←hRR];exact hs.out);have HR0:=Qh (show Zb2 xs (l.drop 0)=RR by rw[List.drop_zero];exact hRR);obtain⟨wo,hwo⟩:∃wo,wo=wr:=⟨_,rfl⟩;subst hwo;have kw:IntKind.i64.wrap ((k:Int)+1)=(k:Int)+1:=IntWalk.i64_in _ (by omega);have hxx:xs.length≤1+2000*2000:=Nat.le_trans hxl.out (Nat.add_le_add_left (Nat.mul_le_mul (by omega) hl) _);clear hs hRR;go_wp2
   generalize hm0:g1+1=m0 at*
   go_loopg [5,19] l.length (fun gk s i wx=>∃(j:Nat) (A6:Option Addr) (c6:Nat) (ys:List Int),j+gk=l.length∧i= .int .i64 (j:Int)∧s= .slice A6 ys.length c6∧Hid (Zb2 ys (l.drop j)=RR)∧Hid (ys.length≤xs.length+j)∧
    Hid (wx.ownsRow w.heap.size 3 1 (.slice A6 ys.length c6) ys.length (ys.map (Value.int .i64)))∧Hid (Upd No w wx))
   case atStart=>exact⟨0,A5,c5,xs,by omega,rfl,rfl,HR0,Qh (by omega),hown,hu⟩
   case round=>
    clear HR0;obtain⟨j,A6,c6,ys,hgj,rfl,rfl,hr,hyl,hown6,hu6⟩:=hrel
    by_cases hj:j<l.length
    ·obtain⟨ax,rfl,q0,q1,q2,q3⟩:=(HA.out.upd hu6.out (fun _ _=>id)).at_ hj;obtain⟨x,hx⟩:∃x,l[j]=x:=⟨_,rfl⟩;rw[hx]at q0 q1 q2 q3;have hst:=hr.out;rw[show l.drop j=x::l.drop (j+1) by rw[←hx];exact List.drop_eq_getElem_cons hj]at hst;have hst:Zb2 (if x.f∈ys∧x.t∉ys then ys++[x.t] else ys) (l.drop (j+1))=RR:=hst;clear hx hr;have b1:(0:Int)≤(j:Int):=Qn _;have b2:(j:Int)<(l.length:Int):=by omega
     have jw:IntKind.i64.wrap ((j:Int)+1)=(j:Int)+1:=IntWalk.i64_in _ (by omega);have uA:=(Upd.refl No wr).alloc (.cells #[.int .i64 x.f,.int .i64 x.t,.int .i64 x.k,.int .i64 x.key] 89);have bo:=Blk.new wr 89 [.int .i64 x.f,.int .i64 x.t,.int .i64 x.k,.int .i64 x.key];have HO6:=Qh (Zc hown6.out uA (fun _ _=>id));have g0:=bo.cell 0;have g1:=bo.cell 1;simp only[Qz,Qs]at g0 g1;have HU6:=Qh (hu6.out.trans uA);have HZ:=Qh HU6.out.size;have hyy:ys.length≤5000000:=by have:=hyl.out;omega
     have HI6:=Qh (Ints.of_own HO6.out);clear uA bo hown6 hu6
     by_cases hf:x.f∈ys
     ·have HF:=Qh (ZdW _ _ A6 c6 ys x.f HI6.out (by omega) (decide_eq_true hf))
      by_cases ht:x.t∈ys
      ·have HT:=Qh (ZdW _ _ A6 c6 ys x.t HI6.out (by omega) (decide_eq_true ht));have HST:=Qh (show Zb2 ys (l.drop (j+1))=RR by rw[if_neg (fun e=>e.2 ht)]at hst;exact hst);clear hst hf ht
       go_wp2_with fail
       refine(HF.out).mono ?_;rintro e w2 ⟨rfl,rfl⟩
       go_wp2_with fail
       refine(HT.out).mono ?_;rintro e w2 ⟨rfl,rfl⟩;go_wp2
       go_roundg (gk-1)
       case measure=>omega
       case rel=>exact⟨j+1,A6,c6,ys,by omega,by simp,rfl,HST,Qh (by have:=hyl.out;omega),HO6,HU6⟩
      ·have HT:=Qh (ZdW _ _ A6 c6 ys x.t HI6.out (by omega) (decide_eq_false ht));have HST:=Qh (show Zb2 (ys++[x.t]) (l.drop (j+1))=RR by rw[if_pos ⟨hf,ht⟩]at hst;exact hst);clear hst hf ht
       go_wp2_with fail
       refine(HF.out).mono ?_;rintro e w2 ⟨rfl,rfl⟩
       go_wp2_with fail
       refine(HT.out).mono ?_;rintro e w2 ⟨rfl,rfl⟩
       go_wp2_with (at_builtin;refine ZS rfl rfl Zlj (v:= .slice A6 ys.length c6) (n:=ys.length) (xs:=ys.map (Value.int .i64)) (cells:=[.int .i64 x.t]) (c:=1) (by rfl) (by show Value.slice (some ⟨wr.heap.size+1,0,none⟩) 1 1=_;simp) HO6.out rfl rfl (by omega) (by omega) HZ.out ?_;intro g9 c9 w9 hown9 hu9 hg9 hlt9;have HO9:=Qh hown9;have HU9:=Qh hu9;clear hown9 hu9 hg9 hlt9)
       go_roundg (gk-1)
       case measure=>omega
       case rel=>exact⟨j+1,some ⟨g9,0,none⟩,c9,ys++[x.t],by omega,by simp,by simp,HST,Qh (by simp;have:=hyl.out;omega),Qh (by simpa using HO9.out),Qh (HU6.out.then_ HU9.out (fun i e=>Or.inr (HO6.out.lt i e).1))⟩
     ·have HF:=Qh (ZdW _ _ A6 c6 ys x.f HI6.out (by omega) (decide_eq_false hf));have HST:=Qh (show Zb2 ys (l.drop (j+1))=RR by rw[if_neg (fun e=>hf e.1)]at hst;exact hst);clear hst hf
      go_wp2_with fail
      refine(HF.out).mono ?_;rintro e w2 ⟨rfl,rfl⟩;go_wp2
      go_roundg (gk-1)
      case measure=>omega
      case rel=>exact⟨j+1,A6,c6,ys,by omega,by simp,rfl,HST,Qh (by have:=hyl.out;omega),HO6,HU6⟩
    ·obtain rfl:j=l.length:=by omega
     have HY:=Qh (show ys=RR by have:=hr.out;rw[List.drop_length]at this;exact this);clear hr;go_wp2
     go_roundg (m0-1)
     case measure=>omega
     case rel=>exact⟨k+1,A6,c6,ys,by omega,by simp,rfl,Qh (by rw[HY.out,←hm0];exact HS.out),Qh (by have:=hyl.out;have:=hxl.out;rw[Nat.succ_mul];omega),hown6,hu6⟩
  ·obtain rfl:k=l.length+1:=by omega
   obtain rfl:gk=0:=by omega
   have HX:=Qh (show xs=ZP l i0 from hs.out);have e1:¬(((l.length+1:Nat):Int)≤(l.length:Int)):=by omega
   clear hs;go_wp2
   go_ret
   rw[←HX.out];exact⟨A5,c5,rfl,hown.out,hu.out⟩
end
/- Phenomena,the document's:whether there is a closed walk (tenterref30.Round). -/
section
open Go.RowKit
set_option maxRecDepth 100000 in
set_option maxHeartbeats 4000000 in
theorem Zkc (F:Nat→Prop) (w:World) (A:Option Addr) (c:Nat) (l:List Edge) (mask must:Int) (h:Walk F w A l) (hl:l.length≤2000):
  Calls Try.prog 63 #[.slice A l.length c,.int .i64 mask,.int .i64 must] w fun e w'=>e= .returned (.bool (ZdV l mask must))∧Upd No w w':=by
 obtain⟨q,hq⟩:∃q,(l.filter fun e=>Zh mask e.k)=q:=⟨_,rfl⟩;obtain⟨q2,hq2⟩:∃q2,(q.filter fun e=>Zh must e.k)=q2:=⟨_,rfl⟩;have hql:q.length≤2000:=by rw[←hq];exact Nat.le_trans (List.length_filter_le _ _) hl
 have hql2:q2.length≤2000:=by rw[←hq2];exact Nat.le_trans (List.length_filter_le _ _) hql
 obtain⟨b,hb⟩:∃b,ZdV l mask must=b:=⟨_,rfl⟩;have hbb:((if (bits .and .i64 must 14==0)=true then q else q2).any fun e=>decide (e.f∈ZP q e.t))=b:=by rw[←hb];unfold ZdV;simp only[hq,hq2]
 rw[hb];have C1:=Qh (ZiC F w A c l mask h (by omega));rw[hq]at C1;clear hb hq h
 cases hm:(bits .and .i64 must 14==0)
 ·rw[hm,if_neg (by decide)]at hbb;have HB:=Qh hbb;clear hbb
  go_enter Try.func63,Try.ntmps63
  go_wp2_with fail
  refine(C1.out).mono ?_;rintro e w1 ⟨A1,c1,rfl,ho1,hu1⟩;have hx1:Walk (fun i=>w.heap.size≤i) w1 A1 q:=Recs.weak (Recs.of_own Za5 (by omega) ho1) (fun i _ e=>(ho1.lt i e).1);have C2:=Qh (ZiC _ w1 A1 c1 q must hx1 (by omega));rw[hq2]at C2
  go_wp2_with fail
  refine(C2.out).mono ?_;rintro e w2 ⟨A2,c2,rfl,ho2,hu2⟩;have HQ:=Qh (hx1.upd hu2 (fun _ _=>id));have HS:Hid (Walk (fun i=>w1.heap.size≤i) w2 A2 q2):=Qh (Recs.weak (Recs.of_own Za5 (by omega) ho2) (fun i _ e=>(ho2.lt i e).1));have HU2:=Qh (hu1.trans hu2);clear hx1 ho1 ho2 hu1 hu2 C1 C2 hq2;go_wp2
  go_loopg [23] q2.length (fun gk i wr=>∃k:Nat,k+gk=q2.length∧i= .int .i64 (k:Int)∧Hid (((q2).drop k).any (fun e=>decide (e.f∈ZP q e.t))=b)∧Hid (Upd No w2 wr))
  case atStart=>exact⟨0,by omega,rfl,Qh (by rw[List.drop_zero];exact HB.out),Qh (Upd.refl _ _)⟩
  case round=>
   clear HB;obtain⟨k,hgk,rfl,hs,hu⟩:=hrel
   by_cases hk:k<q2.length
   ·obtain⟨ax,rfl,q0,q1,q2',q3⟩:=(HS.out.upd hu.out (fun _ _=>id)).at_ hk;obtain⟨x,hx⟩:∃x,q2[k]=x:=⟨_,rfl⟩;rw[hx]at q0 q1 q2' q3;have hst:=hs.out;rw[show(q2).drop k=x::(q2).drop (k+1) by rw[←hx];exact List.drop_eq_getElem_cons hk,List.any_cons]at hst;have HST:=Qh hst;clear hx hs hst;have b1:(0:Int)≤(k:Int):=Qn _;have b2:(k:Int)<(q2.length:Int):=by omega
    have jw:IntKind.i64.wrap ((k:Int)+1)=(k:Int)+1:=IntWalk.i64_in _ (by omega);obtain⟨wz,hwz⟩:∃wz,wr.alloc (.cells #[.int .i64 x.f,.int .i64 x.t,.int .i64 x.k,.int .i64 x.key] 89)=wz:=⟨_,rfl⟩;have uz:Upd No wr wz:=by rw[←hwz];exact(Upd.refl No wr).alloc _
    have bo:Blk wz wr.heap.size 89 [.int .i64 x.f,.int .i64 x.t,.int .i64 x.k,.int .i64 x.key]:=by rw[←hwz];exact Blk.new wr _ _
    have g0:∀W,Upd No wz W→W.cell? ⟨wr.heap.size,0,none⟩=some (.int .i64 x.f):=fun W u=>(bo.upd u id).cell 0
    have g1:∀W,Upd No wz W→W.cell? ⟨wr.heap.size,1,none⟩=some (.int .i64 x.t):=fun W u=>(bo.upd u id).cell 1
    have HU:=Qh (hu.out.trans uz);have CR:=Qh (fun W (u:Upd No wz W)=>Zih _ W _ c1 q x.t (HQ.out.upd ((hu.out.trans uz).trans u) (fun _ _=>id)) (by omega));have HRL:=Qh (Zfl q x.t);have hzz:Upd No wz wz:=Upd.refl _ _;clear uz bo hu
    cases hin:decide (x.f∈ZP q x.t)
    ·have HIN:=Qh hin;have HN:=Qh (show((q2).drop (k+1)).any (fun e=>decide (e.f∈ZP q e.t))=b by have:=HST.out;rw[hin,Bool.false_or]at this;exact this);clear hin;go_wp2;refine wp_region_noPanic ?_;refine wp_region_held_drew (S:=(fun W'=>Upd No wz W')) (by kernel_rfl) ?_ (fun hHeld=> ?_)
     ·(first|exact hzz.drew|exact hHeld.trans hu3|exact hHeld)
     refine wpK 0 rfl ?_;refine wpK 1 rfl ?_;refine wpK 2 rfl ?_;refine wpK 4 rfl ?_;refine wpK 5 rfl ?_;refine wpR [3] ?_;refine wpC rfl (fun K hK=> ?_) AllReadyH.nil;go_simp
     (first
  |(go_at_call 88;refine(CR.out _ hHeld).mono ?_;rintro e w3 ⟨A3,c3,rfl,ho3,hu3⟩;have HI3:=Qh (Ints.of_own ho3);clear ho3))
     try (go_wp2_with fail)
     refine hK.out _ _ ?_ (fun hHeld=> ?_)
     ·(first|exact hzz.drew|exact hHeld.trans hu3|exact hHeld)
     clear hK K
     try simp only[Act.put,sT,sS,sZ]
     refine wpR [6] ?_;refine wpC rfl (fun K hK=> ?_) AllReadyH.nil;go_simp
     (first
  |(go_at_call 82;refine(ZdW _ _ A3 c3 (ZP q x.t) x.f HI3.out (by have:=HRL.out;omega) HIN.out).mono ?_;rintro e w4 ⟨rfl,rfl⟩))
     try (go_wp2_with fail)
     refine hK.out _ _ ?_ (fun hHeld=> ?_)
     ·(first|exact hzz.drew|exact hHeld.trans hu3|exact hHeld)
     clear hK K
     try simp only[Act.put,sT,sS,sZ]
     refine wpD (NoPanic.normal ?_);have HU3:=Qh (HU.out.trans hHeld);clear hHeld;go_wp2
     go_roundg (gk-1)
     case measure=>omega
     case rel=>exact⟨k+1,by omega,by simp,HN,HU3⟩
    ·have HIN:=Qh hin;have HN:=Qh (show true=b by have:=HST.out;rw[hin,Bool.true_or]at this;exact this);clear hin;go_wp2;refine wp_region_noPanic ?_;refine wp_region_held_drew (S:=(fun W'=>Upd No wz W')) (by kernel_rfl) ?_ (fun hHeld=> ?_)
     ·(first|exact hzz.drew|exact hHeld.trans hu3|exact hHeld)
     refine wpK 0 rfl ?_;refine wpK 1 rfl ?_;refine wpK 2 rfl ?_;refine wpK 4 rfl ?_;refine wpK 5 rfl ?_;refine wpR [3] ?_;refine wpC rfl (fun K hK=> ?_) AllReadyH.nil;go_simp
     (first
  |(go_at_call 88;refine(CR.out _ hHeld).mono ?_;rintro e w3 ⟨A3,c3,rfl,ho3,hu3⟩;have HI3:=Qh (Ints.of_own ho3);clear ho3))
     try (go_wp2_with fail)
     refine hK.out _ _ ?_ (fun hHeld=> ?_)
     ·(first|exact hzz.drew|exact hHeld.trans hu3|exact hHeld)
     clear hK K
     try simp only[Act.put,sT,sS,sZ]
     refine wpR [6] ?_;refine wpC rfl (fun K hK=> ?_) AllReadyH.nil;go_simp
     (first
  |(go_at_call 82;refine(ZdW _ _ A3 c3 (ZP q x.t) x.f HI3.out (by have:=HRL.out;omega) HIN.out).mono ?_;rintro e w4 ⟨rfl,rfl⟩))
     try (go_wp2_with fail)
     refine hK.out _ _ ?_ (fun hHeld=> ?_)
     ·(first|exact hzz.drew|exact hHeld.trans hu3|exact hHeld)
     clear hK K
     try simp only[Act.put,sT,sS,sZ]
     refine wpD (NoPanic.normal ?_);have HU3:=Qh (HU.out.trans hHeld);clear hHeld;go_wp2
     go_ret
     exact⟨by rw[←HN.out];rfl,HU2.out.trans HU3.out⟩
   ·obtain rfl:k=q2.length:=by omega
    have HN:=Qh (show false=b by have:=hs.out;rw[List.drop_length]at this;exact this);clear hs;go_wp2
    go_ret
    exact⟨by rw[←HN.out];rfl,HU2.out.trans hu.out⟩
 ·rw[hm,if_pos rfl]at hbb;have HB:=Qh hbb;clear hbb
  go_enter Try.func63,Try.ntmps63
  go_wp2_with fail
  refine(C1.out).mono ?_;rintro e w1 ⟨A1,c1,rfl,ho1,hu1⟩;have hx1:Walk (fun i=>w.heap.size≤i) w1 A1 q:=Recs.weak (Recs.of_own Za5 (by omega) ho1) (fun i _ e=>(ho1.lt i e).1);have C2:=Qh (ZiC _ w1 A1 c1 q must hx1 (by omega))
  go_wp2_with fail
  refine(C2.out).mono ?_;rintro e w2 ⟨A2,c2,rfl,ho2,hu2⟩;have HQ:=Qh (hx1.upd hu2 (fun _ _=>id));have HS:=Qh HQ.out;have HU2:=Qh (hu1.trans hu2);clear hx1 ho1 ho2 hu1 hu2 C1 C2 hq2;go_wp2
  go_loopg [23] q.length (fun gk i wr=>∃k:Nat,k+gk=q.length∧i= .int .i64 (k:Int)∧Hid (((q).drop k).any (fun e=>decide (e.f∈ZP q e.t))=b)∧Hid (Upd No w2 wr))
  case atStart=>exact⟨0,by omega,rfl,Qh (by rw[List.drop_zero];exact HB.out),Qh (Upd.refl _ _)⟩
  case round=>
   clear HB;obtain⟨k,hgk,rfl,hs,hu⟩:=hrel
   by_cases hk:k<q.length
   ·obtain⟨ax,rfl,q0,q1,q2',q3⟩:=(HS.out.upd hu.out (fun _ _=>id)).at_ hk;obtain⟨x,hx⟩:∃x,q[k]=x:=⟨_,rfl⟩;rw[hx]at q0 q1 q2' q3;have hst:=hs.out;rw[show(q).drop k=x::(q).drop (k+1) by rw[←hx];exact List.drop_eq_getElem_cons hk,List.any_cons]at hst;have HST:=Qh hst;clear hx hs hst;have b1:(0:Int)≤(k:Int):=Qn _;have b2:(k:Int)<(q.length:Int):=by omega
    have jw:IntKind.i64.wrap ((k:Int)+1)=(k:Int)+1:=IntWalk.i64_in _ (by omega);obtain⟨wz,hwz⟩:∃wz,wr.alloc (.cells #[.int .i64 x.f,.int .i64 x.t,.int .i64 x.k,.int .i64 x.key] 89)=wz:=⟨_,rfl⟩;have uz:Upd No wr wz:=by rw[←hwz];exact(Upd.refl No wr).alloc _
    have bo:Blk wz wr.heap.size 89 [.int .i64 x.f,.int .i64 x.t,.int .i64 x.k,.int .i64 x.key]:=by rw[←hwz];exact Blk.new wr _ _
    have g0:∀W,Upd No wz W→W.cell? ⟨wr.heap.size,0,none⟩=some (.int .i64 x.f):=fun W u=>(bo.upd u id).cell 0
    have g1:∀W,Upd No wz W→W.cell? ⟨wr.heap.size,1,none⟩=some (.int .i64 x.t):=fun W u=>(bo.upd u id).cell 1
    have HU:=Qh (hu.out.trans uz);have CR:=Qh (fun W (u:Upd No wz W)=>Zih _ W _ c1 q x.t (HQ.out.upd ((hu.out.trans uz).trans u) (fun _ _=>id)) (by omega));have HRL:=Qh (Zfl q x.t);have hzz:Upd No wz wz:=Upd.refl _ _;clear uz bo hu
    cases hin:decide (x.f∈ZP q x.t)
    ·have HIN:=Qh hin;have HN:=Qh (show((q).drop (k+1)).any (fun e=>decide (e.f∈ZP q e.t))=b by have:=HST.out;rw[hin,Bool.false_or]at this;exact this);clear hin;go_wp2;refine wp_region_noPanic ?_;refine wp_region_held_drew (S:=(fun W'=>Upd No wz W')) (by kernel_rfl) ?_ (fun hHeld=> ?_)
     ·(first|exact hzz.drew|exact hHeld.trans hu3|exact hHeld)
     refine wpK 0 rfl ?_;refine wpK 1 rfl ?_;refine wpK 2 rfl ?_;refine wpK 4 rfl ?_;refine wpK 5 rfl ?_;refine wpR [3] ?_;refine wpC rfl (fun K hK=> ?_) AllReadyH.nil;go_simp
     (first
  |(go_at_call 88;refine(CR.out _ hHeld).mono ?_;rintro e w3 ⟨A3,c3,rfl,ho3,hu3⟩;have HI3:=Qh (Ints.of_own ho3);clear ho3))
     try (go_wp2_with fail)
     refine hK.out _ _ ?_ (fun hHeld=> ?_)
     ·(first|exact hzz.drew|exact hHeld.trans hu3|exact hHeld)
     clear hK K
     try simp only[Act.put,sT,sS,sZ]
     refine wpR [6] ?_;refine wpC rfl (fun K hK=> ?_) AllReadyH.nil;go_simp
     (first
  |(go_at_call 82;refine(ZdW _ _ A3 c3 (ZP q x.t) x.f HI3.out (by have:=HRL.out;omega) HIN.out).mono ?_;rintro e w4 ⟨rfl,rfl⟩))
     try (go_wp2_with fail)
     refine hK.out _ _ ?_ (fun hHeld=> ?_)
     ·(first|exact hzz.drew|exact hHeld.trans hu3|exact hHeld)
     clear hK K
     try simp only[Act.put,sT,sS,sZ]
     refine wpD (NoPanic.normal ?_);have HU3:=Qh (HU.out.trans hHeld);clear hHeld;go_wp2
     go_roundg (gk-1)
     case measure=>omega
     case rel=>exact⟨k+1,by omega,by simp,HN,HU3⟩
    ·have HIN:=Qh hin;have HN:=Qh (show true=b by have:=HST.out;rw[hin,Bool.true_or]at this;exact this);clear hin;go_wp2;refine wp_region_noPanic ?_;refine wp_region_held_drew (S:=(fun W'=>Upd No wz W')) (by kernel_rfl) ?_ (fun hHeld=> ?_)
     ·(first|exact hzz.drew|exact hHeld.trans hu3|exact hHeld)
     refine wpK 0 rfl ?_;refine wpK 1 rfl ?_;refine wpK 2 rfl ?_;refine wpK 4 rfl ?_;refine wpK 5 rfl ?_;refine wpR [3] ?_;refine wpC rfl (fun K hK=> ?_) AllReadyH.nil;go_simp
     (first
  |(go_at_call 88;refine(CR.out _ hHeld).mono ?_;rintro e w3 ⟨A3,c3,rfl,ho3,hu3⟩;have HI3:=Qh (Ints.of_own ho3);clear ho3))
     try (go_wp2_with fail)
     refine hK.out _ _ ?_ (fun hHeld=> ?_)
     ·(first|exact hzz.drew|exact hHeld.trans hu3|exact hHeld)
     clear hK K
     try simp only[Act.put,sT,sS,sZ]
     refine wpR [6] ?_;refine wpC rfl (fun K hK=> ?_) AllReadyH.nil;go_simp
     (first
  |(go_at_call 82;refine(ZdW _ _ A3 c3 (ZP q x.t) x.f HI3.out (by have:=HRL.out;omega) HIN.out).mono ?_;rintro e w4 ⟨rfl,rfl⟩))
     try (go_wp2_with fail)
     refine hK.out _ _ ?_ (fun hHeld=> ?_)
     ·(first|exact hzz.drew|exact hHeld.trans hu3|exact hHeld)
     clear hK K
     try simp only[Act.put,sT,sS,sZ]
     refine wpD (NoPanic.normal ?_);have HU3:=Qh (HU.out.trans hHeld);clear hHeld;go_wp2
     go_ret
     exact⟨by rw[←HN.out];rfl,HU2.out.trans HU3.out⟩
   ·obtain rfl:k=q.length:=by omega
    have HN:=Qh (show false=b by have:=hs.out;rw[List.drop_length]at this;exact this);clear hs;go_wp2
    go_ret
    exact⟨by rw[←HN.out];rfl,HU2.out.trans hu.out⟩
end
end Go.Proofs.Ytdbjokfejmgepaa
