/- Phenomena, plain: one brings another; where there is an order that goes along there is none. -/
import Derived.StillTailTactics
import Derived.Test.YtbefgiboikfojaaGreatRcba
import Derived.Test.YtbefgiboikfojaaGreatRcbj
namespace Go.Proofs.YtbefgiboikfojaaGreat
open Go.RowKit
set_option linter.unusedVariables false
set_option linter.unusedSimpArgs false
set_option maxRecDepth 100000
set_option maxHeartbeats 4000000
theorem RchE.mono{D D':List Edge}(h:∀e∈D,e∈D'){x y:Int}(k:RchE D x y):RchE D' x y:=by
 induction k with
 |refl=>exact RchE.refl _
 |step _ h2 h3 ih=>exact ih.step (h _ h2) h3
/- Components of a digraph:the nodes under way,in memory. -/
structure VF where
 node:Nat
 l:List Nat
 A:Option Addr
 c:Nat
def VF.cells(f:VF):Gl:=[Qi (f.node:Int),.slice f.A f.l.length f.c]
def VF.fr(f:VF):Nat×Gr:=(f.node,f.l)
def VFs(w:Gy)(NB:Gt)(fs:List VF):Prop:=∀f∈fs,Ints NB w f.A (f.l.map fun x:Nat=>(x:Int))∧f.l.length<=f.c
theorem VFs.upd{w w':Gy}{NB S:Gt}{fs:List VF}(h:VFs w NB fs)(k:Upd S w w')(hn:∀i,NB i->¬S i):VFs w' NB fs:=fun f hf=>⟨(h f hf).1.upd k hn,(h f hf).2⟩
/- Components of a digraph:the labels of all nodes (scc.Labels). -/
theorem ZsQ:SlT Tryz.prog 57 3 1 8:=SlT.mk_ Tryz.underlying57 (z:= Qi 0) (by kernel_rfl) rfl (by omega)
/- Components of a digraph:parts that grow,in memory:an own row of own rows. -/
structure PV where
 A:Option Addr
 c:Nat
 l:List Nat
def PV.v(p:PV):Gz:= .slice p.A p.l.length p.c
def Zst(l:Gr):Gl:=l.map fun x:Nat=>Value.int .i64 (x:Int)
structure PartsW (w:World) (base:Nat) (O:Value) (ps:List PV):Prop where
 own:w.ownsRow base 57 1 O ps.length (ps.map PV.v)
 rows:∀(i:Nat) (p:PV),ps[i]? =some p->w.ownsRow base 3 1 p.v p.l.length (Zst p.l)
 apart:∀(i:Nat) (p:PV),ps[i]? =some p->∀k,Own p.v k->¬Own O k
 two:∀(i j:Nat) (p q:PV),i≠j->ps[i]? =some p->ps[j]? =some q->∀k,Own p.v k->¬Own q.v k
theorem PartsW.nil(w:Gy)(base:Nat):PartsW w base (.slice none 0 0) []:=⟨Gf _ _ _ _,fun i p h=>by simp at h,fun i p h=>by simp at h,fun i j p q _ h=>by simp at h⟩
theorem PartsW.upd{w w':Gy}{base:Nat}{O:Gz}{ps:List PV}{S:Gt}(h:PartsW w base O ps)(u:Upd S w w')(hS:∀i,base<=i->¬S i):PartsW w' base O ps:=
 ⟨Za h.own u (fun i e=>hS i (h.own.lt i e).1),fun i p hp=>Za (h.rows i p hp) u (fun k e=>hS k ((h.rows i p hp).lt k e).1),h.apart,h.two⟩
theorem PartsW.push{w w':Gy}{base g cap:Nat}{O:Gz}{ps:List PV}(h:PartsW w base O ps)(ho:w'.ownsRow base 57 1 (.slice (some ⟨g,0,none⟩) (ps.length+1) cap) (ps.length+1) (ps.map PV.v++[.slice none 0 0]))(u:Upd (Own O) w w')
  (hg:∀i,i=g->Own O i∨w.heap.size<=i):PartsW w' base (.slice (some ⟨g,0,none⟩) (ps.length+1) cap) (ps++[⟨none,0,[]⟩]):=by
 have key:∀(i:Nat) (p:PV),(ps++[⟨none,0,[]⟩])[i]? =some p->ps[i]? =some p∨p=⟨none,0,[]⟩:=by
  intro i p hp;rw[List.getElem?_append]at hp
  split at hp
  ·exact Or.inl hp
  ·right
   obtain⟨_,e⟩:=List.getElem?_eq_some_iff.1 hp;simp at e;exact e.symm
 have e1:∀(q:PV) (k:Nat),q=⟨none,0,[]⟩->¬Own q.v k:=by
  rintro q k rfl e;simp[Own,PV.v,Value.ownBlock]at e
 refine⟨?_,fun i p hp=>?_,fun i p hp k hk=>?_,fun i j p q hij hp hq k hk hk2=>?_⟩
 ·rw[Fb,F4];exact ho
 ·rcases key i p hp with hp|rfl
  ·exact Za (h.rows i p hp) u (fun k e=>h.apart i p hp k e)
  ·exact Gf _ _ _ _
 ·rcases key i p hp with hp|hp
  ·intro e;have e':g=k:=by simpa[Own,Value.ownBlock]using e
   rcases hg k e'.symm with h1|h1
   ·exact h.apart i p hp k hk h1
   ·have:=((h.rows i p hp).lt k hk).2;omega
  ·exact absurd hk (e1 p k hp)
 ·rcases key i p hp with hp|hp
  ·rcases key j q hq with hq|hq
   ·exact h.two i j p q hij hp hq k hk hk2
   ·exact absurd hk2 (e1 q k hq)
  ·exact absurd hk (e1 p k hp)
theorem PartsW.add{w w':Gy}{base j:Nat}{O:Gz}{ps:List PV}{p p':PV}{S:Gt}(h:PartsW w base O ps)(hj:ps[j]? =some p)(u:Upd S w w')(hS:∀i,S i->Own p.v i∨Own O i)
  (ho:w'.ownsRow base 57 1 O ps.length ((ps.map PV.v).set j p'.v)) (hr:w'.ownsRow base 3 1 p'.v p'.l.length (Zst p'.l)) (hg:∀i,Own p'.v i->Own p.v i∨w.heap.size<=i):
  PartsW w' base O (ps.set j p'):=by
 have hl:j<ps.length:=(List.getElem?_eq_some_iff.1 hj).1
 have key:∀(i:Nat) (q:PV),(ps.set j p')[i]? =some q->(i≠j∧ps[i]? =some q)∨(i=j∧q=p'):=by
  intro i q hq;rw[List.getElem?_set]at hq
  by_cases e:j=i
  ·rw[if_pos e]at hq
   by_cases e2:i<ps.length
   ·rw[if_pos (by omega)]at hq;exact Or.inr ⟨e.symm,(Option.some.inj hq).symm⟩
   ·omega
  ·rw[if_neg e]at hq;exact Or.inl ⟨fun e'=>e e'.symm,hq⟩
 refine⟨?_,fun i q hq=>?_,fun i q hq k hk hO=>?_,fun i i' q q' hij hq nz k hk hk2=>?_⟩
 ·rw[List.length_set,List.map_set];exact ho
 ·rcases key i q hq with ⟨hne,hq⟩|⟨rfl,rfl⟩
  ·exact Za (h.rows i q hq) u (fun k e hs=>(hS k hs).elim (fun e2=>h.two i j q p hne hq hj k e e2) (fun e2=>h.apart i q hq k e e2))
  ·exact hr
 ·rcases key i q hq with ⟨hne,hq⟩|⟨rfl,rfl⟩
  ·exact h.apart i q hq k hk hO
  ·rcases hg k hk with h1|h1
   ·exact h.apart i p hj k h1 hO
   ·have:=(h.own.lt k hO).2;omega
 ·rcases key i q hq with ⟨hne,hq⟩|⟨e1,e2⟩
  ·rcases key i' q' nz with ⟨ji,nz⟩|⟨e1,e2⟩
   ·exact h.two i i' q q' hij hq nz k hk hk2
   ·rw[e1]at hij;rw[e2]at hk2;rcases hg k hk2 with h1|h1
    ·exact h.two i j q p hij hq hj k hk h1
    ·have:=((h.rows i q hq).lt k hk).2;omega
  ·rcases key i' q' nz with ⟨ji,nz⟩|⟨e3,e4⟩
   ·rw[e2]at hk;rcases hg k hk with h1|h1
    ·exact h.two j i' p q' (fun e=>ji e.symm) hj nz k h1 hk2
    ·have:=((h.rows i' q' nz).lt k hk2).2;omega
   ·exact hij (e1.trans e3.symm)
/- Components of a digraph,the document's:who is reached (tenterref23.Reach). -/
theorem ZgD(w:Gy)(F:Gt)(A:OA)(c:Nat)(l:Gv)(a:Int)(h:Ints F w A l)(hl:l.length<=4398046511103){v:Bool}(hv:decide (a∈l)=v):
  CE 94 #[.slice A l.length c,Qi a] w (.bool v):=by
 subst hv;exact Zsk w F A c l a h hl
/- Phenomena,the document's:who is reached by edges (tenterref30.reaches). -/
theorem Znd(F:Gt)(w:Gy)(A:OA)(c:Nat)(l:List Edge)(i0:Int)(h:Walk F w A l)(hl:l.length<=2000):
  Calls Tryz.prog 100 #[.slice A l.length c,Qi i0] w (Zfn w (ZaH l i0)):=by
 have HA:=Qh h;have dW:=Qh (show(w.alloc (.cells #[Qi i0] 3)).ownsRow w.heap.size 3 1 (.slice (some ⟨w.heap.size,0,none⟩) 1 1) 1 ([i0].map (Value.int .i64)) from ZdB (Gh w _ _) (Nat.le_refl _) (Nat.le_refl _) rfl rfl (by decide) rfl);have gL:=Qh (show Upd No w (w.alloc (.cells #[Qi i0] 3)) from(Gg No w).alloc _);have H0:Hid (itE l (l.length+1) [i0]=ZaH l i0):=Qh rfl;clear h;go_enter Tryz.func100,Tryz.ntmps100;go_wp2
 go_loopg [5,6] (l.length+1) (fun gk s i wr=>∃(k:Nat) (A5:OA) (c5:Nat) (xs:Gv),k+gk=l.length+1∧i= Qi (k:Int)∧s= .slice A5 xs.length c5∧Hid (itE l gk xs=ZaH l i0)∧Hid (xs.length<=1+k*l.length)∧
  Hid (wr.ownsRow w.heap.size 3 1 (.slice A5 xs.length c5) xs.length (xs.map (Value.int .i64)))∧Hid (Upd No w wr))
 case atStart=>exact⟨0,some ⟨w.heap.size,0,none⟩,1,[i0],by omega,rfl,rfl,H0,Qh (by simp),dW,gL⟩
 case round=>
  clear H0 dW gL;obtain⟨k,A5,c5,xs,aK,rfl,rfl,hs,hxl,ae,hu⟩:=hrel
  by_cases hk:k<l.length+1
  ·obtain⟨g1,rfl⟩:∃g1,gk=g1+1:=⟨gk-1,by omega⟩;have e1:(k:Int)<=(l.length:Int):=by omega
   obtain⟨RR,gh⟩:=Qe (ZdG xs l);have HS:=Qh (show itE l g1 RR=ZaH l i0 by rw[<-gh];exact hs.out);have yz:=Qh (show ZdG xs (l.drop 0)=RR by rw[List.drop_zero];exact gh);obtain⟨wo,dR⟩:∃wo,wo=wr:=⟨_,rfl⟩;subst dR;have kw:IntKind.i64.wrap ((k:Int)+1)=(k:Int)+1:=IntWalk.i64_in _ (by omega);have dE:xs.length<=1+2000*2000:=Nat.le_trans hxl.out (Nat.add_le_add_left (Nat.mul_le_mul (by omega) hl) _);clear hs gh;go_wp2;generalize hm0:g1+1=m0 at*
   go_loopg [5,19] l.length (fun gk s i wx=>∃(j:Nat) (A6:OA) (c6:Nat) (ys:Gv),j+gk=l.length∧i= Qi (j:Int)∧s= .slice A6 ys.length c6∧Hid (ZdG ys (l.drop j)=RR)∧Hid (ys.length<=xs.length+j)∧
    Hid (wx.ownsRow w.heap.size 3 1 (.slice A6 ys.length c6) ys.length (ys.map (Value.int .i64)))∧Hid (Upd No w wx))
   case atStart=>exact⟨0,A5,c5,xs,by omega,rfl,rfl,yz,Qh (by omega),ae,hu⟩
   case round=>
    clear yz;obtain⟨j,A6,c6,ys,iK,rfl,rfl,hr,fC,av,hu6⟩:=hrel
    by_cases hj:j<l.length
    ·obtain⟨ax,rfl,q0,q1,q2,q3⟩:=(HA.out.upd hu6.out Qo).at_ hj;obtain⟨x,hx⟩:=Qe (l[j]);rw[hx]at q0 q1 q2 q3;have ag:=hr.out;rw[show l.drop j=x::l.drop (j+1) by rw[<-hx];exact Ev hj]at ag;have ag:ZdG (if x.f∈ys∧x.t∉ys then ys++[x.t] else ys) (l.drop (j+1))=RR:=ag;clear hx hr;have b1:(0:Int)<=(j:Int):=Qn _;have b2:(j:Int)<(l.length:Int):=by omega
     have jw:IntKind.i64.wrap ((j:Int)+1)=(j:Int)+1:=IntWalk.i64_in _ (by omega);have uA:=(Gg No wr).alloc (.cells #[Qi x.f,Qi x.t,Qi x.k,Qi x.key] 94);have bo:=Gh wr 94 [Qi x.f,Qi x.t,Qi x.k,Qi x.key];have ec:=Qh (Za av.out uA Qo);obtain⟨g0,g1⟩:=bo.c2;have eu:=Qh (hu6.out.trans uA);have HZ:=Qh eu.out.size;have CK:ys.length<=5000000:=by have:=fC.out;omega
     have ow:=Qh (Ints.of_own ec.out);clear uA bo av hu6
     by_cases hf:x.f∈ys
     ·have HF:=Qh (ZgD _ _ A6 c6 ys x.f ow.out (by omega) (Qt hf))
      by_cases ht:x.t∈ys
      ·have HT:=Qh (ZgD _ _ A6 c6 ys x.t ow.out (by omega) (Qt ht));have aD:=Qh (show ZdG ys (l.drop (j+1))=RR by rw[if_neg (fun e=>e.2 ht)]at ag;exact ag);clear ag hf ht;go_wp2_with fail;refine(HF.out).mono ?_;rintro e w2 ⟨rfl,rfl⟩;go_wp2_with fail;refine(HT.out).mono ?_;rintro e w2 ⟨rfl,rfl⟩;go_wp2;go_roundg (gk-1);exact⟨j+1,A6,c6,ys,by omega,by simp,rfl,aD,Qh (by have:=fC.out;omega),ec,eu⟩;omega
      ·have HT:=Qh (ZgD _ _ A6 c6 ys x.t ow.out (by omega) (Qf ht));have aD:=Qh (show ZdG (ys++[x.t]) (l.drop (j+1))=RR by rw[if_pos ⟨hf,ht⟩]at ag;exact ag);clear ag hf ht;go_wp2_with fail;refine(HF.out).mono ?_;rintro e w2 ⟨rfl,rfl⟩;go_wp2_with fail;refine(HT.out).mono ?_;rintro e w2 ⟨rfl,rfl⟩;go_wp2_with (at_builtin;refine ZX rfl rfl ZsQ (v:= .slice A6 ys.length c6) (n:=ys.length) (xs:=ys.map (Value.int .i64)) (cells:=[Qi x.t]) (c:=1) (by rfl) (by show Value.slice (some ⟨wr.heap.size+1,0,none⟩) 1 1=_;simp) ec.out rfl rfl (by omega) (by omega) HZ.out ?_;intro g9 c9 w9 aG aI gu d8;have ir:=Qh aG;have cY:=Qh aI;clear aG aI gu d8);go_roundg (gk-1);exact⟨j+1,some ⟨g9,0,none⟩,c9,ys++[x.t],by omega,by simp,by simp,aD,Qh (by simp;have:=fC.out;omega),Qh (by simpa using ir.out),Qh (eu.out.then_ cY.out (fun i e=>Or.inr (ec.out.lt i e).1))⟩;omega
     ·have HF:=Qh (ZgD _ _ A6 c6 ys x.f ow.out (by omega) (Qf hf));have aD:=Qh (show ZdG ys (l.drop (j+1))=RR by rw[if_neg (fun e=>hf e.1)]at ag;exact ag);clear ag hf;go_wp2_with fail;refine(HF.out).mono ?_;rintro e w2 ⟨rfl,rfl⟩;go_wp2;go_roundg (gk-1);exact⟨j+1,A6,c6,ys,by omega,by simp,rfl,aD,Qh (by have:=fC.out;omega),ec,eu⟩;omega
    ·obtain rfl:j=l.length:=by omega
     have HY:=Qh (show ys=RR by have:=hr.out;rw[Fq]at this;exact this);clear hr;go_wp2;go_roundg (m0-1);exact⟨k+1,A6,c6,ys,by omega,by simp,rfl,Qh (by rw[HY.out,<-hm0];exact HS.out),Qh (by have:=fC.out;have:=hxl.out;rw[Nat.succ_mul];omega),av,hu6⟩;omega
  ·obtain rfl:k=l.length+1:=by omega
   obtain rfl:gk=0:=by omega
   have HX:Hid (xs=ZaH l i0):=Qh hs.out;have e1:¬(((l.length+1:Nat):Int)<=(l.length:Int)):=by omega
   clear hs;go_wp2;go_ret;rw[<-HX.out];exact⟨A5,c5,rfl,ae.out,hu.out⟩
/- Phenomena,the document's:whether there is a closed walk (tenterref30.Round). -/
theorem ZqW(F:Gt)(w:Gy)(A:OA)(c:Nat)(l:List Edge)(mask must:Int)(h:Walk F w A l)(hl:l.length<=2000):
  CN 58 #[.slice A l.length c,Qi mask,Qi must] w (.bool (ZgC l mask must)):=by
 obtain⟨q,hq⟩:∃q,(l.filter fun e=>Zl mask e.k)=q:=⟨_,rfl⟩;obtain⟨q2,kQ⟩:∃q2,(q.filter fun e=>Zl must e.k)=q2:=⟨_,rfl⟩;have tj:q.length<=2000:=by rw[<-hq];exact Nat.le_trans (E3 _ _) hl
 have DC:q2.length<=2000:=by rw[<-kQ];exact Nat.le_trans (E3 _ _) tj
 obtain⟨b,hb⟩:=Qe (ZgC l mask must);have eD:((if (bits .and .i64 must 14==0)=true then q else q2).any fun e=>decide (e.f∈ZaH q e.t))=b:=by rw[<-hb];unfold ZgC;simp only[hq,kQ]
 rw[hb];have C1:=Qh (ZnU F w A c l mask h (by omega));rw[hq]at C1;clear hb hq h
 cases hm:(bits .and .i64 must 14==0)
 ·rw[hm,if_neg (by decide)]at eD;have HB:=Qh eD;clear eD;go_enter Tryz.func58,Tryz.ntmps58;go_wp2_with fail;refine(C1.out).mono ?_;rintro e w1 ⟨A1,c1,rfl,aW,hu1⟩;have cD:Walk (fun i=>w.heap.size<=i) w1 A1 q:=Recs.weak (Recs.of_own Zao (by omega) aW) (fun i _ e=>(aW.lt i e).1);have C2:=Qh (ZnU _ w1 A1 c1 q must cD (by omega));rw[kQ]at C2;go_wp2_with fail;refine(C2.out).mono ?_;rintro e w2 ⟨A2,c2,rfl,bi,hu2⟩;have HQ:=Qh (cD.upd hu2 Qo);have HS:Hid (Walk (fun i=>w1.heap.size<=i) w2 A2 q2):=Qh (Recs.weak (Recs.of_own Zao (by omega) bi) (fun i _ e=>(bi.lt i e).1));have bC:=Qh (hu1.trans hu2);clear cD aW bi hu1 hu2 C1 C2 kQ;go_wp2
  go_loopg [23] q2.length (fun gk i wr=>∃k:Nat,k+gk=q2.length∧i= Qi (k:Int)∧Hid (((q2).drop k).any (fun e=>decide (e.f∈ZaH q e.t))=b)∧Hid (Upd No w2 wr))
  case atStart=>exact⟨0,by omega,rfl,Qh (by rw[List.drop_zero];exact HB.out),Qh (Gg _ _)⟩
  case round=>
   clear HB;obtain⟨k,aK,rfl,hs,hu⟩:=hrel
   by_cases hk:k<q2.length
   ·obtain⟨ax,rfl,q0,q1,q2',q3⟩:=(HS.out.upd hu.out Qo).at_ hk;obtain⟨x,hx⟩:=Qe (q2[k]);rw[hx]at q0 q1 q2' q3;have ag:=hs.out;rw[show(q2).drop k=x::(q2).drop (k+1) by rw[<-hx];exact Ev hk,List.any_cons]at ag;have aD:=Qh ag;clear hx hs ag;have b1:(0:Int)<=(k:Int):=Qn _;have b2:(k:Int)<(q2.length:Int):=by omega
    have jw:IntKind.i64.wrap ((k:Int)+1)=(k:Int)+1:=IntWalk.i64_in _ (by omega);obtain⟨wz,g7⟩:=Qe (wr.alloc (.cells #[Qi x.f,Qi x.t,Qi x.k,Qi x.key] 94));have uz:Upd No wr wz:=by rw[<-g7];exact(Gg No wr).alloc _
    have bo:Blk wz wr.heap.size 94 [Qi x.f,Qi x.t,Qi x.k,Qi x.key]:=by rw[<-g7];exact Gh wr _ _
    have g0:=bo.ev 0 rfl
    have g1:=bo.ev 1 rfl
    have HU:=Qh (hu.out.trans uz);have CR:=Qh (fun W (u:Upd No wz W)=>Znd _ W _ c1 q x.t (HQ.out.upd ((hu.out.trans uz).trans u) Qo) (by omega));have f8:=Qh (ZiE q x.t);have hzz:Upd No wz wz:=Gg _ _;clear uz bo hu
    cases hin:decide (x.f∈ZaH q x.t)
    ·have cg:=Qh hin;have HN:=Qh (show((q2).drop (k+1)).any (fun e=>decide (e.f∈ZaH q e.t))=b by have:=aD.out;rw[hin,Bool.false_or]at this;exact this);clear hin;go_wp2;refine wpS (fun W'=>Upd No wz W') ?_ fun jH=>?_
     ·(first|exact hzz.drew|exact jH.trans hu3|exact jH)
     (iterate 3 refine wpF ?_);refine wpK 4 rfl ?_;refine wpK 5 rfl ?_;refine wpZ 3 rfl fun K hK=>?_;go_simp
     (first
  |(go_at_call 100;refine(CR.out _ jH).mono ?_;rintro e w3 ⟨A3,c3,rfl,cW,hu3⟩;have jQ:=Qh (Ints.of_own cW);clear cW))
     try (go_wp2_with fail)
     refine hK.out _ _ ?_ fun jH=>?_
     ·(first|exact hzz.drew|exact jH.trans hu3|exact jH)
     try simp only[Qa]
     refine wpZ 6 rfl fun K hK=>?_;go_simp
     (first
  |(go_at_call 94;refine(ZgD _ _ A3 c3 (ZaH q x.t) x.f jQ.out (by have:=f8.out;omega) cg.out).mono ?_;rintro e w4 ⟨rfl,rfl⟩))
     try (go_wp2_with fail)
     refine hK.out _ _ ?_ fun jH=>?_
     ·(first|exact hzz.drew|exact jH.trans hu3|exact jH)
     try simp only[Qa]
     refine wpD (Gd ?_);have bJ:=Qh (HU.out.trans jH);clear jH;go_wp2;go_roundg (gk-1);exact⟨k+1,by omega,by simp,HN,bJ⟩;omega
    ·have cg:=Qh hin;have HN:=Qh (show true=b by have:=aD.out;rw[hin,Bool.true_or]at this;exact this);clear hin;go_wp2;refine wpS (fun W'=>Upd No wz W') ?_ fun jH=>?_
     ·(first|exact hzz.drew|exact jH.trans hu3|exact jH)
     (iterate 3 refine wpF ?_);refine wpK 4 rfl ?_;refine wpK 5 rfl ?_;refine wpZ 3 rfl fun K hK=>?_;go_simp
     (first
  |(go_at_call 100;refine(CR.out _ jH).mono ?_;rintro e w3 ⟨A3,c3,rfl,cW,hu3⟩;have jQ:=Qh (Ints.of_own cW);clear cW))
     try (go_wp2_with fail)
     refine hK.out _ _ ?_ fun jH=>?_
     ·(first|exact hzz.drew|exact jH.trans hu3|exact jH)
     try simp only[Qa]
     refine wpZ 6 rfl fun K hK=>?_;go_simp
     (first
  |(go_at_call 94;refine(ZgD _ _ A3 c3 (ZaH q x.t) x.f jQ.out (by have:=f8.out;omega) cg.out).mono ?_;rintro e w4 ⟨rfl,rfl⟩))
     try (go_wp2_with fail)
     refine hK.out _ _ ?_ fun jH=>?_
     ·(first|exact hzz.drew|exact jH.trans hu3|exact jH)
     try simp only[Qa]
     refine wpD (Gd ?_);have bJ:=Qh (HU.out.trans jH);clear jH;go_wp2;go_ret;exact⟨by rw[<-HN.out];rfl,bC.out.trans bJ.out⟩
   ·obtain rfl:k=q2.length:=by omega
    have HN:=Qh (show false=b by have:=hs.out;rw[Fq]at this;exact this);clear hs;go_wp2;go_ret;exact⟨by rw[<-HN.out];rfl,bC.out.trans hu.out⟩
 ·rw[hm,if_pos rfl]at eD;have HB:=Qh eD;clear eD;go_enter Tryz.func58,Tryz.ntmps58;go_wp2_with fail;refine(C1.out).mono ?_;rintro e w1 ⟨A1,c1,rfl,aW,hu1⟩;have cD:Walk (fun i=>w.heap.size<=i) w1 A1 q:=Recs.weak (Recs.of_own Zao (by omega) aW) (fun i _ e=>(aW.lt i e).1);have C2:=Qh (ZnU _ w1 A1 c1 q must cD (by omega));go_wp2_with fail;refine(C2.out).mono ?_;rintro e w2 ⟨A2,c2,rfl,bi,hu2⟩;have HQ:=Qh (cD.upd hu2 Qo);have HS:=Qh HQ.out;have bC:=Qh (hu1.trans hu2);clear cD aW bi hu1 hu2 C1 C2 kQ;go_wp2
  go_loopg [23] q.length (fun gk i wr=>∃k:Nat,k+gk=q.length∧i= Qi (k:Int)∧Hid (((q).drop k).any (fun e=>decide (e.f∈ZaH q e.t))=b)∧Hid (Upd No w2 wr))
  case atStart=>exact⟨0,by omega,rfl,Qh (by rw[List.drop_zero];exact HB.out),Qh (Gg _ _)⟩
  case round=>
   clear HB;obtain⟨k,aK,rfl,hs,hu⟩:=hrel
   by_cases hk:k<q.length
   ·obtain⟨ax,rfl,q0,q1,q2',q3⟩:=(HS.out.upd hu.out Qo).at_ hk;obtain⟨x,hx⟩:=Qe (q[k]);rw[hx]at q0 q1 q2' q3;have ag:=hs.out;rw[show(q).drop k=x::(q).drop (k+1) by rw[<-hx];exact Ev hk,List.any_cons]at ag;have aD:=Qh ag;clear hx hs ag;have b1:(0:Int)<=(k:Int):=Qn _;have b2:(k:Int)<(q.length:Int):=by omega
    have jw:IntKind.i64.wrap ((k:Int)+1)=(k:Int)+1:=IntWalk.i64_in _ (by omega);obtain⟨wz,g7⟩:=Qe (wr.alloc (.cells #[Qi x.f,Qi x.t,Qi x.k,Qi x.key] 94));have uz:Upd No wr wz:=by rw[<-g7];exact(Gg No wr).alloc _
    have bo:Blk wz wr.heap.size 94 [Qi x.f,Qi x.t,Qi x.k,Qi x.key]:=by rw[<-g7];exact Gh wr _ _
    have g0:=bo.ev 0 rfl
    have g1:=bo.ev 1 rfl
    have HU:=Qh (hu.out.trans uz);have CR:=Qh (fun W (u:Upd No wz W)=>Znd _ W _ c1 q x.t (HQ.out.upd ((hu.out.trans uz).trans u) Qo) (by omega));have f8:=Qh (ZiE q x.t);have hzz:Upd No wz wz:=Gg _ _;clear uz bo hu
    cases hin:decide (x.f∈ZaH q x.t)
    ·have cg:=Qh hin;have HN:=Qh (show((q).drop (k+1)).any (fun e=>decide (e.f∈ZaH q e.t))=b by have:=aD.out;rw[hin,Bool.false_or]at this;exact this);clear hin;go_wp2;refine wpS (fun W'=>Upd No wz W') ?_ fun jH=>?_
     ·(first|exact hzz.drew|exact jH.trans hu3|exact jH)
     (iterate 3 refine wpF ?_);refine wpK 4 rfl ?_;refine wpK 5 rfl ?_;refine wpZ 3 rfl fun K hK=>?_;go_simp
     (first
  |(go_at_call 100;refine(CR.out _ jH).mono ?_;rintro e w3 ⟨A3,c3,rfl,cW,hu3⟩;have jQ:=Qh (Ints.of_own cW);clear cW))
     try (go_wp2_with fail)
     refine hK.out _ _ ?_ fun jH=>?_
     ·(first|exact hzz.drew|exact jH.trans hu3|exact jH)
     try simp only[Qa]
     refine wpZ 6 rfl fun K hK=>?_;go_simp
     (first
  |(go_at_call 94;refine(ZgD _ _ A3 c3 (ZaH q x.t) x.f jQ.out (by have:=f8.out;omega) cg.out).mono ?_;rintro e w4 ⟨rfl,rfl⟩))
     try (go_wp2_with fail)
     refine hK.out _ _ ?_ fun jH=>?_
     ·(first|exact hzz.drew|exact jH.trans hu3|exact jH)
     try simp only[Qa]
     refine wpD (Gd ?_);have bJ:=Qh (HU.out.trans jH);clear jH;go_wp2;go_roundg (gk-1);exact⟨k+1,by omega,by simp,HN,bJ⟩;omega
    ·have cg:=Qh hin;have HN:=Qh (show true=b by have:=aD.out;rw[hin,Bool.true_or]at this;exact this);clear hin;go_wp2;refine wpS (fun W'=>Upd No wz W') ?_ fun jH=>?_
     ·(first|exact hzz.drew|exact jH.trans hu3|exact jH)
     (iterate 3 refine wpF ?_);refine wpK 4 rfl ?_;refine wpK 5 rfl ?_;refine wpZ 3 rfl fun K hK=>?_;go_simp
     (first
  |(go_at_call 100;refine(CR.out _ jH).mono ?_;rintro e w3 ⟨A3,c3,rfl,cW,hu3⟩;have jQ:=Qh (Ints.of_own cW);clear cW))
     try (go_wp2_with fail)
     refine hK.out _ _ ?_ fun jH=>?_
     ·(first|exact hzz.drew|exact jH.trans hu3|exact jH)
     try simp only[Qa]
     refine wpZ 6 rfl fun K hK=>?_;go_simp
     (first
  |(go_at_call 94;refine(ZgD _ _ A3 c3 (ZaH q x.t) x.f jQ.out (by have:=f8.out;omega) cg.out).mono ?_;rintro e w4 ⟨rfl,rfl⟩))
     try (go_wp2_with fail)
     refine hK.out _ _ ?_ fun jH=>?_
     ·(first|exact hzz.drew|exact jH.trans hu3|exact jH)
     try simp only[Qa]
     refine wpD (Gd ?_);have bJ:=Qh (HU.out.trans jH);clear jH;go_wp2;go_ret;exact⟨by rw[<-HN.out];rfl,bC.out.trans bJ.out⟩
   ·obtain rfl:k=q.length:=by omega
    have HN:=Qh (show false=b by have:=hs.out;rw[Fq]at this;exact this);clear hs;go_wp2;go_ret;exact⟨by rw[<-HN.out];rfl,bC.out.trans hu.out⟩
