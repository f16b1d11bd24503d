/- The search that goes wide, plain: what it comes to. -/
import Derived.Test.YtadmgiljchgccaaGreatTczz
import Derived.WalkKit
namespace Go.Proofs.YtadmgiljchgccaaGreat
set_option linter.unusedVariables false
set_option linter.unusedSimpArgs false
def ZaD {α:Type} [DecidableEq α] (d:α->Int) (u:α) (v:Int):α->Int:=fun x=>if x=u then v else d x
section
variable {α:Type} [DecidableEq α]
theorem Zdo (d:α->Int) (u:α) (v:Int):ZaD d u v u=v:=if_pos rfl
theorem Zac (d:α->Int) {u x:α} (v:Int) (h:x≠u):ZaD d u v x=d x:=if_neg h
def Zu (ok:α->Bool) (dx:Int):List α->(α->Int)×List α->(α->Int)×List α
 |[],s=>s
 |u::us,s=>Zu ok dx us (if (ok u&&decide (s.1 u<0))=true then (ZaD s.1 u (dx+1),s.2++[u]) else s)
def Zbx (ok:α->Bool) (ps:α->List α):Nat->(α->Int)×List α->(α->Int)
 |0,s=>s.1
 |f+1,s=>match s.2 with
  |[]=>s.1
  |x::qu=>Zbx ok ps f (Zu ok (s.1 x) (ps x) (s.1,qu))
theorem Zci (ok:α->Bool) (dx:Int) (u:α) (us:List α) (d:α->Int) (qu:List α):
  Zu ok dx (u::us) (d,qu)=if (ok u&&decide (d u<0))=true then Zu ok dx us (ZaD d u (dx+1),qu++[u]) else Zu ok dx us (d,qu):=by
 show Zu ok dx us _=_
 split<;>rfl
theorem Zm0 (ok:α->Bool) (ps:α->List α) (f:Nat) (d:α->Int):Zbx ok ps f (d,[])=d:=by cases f<;>rfl
theorem Zha (ok:α->Bool) (ps:α->List α) (f:Nat) (d:α->Int) (x:α) (qu:List α):Zbx ok ps (f+1) (d,x::qu)=Zbx ok ps f (Zu ok (d x) (ps x) (d,qu)):=rfl
def Zas (dom:List α) (d:α->Int):Nat:=dom.countP fun u=>decide (d u<0)
theorem ZsP {dom:List α} {d:α->Int} {u:α} {v:Int} (h:u∉dom):Zas dom (ZaD d u v)=Zas dom d:=by
 unfold Zas
 apply List.countP_congr
 intro x hx;rw[Zac _ _ (show x≠u from fun e=>h (by rw[<-e];exact hx))]
theorem Zb6 {dom:List α} {d:α->Int} {u:α} {v:Int} (hn:dom.Nodup) (hu:u∈dom) (hd:d u<0) (hv:0<=v):Zas dom (ZaD d u v)+1=Zas dom d:=by
 induction dom with
 |nil=>cases hu
 |cons a l ih=>
  have BU:=H3.1 hn
  by_cases e:a=u
  ·subst e;have h1:=ZsP (d:=d) (v:=v) BU.1;unfold Zas at*;rw[Hl,Hl,h1,Zdo,if_neg (by simpa using hv),if_pos (by simpa using hd)]
  ·have h1:=ih BU.2 ((Ie.1 hu).resolve_left (fun h=>e h.symm));unfold Zas at*;rw[Hl,Hl,Zac _ _ e];omega
def Fits (dom:List α) (d:α->Int) (qu:List α):Prop:=Zas dom d+qu.length<=dom.length
theorem Fits.push {dom:List α} {d:α->Int} {qu:List α} (h:Fits dom d qu) (hn:dom.Nodup) {u:α} (hu:u∈dom) (hd:d u<0) {v:Int} (hv:0<=v):Fits dom (ZaD d u v) (qu++[u])∧qu.length<dom.length:=by
 have:=Zb6 hn hu hd hv;unfold Fits at*;rw[Gt,Gi];omega
structure BInv (ok:α->Bool) (ps:α->List α) (dom:List α) (root:α) (d:α->Int) (qu:List α):Prop where
 lo:∀u,-1<=d u
 q0:∀u∈qu,0<=d u
 nd:qu.Nodup
 srt:qu.Pairwise fun a b=>d a<=d b
 top:∀u,∀a∈qu,d u<=d a+1
 clo:∀v,0<=d v->v∉qu->∀u∈ps v,ok u=true->0<=d u∧d u<=d v+1
 par:∀u,0<=d u->u=root∨∃v,u∈ps v∧ok u=true∧0<=d v∧d v+1=d u
 z:∀u,d u=0↔u=root
 dm:∀u,0<=d u->u∈dom
 fit:Fits dom d qu
 cap:∀u,d u+1+(Zas dom d:Int)<=(dom.length:Int)
structure RInv (ok:α->Bool) (ps:α->List α) (dom:List α) (root x:α) (dx:Int) (p:List α) (d:α->Int) (qu:List α):Prop where
 lo:∀u,-1<=d u
 q0:∀u∈qu,0<=d u
 nd:qu.Nodup
 srt:qu.Pairwise fun a b=>d a<=d b
 dxe:d x=dx
 dxp:0<=dx
 xq:x∉qu
 topx:∀u,d u<=dx+1
 qx:∀a∈qu,dx<=d a
 clo:∀v,0<=d v->v∉qu->v≠x->∀u∈ps v,ok u=true->0<=d u∧d u<=d v+1
 clox:∀u∈p,ok u=true->0<=d u∧d u<=dx+1
 par:∀u,0<=d u->u=root∨∃v,u∈ps v∧ok u=true∧0<=d v∧d v+1=d u
 z:∀u,d u=0↔u=root
 dm:∀u,0<=d u->u∈dom
 fit:Fits dom d qu
 cap:∀u,d u+1+(Zas dom d:Int)<=(dom.length:Int)
variable {ok:α->Bool} {ps:α->List α} {dom:List α} {root:α}
theorem BInv.start (hr:root∈dom) (hn:dom.Nodup):BInv ok ps dom root (fun u=>if u=root then 0 else -1) [root]:=by
 refine⟨fun u=>by split<;>omega,fun u hu=>by rw[Gq]at hu;rw[if_pos hu];omega,by simp,by simp,fun u a ha=>?_,fun v hv hq=>?_,fun u hu=> .inl ?_,fun u=>?_,fun u hu=>?_,?_,fun u=>?_⟩
 ·rw[Gq]at ha;rw[if_pos ha]
  split<;>omega
 ·exact absurd (by by_cases e:v=root
                   ·exact Gq.2 e
                   ·rw[if_neg e]at hv;omega) hq
 ·by_cases e:u=root
  ·exact e
  ·rw[if_neg e]at hu;omega
 ·constructor
  ·intro h
   by_cases e:u=root
   ·exact e
   ·rw[if_neg e]at h;omega
  ·intro h;rw[if_pos h]
 ·by_cases e:u=root
  ·rw[e];exact hr
  ·rw[if_neg e]at hu;omega
 ·unfold Fits;have h1:=Zb6 (d:=fun _=>(-1:Int)) (v:=0) hn hr (by omega) (by omega);have h2:Zas dom (fun _:α=>(-1:Int))<=dom.length:=List.countP_le_length;have h3:ZaD (fun _:α=>(-1:Int)) root 0=fun u=>if u=root then 0 else -1:=rfl
  rw[h3]at h1;simp only[Gi];omega
 ·have h1:=Zb6 (d:=fun _=>(-1:Int)) (v:=0) hn hr (by omega) (by omega);have h2:Zas dom (fun _:α=>(-1:Int))<=dom.length:=List.countP_le_length;have h3:ZaD (fun _:α=>(-1:Int)) root 0=fun u=>if u=root then 0 else -1:=rfl
  rw[h3]at h1
  split<;>omega
end
theorem BInv.pop {α:Type} {ok:α->Bool} {ps:α->List α} {dom:List α} {root:α} {d:α->Int} {x:α} {qu:List α} (h:BInv ok ps dom root d (x::qu)):RInv ok ps dom root x (d x) [] d qu:=by
 have hs:=Gr.1 h.srt;have hn:=H3.1 h.nd
 exact⟨h.lo,fun u hu=>h.q0 u (Gk _ hu),hn.2,hs.2,rfl,h.q0 x Gv,hn.1,fun u=>h.top u x Gv,hs.1,
  fun v hv hq hx=>h.clo v hv (fun e=>(Ie.1 e).elim hx hq),fun u hu=>(by cases hu),h.par,h.z,h.dm,by have:=h.fit;unfold Fits at*;simp only[G1]at this;omega,h.cap⟩
theorem RInv.skip {α:Type} {ok:α->Bool} {ps:α->List α} {dom:List α} {root:α} {x:α} {dx:Int} {p:List α} {d:α->Int} {qu:List α} {u:α} (h:RInv ok ps dom root x dx p d qu) (hs:¬((ok u&&decide (d u<0))=true)):RInv ok ps dom root x dx (p++[u]) d qu:=
 {h with
  clox:=fun v hv ho=>by
   rcases Ib.1 hv with hv|hv
   ·exact h.clox v hv ho
   ·rw[Gq]at hv;subst hv;have h1:¬d v<0:=fun e=>hs (by rw[ho,decide_eq_true e];rfl)
    exact⟨by omega,h.topx v⟩}
section
variable {α:Type} [DecidableEq α] {ok:α->Bool} {ps:α->List α} {dom:List α} {root:α}
theorem RInv.done {x:α} {dx:Int} {d:α->Int} {qu:List α} (h:RInv ok ps dom root x dx (ps x) d qu):BInv ok ps dom root d qu:=
 ⟨h.lo,h.q0,h.nd,h.srt,fun u a ha=>by have:=h.topx u;have:=h.qx a ha;omega,
  fun v hv hq u hu ho=>by
   by_cases e:v=x
   ·subst e;rw[h.dxe];exact h.clox u hu ho
   ·exact h.clo v hv hq e u hu ho,h.par,h.z,h.dm,h.fit,h.cap⟩
theorem RInv.push (hn:dom.Nodup) (hc:∀v∈dom,∀u∈ps v,ok u=true->u∈dom) {x:α} {dx:Int} {p:List α} {d:α->Int} {qu:List α} {u:α} (h:RInv ok ps dom root x dx p d qu) (mp:u∈ps x) (hs:(ok u&&decide (d u<0))=true):
  RInv ok ps dom root x dx (p++[u]) (ZaD d u (dx+1)) (qu++[u]):=by
 rw[Hj,Gw]at hs;obtain⟨ho,hd⟩:=hs;have gV:x≠u:=fun e=>by have:=h.dxe;have:=h.dxp;subst e;omega
 have DT:u∉qu:=fun e=>by have:=h.q0 u e;omega
 have mY:x∈dom:=h.dm x (by have:=h.dxe;have:=h.dxp;omega);have fw:u∈dom:=hc x mY u mp ho;have lA:=h.dxp;have ge:∀v,0<=d v->v≠u:=fun v hv e=>by subst e;omega
 constructor
 case lo=>
  intro v;unfold ZaD
  split
  ·omega
  ·exact h.lo v
 case q0=>
  intro v hv;rcases Ib.1 hv with hv|hv
  ·rw[Zac _ _ (ge v (h.q0 v hv))];exact h.q0 v hv
  ·rw[Gq]at hv;subst hv;rw[Zdo];omega
 case nd=>
  rw[List.nodup_append];exact⟨h.nd,by simp,fun a ha b hb e=>by rw[Gq]at hb;subst hb;subst e;exact DT ha⟩
 case srt=>
  rw[Gm];refine⟨h.srt.imp_of_mem fun {a b} ha hb hab=>?_,by simp,fun a ha b hb=>?_⟩
  ·rw[Zac _ _ (ge a (h.q0 a ha)),Zac _ _ (ge b (h.q0 b hb))];exact hab
  ·rw[Gq]at hb;subst hb;rw[Zdo,Zac _ _ (ge a (h.q0 a ha))];exact h.topx a
 case dxe=>rw[Zac _ _ gV];exact h.dxe
 case dxp=>exact h.dxp
 case xq=>
  intro hx;rcases Ib.1 hx with hx|hx
  ·exact h.xq hx
  ·rw[Gq]at hx;exact gV hx
 case topx=>
  intro v;unfold ZaD
  split
  ·omega
  ·exact h.topx v
 case qx=>
  intro v hv;rcases Ib.1 hv with hv|hv
  ·rw[Zac _ _ (ge v (h.q0 v hv))];exact h.qx v hv
  ·rw[Gq]at hv;subst hv;rw[Zdo];omega
 case clo=>
  intro v hv hq og y hy wD;have Em:v≠u:=fun e=>hq (Gh _ (Gq.2 e))
  rw[Zac _ _ Em]at hv ⊢;have:=h.clo v hv (fun e=>hq (Gp _ e)) og y hy wD;rw[Zac _ _ (ge y this.1)];exact this
 case clox=>
  intro y hy wD;rcases Ib.1 hy with hy|hy
  ·have:=h.clox y hy wD;rw[Zac _ _ (ge y this.1)];exact this
  ·rw[Gq]at hy;subst hy;rw[Zdo];omega
 case par=>
  intro v hv
  by_cases e:v=u
  ·subst e;refine .inr ⟨x,mp,ho,?_,?_⟩
   ·rw[Zac _ _ gV,h.dxe];exact h.dxp
   ·rw[Zac _ _ gV,Zdo,h.dxe]
  ·rw[Zac _ _ e]at hv;rcases h.par v hv with h1|⟨y,h1,h2,h3,h4⟩
   ·exact .inl h1
   ·exact .inr ⟨y,h1,h2,by rw[Zac _ _ (ge y h3)];exact h3,by rw[Zac _ _ (ge y h3),Zac _ _ e];exact h4⟩
 case z=>
  intro v
  by_cases e:v=u
  ·subst e;rw[Zdo]
   constructor
   ·intro h1;omega
   ·intro h1;have:=(h.z v).2 h1;omega
  ·rw[Zac _ _ e];exact h.z v
 case dm=>
  intro v hv
  by_cases e:v=u
  ·rw[e];exact fw
  ·rw[Zac _ _ e]at hv;exact h.dm v hv
 case fit=>exact(h.fit.push hn fw hd (by omega)).1
 case cap=>
  intro v;have h1:=Zb6 (v:=dx+1) hn fw hd (by omega)
  by_cases e:v=u
  ·subst e;rw[Zdo];have:=h.cap x;rw[h.dxe]at this;omega
  ·rw[Zac _ _ e];have:=h.cap v;omega
theorem RInv.all (hn:dom.Nodup) (hc:∀v∈dom,∀u∈ps v,ok u=true->u∈dom) {x:α} {dx:Int}:∀(l p:List α) (d:α->Int) (qu:List α),p++l=ps x->RInv ok ps dom root x dx p d qu->
  RInv ok ps dom root x dx (ps x) (Zu ok dx l (d,qu)).1 (Zu ok dx l (d,qu)).2
 |[],p,d,qu,hp,h=>by
  rw[Ho]at hp;subst hp;exact h
 |u::l,p,d,qu,hp,h=>by
  have hp2:(p++[u])++l=ps x:=by rw[<-hp];simp
  rw[Zci]
  by_cases hs:(ok u&&decide (d u<0))=true
  ·rw[if_pos hs];exact RInv.all hn hc l (p++[u]) _ _ hp2 (h.push hn hc (by rw[<-hp];simp) hs)
  ·rw[if_neg hs];exact RInv.all hn hc l (p++[u]) _ _ hp2 (h.skip hs)
theorem Zgp (hn:dom.Nodup) (hc:∀v∈dom,∀u∈ps v,ok u=true->u∈dom):∀(f:Nat) (d:α->Int) (qu:List α),BInv ok ps dom root d qu->Zas dom d+qu.length<=f->BInv ok ps dom root (Zbx ok ps f (d,qu)) []
 |0,d,qu,h,hf=>by
  have:qu=[]:=Gd (by omega);subst this;exact h
 |f+1,d,[],h,hf=>h
 |f+1,d,x::qu,h,hf=>by
  rw[Zha];have h1:=RInv.all hn hc (ps x) [] d qu (by simp) h.pop;refine Zgp hn hc f _ _ h1.done ?_
  have hm:∀(l:List α) (d':α->Int) (q':List α),(∀u∈l,ok u=true->u∈dom)->0<=d x->Zas dom (Zu ok (d x) l (d',q')).1+(Zu ok (d x) l (d',q')).2.length=Zas dom d'+q'.length:=by
   intro l
   induction l with
   |nil=>intro d' q' _ _;rfl
   |cons u l ih=>
    intro d' q' hl h0;rw[Zci]
    by_cases hs:(ok u&&decide (d' u<0))=true
    ·rw[if_pos hs,ih _ _ (fun v hv=>hl v (Gk _ hv)) h0];rw[Hj,Gw]at hs;have:=Zb6 (v:=d x+1) hn (hl u Gv hs.1) hs.2 (by omega);rw[Gt,Gi];omega
    ·rw[if_neg hs,ih _ _ (fun v hv=>hl v (Gk _ hv)) h0]
  have h0:0<=d x:=h.q0 x Gv;rw[hm _ _ _ (fun u hu ho=>hc x (h.dm x h0) u hu ho) h0];simp only[G1]at hf;omega
end
