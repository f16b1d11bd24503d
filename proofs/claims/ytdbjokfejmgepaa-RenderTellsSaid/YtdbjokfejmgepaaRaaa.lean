/- The search that goes wide, plain: what it comes to. -/
import Derived.WalkKit
namespace Go.Proofs.Ytdbjokfejmgepaa
set_option linter.unusedVariables false
set_option linter.unusedSimpArgs false
section
def Zcr {α:Type} [DecidableEq α] (d:α→Int) (u:α) (v:Int):α→Int:=fun x=>if x=u then v else d x
section
variable {α:Type} [DecidableEq α]
theorem Zby (d:α→Int) (u:α) (v:Int):Zcr d u v u=v:=if_pos rfl
theorem Zz (d:α→Int) {u x:α} (v:Int) (h:x≠u):Zcr d u v x=d x:=if_neg h
def ZaY (ok:α→Bool) (dx:Int):List α→(α→Int)×List α→(α→Int)×List α
 |[],s=>s
 |u::us,s=>ZaY ok dx us (if (ok u&&decide (s.1 u<0))=true then (Zcr s.1 u (dx+1),s.2++[u]) else s)
def Zda (ok:α→Bool) (ps:α→List α):Nat→(α→Int)×List α→(α→Int)
 |0,s=>s.1
 |f+1,s=>match s.2 with
  |[]=>s.1
  |x::qu=>Zda ok ps f (ZaY ok (s.1 x) (ps x) (s.1,qu))
theorem Zez (ok:α→Bool) (dx:Int) (u:α) (us:List α) (d:α→Int) (qu:List α):
  ZaY ok dx (u::us) (d,qu)=if (ok u&&decide (d u<0))=true then ZaY ok dx us (Zcr d u (dx+1),qu++[u]) else ZaY ok dx us (d,qu):=by
 show ZaY ok dx us _=_
 split<;>rfl
theorem ZjW (ok:α→Bool) (ps:α→List α) (f:Nat) (d:α→Int) (x:α) (qu:List α):Zda ok ps (f+1) (d,x::qu)=Zda ok ps f (ZaY ok (d x) (ps x) (d,qu)):=rfl
def Zbv (dom:List α) (d:α→Int):Nat:=dom.countP fun u=>decide (d u<0)
theorem Zku {dom:List α} {d:α→Int} {u:α} {v:Int} (h:u∉dom):Zbv dom (Zcr d u v)=Zbv dom d:=by
 unfold Zbv
 apply List.countP_congr
 intro x hx;rw[Zz _ _ (show x≠u from fun e=>h (by rw[←e];exact hx))]
theorem ZcG {dom:List α} {d:α→Int} {u:α} {v:Int} (hn:dom.Nodup) (hu:u∈dom) (hd:d u<0) (hv:0≤v):Zbv dom (Zcr d u v)+1=Zbv dom d:=by
 induction dom with
 |nil=>cases hu
 |cons a l ih=>
  have hn':=List.nodup_cons.1 hn
  by_cases e:a=u
  ·subst e;have h1:=Zku (d:=d) (v:=v) hn'.1;unfold Zbv at*;rw[List.countP_cons,List.countP_cons,h1,Zby,if_neg (by simpa using hv),if_pos (by simpa using hd)]
  ·have h1:=ih hn'.2 ((List.mem_cons.1 hu).resolve_left (fun h=>e h.symm));unfold Zbv at*;rw[List.countP_cons,List.countP_cons,Zz _ _ e];omega
def Fits (dom:List α) (d:α→Int) (qu:List α):Prop:=Zbv dom d+qu.length≤dom.length
theorem Fits.push {dom:List α} {d:α→Int} {qu:List α} (h:Fits dom d qu) (hn:dom.Nodup) {u:α} (hu:u∈dom) (hd:d u<0) {v:Int} (hv:0≤v):Fits dom (Zcr d u v) (qu++[u])∧qu.length<dom.length:=by
 have:=ZcG hn hu hd hv;unfold Fits at*;rw[List.length_append,List.length_singleton];omega
structure BInv (ok:α→Bool) (ps:α→List α) (dom:List α) (root:α) (d:α→Int) (qu:List α):Prop where
 lo:∀u,-1≤d u
 q0:∀u∈qu,0≤d u
 nd:qu.Nodup
 srt:qu.Pairwise fun a b=>d a≤d b
 top:∀u,∀a∈qu,d u≤d a+1
 clo:∀v,0≤d v→v∉qu→∀u∈ps v,ok u=true→0≤d u∧d u≤d v+1
 par:∀u,0≤d u→u=root∨∃v,u∈ps v∧ok u=true∧0≤d v∧d v+1=d u
 z:∀u,d u=0↔u=root
 dm:∀u,0≤d u→u∈dom
 fit:Fits dom d qu
 cap:∀u,d u+1+(Zbv dom d:Int)≤(dom.length:Int)
structure RInv (ok:α→Bool) (ps:α→List α) (dom:List α) (root x:α) (dx:Int) (p:List α) (d:α→Int) (qu:List α):Prop where
 lo:∀u,-1≤d u
 q0:∀u∈qu,0≤d u
 nd:qu.Nodup
 srt:qu.Pairwise fun a b=>d a≤d b
 dxe:d x=dx
 dxp:0≤dx
 xq:x∉qu
 topx:∀u,d u≤dx+1
 qx:∀a∈qu,dx≤d a
 clo:∀v,0≤d v→v∉qu→v≠x→∀u∈ps v,ok u=true→0≤d u∧d u≤d v+1
 clox:∀u∈p,ok u=true→0≤d u∧d u≤dx+1
 par:∀u,0≤d u→u=root∨∃v,u∈ps v∧ok u=true∧0≤d v∧d v+1=d u
 z:∀u,d u=0↔u=root
 dm:∀u,0≤d u→u∈dom
 fit:Fits dom d qu
 cap:∀u,d u+1+(Zbv dom d:Int)≤(dom.length:Int)
variable {ok:α→Bool} {ps:α→List α} {dom:List α} {root:α}
theorem BInv.start (hr:root∈dom) (hn:dom.Nodup):BInv ok ps dom root (fun u=>if u=root then 0 else -1) [root]:=by
 refine⟨fun u=>by split<;>omega,fun u hu=>by rw[List.mem_singleton]at hu;rw[if_pos hu];omega,by simp,by simp,fun u a ha=> ?_,fun v hv hq=> ?_,fun u hu=> .inl ?_,fun u=> ?_,fun u hu=> ?_,?_,fun u=> ?_⟩
 ·rw[List.mem_singleton]at ha;rw[if_pos ha]
  split<;>omega
 ·exact absurd (by by_cases e:v=root
                   ·exact List.mem_singleton.2 e
                   ·rw[if_neg e]at hv;omega) hq
 ·by_cases e:u=root
  ·exact e
  ·rw[if_neg e]at hu;omega
 ·constructor
  ·intro h
   by_cases e:u=root
   ·exact e
   ·rw[if_neg e]at h;omega
  ·intro h;rw[if_pos h]
 ·by_cases e:u=root
  ·rw[e];exact hr
  ·rw[if_neg e]at hu;omega
 ·unfold Fits;have h1:=ZcG (d:=fun _=>(-1:Int)) (v:=0) hn hr (by omega) (by omega);have h2:Zbv dom (fun _:α=>(-1:Int))≤dom.length:=List.countP_le_length;have h3:Zcr (fun _:α=>(-1:Int)) root 0=fun u=>if u=root then 0 else -1:=rfl
  rw[h3]at h1;simp only[List.length_singleton];omega
 ·have h1:=ZcG (d:=fun _=>(-1:Int)) (v:=0) hn hr (by omega) (by omega);have h2:Zbv dom (fun _:α=>(-1:Int))≤dom.length:=List.countP_le_length;have h3:Zcr (fun _:α=>(-1:Int)) root 0=fun u=>if u=root then 0 else -1:=rfl
  rw[h3]at h1
  split<;>omega
end
theorem BInv.pop {α:Type} {ok:α→Bool} {ps:α→List α} {dom:List α} {root:α} {d:α→Int} {x:α} {qu:List α} (h:BInv ok ps dom root d (x::qu)):RInv ok ps dom root x (d x) [] d qu:=by
 have hs:=List.pairwise_cons.1 h.srt;have hn:=List.nodup_cons.1 h.nd
 exact⟨h.lo,fun u hu=>h.q0 u (List.mem_cons_of_mem _ hu),hn.2,hs.2,rfl,h.q0 x List.mem_cons_self,hn.1,fun u=>h.top u x List.mem_cons_self,hs.1,
  fun v hv hq hx=>h.clo v hv (fun e=>(List.mem_cons.1 e).elim hx hq),fun u hu=>(by cases hu),h.par,h.z,h.dm,by have:=h.fit;unfold Fits at*;simp only[List.length_cons]at this;omega,h.cap⟩
theorem RInv.skip {α:Type} {ok:α→Bool} {ps:α→List α} {dom:List α} {root:α} {x:α} {dx:Int} {p:List α} {d:α→Int} {qu:List α} {u:α} (h:RInv ok ps dom root x dx p d qu) (hs:¬((ok u&&decide (d u<0))=true)):RInv ok ps dom root x dx (p++[u]) d qu:=
 {h with
  clox:=fun v hv ho=>by
   rcases List.mem_append.1 hv with hv|hv
   ·exact h.clox v hv ho
   ·rw[List.mem_singleton]at hv;subst hv;have h1:¬d v<0:=fun e=>hs (by rw[ho,decide_eq_true e];rfl)
    exact⟨by omega,h.topx v⟩}
section
variable {α:Type} [DecidableEq α] {ok:α→Bool} {ps:α→List α} {dom:List α} {root:α}
theorem RInv.done {x:α} {dx:Int} {d:α→Int} {qu:List α} (h:RInv ok ps dom root x dx (ps x) d qu):BInv ok ps dom root d qu:=
 ⟨h.lo,h.q0,h.nd,h.srt,fun u a ha=>by have:=h.topx u;have:=h.qx a ha;omega,
  fun v hv hq u hu ho=>by
   by_cases e:v=x
   ·subst e;rw[h.dxe];exact h.clox u hu ho
   ·exact h.clo v hv hq e u hu ho,h.par,h.z,h.dm,h.fit,h.cap⟩
theorem RInv.push (hn:dom.Nodup) (hc:∀v∈dom,∀u∈ps v,ok u=true→u∈dom) {x:α} {dx:Int} {p:List α} {d:α→Int} {qu:List α} {u:α} (h:RInv ok ps dom root x dx p d qu) (hup:u∈ps x) (hs:(ok u&&decide (d u<0))=true):
  RInv ok ps dom root x dx (p++[u]) (Zcr d u (dx+1)) (qu++[u]):=by
 rw[Bool.and_eq_true,decide_eq_true_eq]at hs;obtain⟨ho,hd⟩:=hs;have hux:x≠u:=fun e=>by have:=h.dxe;have:=h.dxp;subst e;omega
 have huq:u∉qu:=fun e=>by have:=h.q0 u e;omega
 have hxd:x∈dom:=h.dm x (by have:=h.dxe;have:=h.dxp;omega);have hud:u∈dom:=hc x hxd u hup ho;have hdx0:=h.dxp;have ge:∀v,0≤d v→v≠u:=fun v hv e=>by subst e;omega
 constructor
 case lo=>
  intro v;unfold Zcr
  split
  ·omega
  ·exact h.lo v
 case q0=>
  intro v hv;rcases List.mem_append.1 hv with hv|hv
  ·rw[Zz _ _ (ge v (h.q0 v hv))];exact h.q0 v hv
  ·rw[List.mem_singleton]at hv;subst hv;rw[Zby];omega
 case nd=>
  rw[List.nodup_append];exact⟨h.nd,by simp,fun a ha b hb e=>by rw[List.mem_singleton]at hb;subst hb;subst e;exact huq ha⟩
 case srt=>
  rw[List.pairwise_append];refine⟨h.srt.imp_of_mem fun {a b} ha hb hab=> ?_,by simp,fun a ha b hb=> ?_⟩
  ·rw[Zz _ _ (ge a (h.q0 a ha)),Zz _ _ (ge b (h.q0 b hb))];exact hab
  ·rw[List.mem_singleton]at hb;subst hb;rw[Zby,Zz _ _ (ge a (h.q0 a ha))];exact h.topx a
 case dxe=>rw[Zz _ _ hux];exact h.dxe
 case dxp=>exact h.dxp
 case xq=>
  intro hx;rcases List.mem_append.1 hx with hx|hx
  ·exact h.xq hx
  ·rw[List.mem_singleton]at hx;exact hux hx
 case topx=>
  intro v;unfold Zcr
  split
  ·omega
  ·exact h.topx v
 case qx=>
  intro v hv;rcases List.mem_append.1 hv with hv|hv
  ·rw[Zz _ _ (ge v (h.q0 v hv))];exact h.qx v hv
  ·rw[List.mem_singleton]at hv;subst hv;rw[Zby];omega
 case clo=>
  intro v hv hq hvx y hy hoy;have hvu:v≠u:=fun e=>hq (List.mem_append_right _ (List.mem_singleton.2 e))
  rw[Zz _ _ hvu]at hv ⊢;have:=h.clo v hv (fun e=>hq (List.mem_append_left _ e)) hvx y hy hoy;rw[Zz _ _ (ge y this.1)];exact this
 case clox=>
  intro y hy hoy;rcases List.mem_append.1 hy with hy|hy
  ·have:=h.clox y hy hoy;rw[Zz _ _ (ge y this.1)];exact this
  ·rw[List.mem_singleton]at hy;subst hy;rw[Zby];omega
 case par=>
  intro v hv
  by_cases e:v=u
  ·subst e;refine .inr ⟨x,hup,ho,?_,?_⟩
   ·rw[Zz _ _ hux,h.dxe];exact h.dxp
   ·rw[Zz _ _ hux,Zby,h.dxe]
  ·rw[Zz _ _ e]at hv;rcases h.par v hv with h1|⟨y,h1,h2,h3,h4⟩
   ·exact .inl h1
   ·exact .inr ⟨y,h1,h2,by rw[Zz _ _ (ge y h3)];exact h3,by rw[Zz _ _ (ge y h3),Zz _ _ e];exact h4⟩
 case z=>
  intro v
  by_cases e:v=u
  ·subst e;rw[Zby]
   constructor
   ·intro h1;omega
   ·intro h1;have:=(h.z v).2 h1;omega
  ·rw[Zz _ _ e];exact h.z v
 case dm=>
  intro v hv
  by_cases e:v=u
  ·rw[e];exact hud
  ·rw[Zz _ _ e]at hv;exact h.dm v hv
 case fit=>exact(h.fit.push hn hud hd (by omega)).1
 case cap=>
  intro v;have h1:=ZcG (v:=dx+1) hn hud hd (by omega)
  by_cases e:v=u
  ·subst e;rw[Zby];have:=h.cap x;rw[h.dxe]at this;omega
  ·rw[Zz _ _ e];have:=h.cap v;omega
theorem RInv.all (hn:dom.Nodup) (hc:∀v∈dom,∀u∈ps v,ok u=true→u∈dom) {x:α} {dx:Int}:∀(l p:List α) (d:α→Int) (qu:List α),p++l=ps x→RInv ok ps dom root x dx p d qu→
  RInv ok ps dom root x dx (ps x) (ZaY ok dx l (d,qu)).1 (ZaY ok dx l (d,qu)).2
 |[],p,d,qu,hp,h=>by
  rw[List.append_nil]at hp;subst hp;exact h
 |u::l,p,d,qu,hp,h=>by
  have hp2:(p++[u])++l=ps x:=by rw[←hp];simp
  rw[Zez]
  by_cases hs:(ok u&&decide (d u<0))=true
  ·rw[if_pos hs];exact RInv.all hn hc l (p++[u]) _ _ hp2 (h.push hn hc (by rw[←hp];simp) hs)
  ·rw[if_neg hs];exact RInv.all hn hc l (p++[u]) _ _ hp2 (h.skip hs)
theorem Ze5 (hn:dom.Nodup) (hc:∀v∈dom,∀u∈ps v,ok u=true→u∈dom):∀(f:Nat) (d:α→Int) (qu:List α),BInv ok ps dom root d qu→Zbv dom d+qu.length≤f→BInv ok ps dom root (Zda ok ps f (d,qu)) []
 |0,d,qu,h,hf=>by
  have:qu=[]:=List.eq_nil_of_length_eq_zero (by omega);subst this;exact h
 |f+1,d,[],h,hf=>h
 |f+1,d,x::qu,h,hf=>by
  rw[ZjW];have h1:=RInv.all hn hc (ps x) [] d qu (by simp) h.pop;refine Ze5 hn hc f _ _ h1.done ?_
  have hm:∀(l:List α) (d':α→Int) (q':List α),(∀u∈l,ok u=true→u∈dom)→0≤d x→Zbv dom (ZaY ok (d x) l (d',q')).1+(ZaY ok (d x) l (d',q')).2.length=Zbv dom d'+q'.length:=by
   intro l
   induction l with
   |nil=>intro d' q' _ _;rfl
   |cons u l ih=>
    intro d' q' hl h0;rw[Zez]
    by_cases hs:(ok u&&decide (d' u<0))=true
    ·rw[if_pos hs,ih _ _ (fun v hv=>hl v (List.mem_cons_of_mem _ hv)) h0];rw[Bool.and_eq_true,decide_eq_true_eq]at hs;have:=ZcG (v:=d x+1) hn (hl u List.mem_cons_self hs.1) hs.2 (by omega);rw[List.length_append,List.length_singleton];omega
    ·rw[if_neg hs,ih _ _ (fun v hv=>hl v (List.mem_cons_of_mem _ hv)) h0]
  have h0:0≤d x:=h.q0 x List.mem_cons_self;rw[hm _ _ _ (fun u hu ho=>hc x (h.dm x h0) u hu ho) h0];simp only[List.length_cons]at hf;omega
end
end
end Go.Proofs.Ytdbjokfejmgepaa
