/- The search that goes wide, plain: what it comes to. -/
import Derived.WalkKit
namespace Go.Proofs.YtblplapkdmhikaaGreat
set_option linter.unusedVariables false
set_option linter.unusedSimpArgs false
section
def Zaf {α:Type} [DecidableEq α] (d:α→Int) (u:α) (v:Int):α→Int:=fun x=>if x=u then v else d x
section
variable {α:Type} [DecidableEq α]
theorem ZaV (d:α→Int) (u:α) (v:Int):Zaf d u v u=v:=if_pos rfl
theorem ZE (d:α→Int) {u x:α} (v:Int) (h:x≠u):Zaf d u v x=d x:=if_neg h
def ZbG (ok:α→Bool) (dx:Int):List α→(α→Int)×List α→(α→Int)×List α
 |[],s=>s
 |u::us,s=>ZbG ok dx us (if (ok u&&decide (s.1 u<0))=true then (Zaf s.1 u (dx+1),s.2++[u]) else s)
theorem ZfN (ok:α→Bool) (dx:Int) (u:α) (us:List α) (d:α→Int) (qu:List α):
  ZbG ok dx (u::us) (d,qu)=if (ok u&&decide (d u<0))=true then ZbG ok dx us (Zaf d u (dx+1),qu++[u]) else ZbG ok dx us (d,qu):=by
 show ZbG ok dx us _=_
 split<;>rfl
def Zb2 (dom:List α) (d:α→Int):Nat:=dom.countP fun u=>decide (d u<0)
theorem Zio {dom:List α} {d:α→Int} {u:α} {v:Int} (h:u∉dom):Zb2 dom (Zaf d u v)=Zb2 dom d:=by
 unfold Zb2
 apply List.countP_congr
 intro x hx;rw[ZE _ _ (show x≠u from fun e=>h (by rw[←e];exact hx))]
theorem Zfe {dom:List α} {d:α→Int} {u:α} {v:Int} (hn:dom.Nodup) (hu:u∈dom) (hd:d u<0) (hv:0≤v):Zb2 dom (Zaf d u v)+1=Zb2 dom d:=by
 induction dom with
 |nil=>cases hu
 |cons a l ih=>
  have hn':=List.nodup_cons.1 hn
  by_cases e:a=u
  ·subst e;have h1:=Zio (d:=d) (v:=v) hn'.1;unfold Zb2 at*;rw[List.countP_cons,List.countP_cons,h1,ZaV,if_neg (by simpa using hv),if_pos (by simpa using hd)]
  ·have h1:=ih hn'.2 ((List.mem_cons.1 hu).resolve_left (fun h=>e h.symm));unfold Zb2 at*;rw[List.countP_cons,List.countP_cons,ZE _ _ e];omega
def Fits (dom:List α) (d:α→Int) (qu:List α):Prop:=Zb2 dom d+qu.length≤dom.length
theorem Fits.push {dom:List α} {d:α→Int} {qu:List α} (h:Fits dom d qu) (hn:dom.Nodup) {u:α} (hu:u∈dom) (hd:d u<0) {v:Int} (hv:0≤v):Fits dom (Zaf d u v) (qu++[u])∧qu.length<dom.length:=by
 have:=Zfe hn hu hd hv;unfold Fits at*;rw[List.length_append,List.length_singleton];omega
structure BInv (ok:α→Bool) (ps:α→List α) (dom:List α) (root:α) (d:α→Int) (qu:List α):Prop where
 lo:∀u,-1≤d u
 q0:∀u∈qu,0≤d u
 nd:qu.Nodup
 srt:qu.Pairwise fun a b=>d a≤d b
 top:∀u,∀a∈qu,d u≤d a+1
 clo:∀v,0≤d v→v∉qu→∀u∈ps v,ok u=true→0≤d u∧d u≤d v+1
 par:∀u,0≤d u→u=root∨∃v,u∈ps v∧ok u=true∧0≤d v∧d v+1=d u
 z:∀u,d u=0↔u=root
 dm:∀u,0≤d u→u∈dom
 fit:Fits dom d qu
 cap:∀u,d u+1+(Zb2 dom d:Int)≤(dom.length:Int)
structure RInv (ok:α→Bool) (ps:α→List α) (dom:List α) (root x:α) (dx:Int) (p:List α) (d:α→Int) (qu:List α):Prop where
 lo:∀u,-1≤d u
 q0:∀u∈qu,0≤d u
 nd:qu.Nodup
 srt:qu.Pairwise fun a b=>d a≤d b
 dxe:d x=dx
 dxp:0≤dx
 xq:x∉qu
 topx:∀u,d u≤dx+1
 qx:∀a∈qu,dx≤d a
 clo:∀v,0≤d v→v∉qu→v≠x→∀u∈ps v,ok u=true→0≤d u∧d u≤d v+1
 clox:∀u∈p,ok u=true→0≤d u∧d u≤dx+1
 par:∀u,0≤d u→u=root∨∃v,u∈ps v∧ok u=true∧0≤d v∧d v+1=d u
 z:∀u,d u=0↔u=root
 dm:∀u,0≤d u→u∈dom
 fit:Fits dom d qu
 cap:∀u,d u+1+(Zb2 dom d:Int)≤(dom.length:Int)
variable {ok:α→Bool} {ps:α→List α} {dom:List α} {root:α}
end
theorem RInv.skip {α:Type} {ok:α→Bool} {ps:α→List α} {dom:List α} {root:α} {x:α} {dx:Int} {p:List α} {d:α→Int} {qu:List α} {u:α} (h:RInv ok ps dom root x dx p d qu) (hs:¬((ok u&&decide (d u<0))=true)):RInv ok ps dom root x dx (p++[u]) d qu:=
 {h with
  clox:=fun v hv ho=>by
   rcases List.mem_append.1 hv with hv|hv
   ·exact h.clox v hv ho
   ·rw[List.mem_singleton]at hv;subst hv;have h1:¬d v<0:=fun e=>hs (by rw[ho,decide_eq_true e];rfl)
    exact⟨by omega,h.topx v⟩}
section
variable {α:Type} [DecidableEq α] {ok:α→Bool} {ps:α→List α} {dom:List α} {root:α}
theorem RInv.done {x:α} {dx:Int} {d:α→Int} {qu:List α} (h:RInv ok ps dom root x dx (ps x) d qu):BInv ok ps dom root d qu:=
 ⟨h.lo,h.q0,h.nd,h.srt,fun u a ha=>by have:=h.topx u;have:=h.qx a ha;omega,
  fun v hv hq u hu ho=>by
   by_cases e:v=x
   ·subst e;rw[h.dxe];exact h.clox u hu ho
   ·exact h.clo v hv hq e u hu ho,h.par,h.z,h.dm,h.fit,h.cap⟩
theorem RInv.push (hn:dom.Nodup) (hc:∀v∈dom,∀u∈ps v,ok u=true→u∈dom) {x:α} {dx:Int} {p:List α} {d:α→Int} {qu:List α} {u:α} (h:RInv ok ps dom root x dx p d qu) (hup:u∈ps x) (hs:(ok u&&decide (d u<0))=true):
  RInv ok ps dom root x dx (p++[u]) (Zaf d u (dx+1)) (qu++[u]):=by
 rw[Bool.and_eq_true,decide_eq_true_eq]at hs;obtain⟨ho,hd⟩:=hs;have hux:x≠u:=fun e=>by have:=h.dxe;have:=h.dxp;subst e;omega
 have huq:u∉qu:=fun e=>by have:=h.q0 u e;omega
 have hxd:x∈dom:=h.dm x (by have:=h.dxe;have:=h.dxp;omega);have hud:u∈dom:=hc x hxd u hup ho;have hdx0:=h.dxp;have ge:∀v,0≤d v→v≠u:=fun v hv e=>by subst e;omega
 constructor
 case lo=>
  intro v;unfold Zaf
  split
  ·omega
  ·exact h.lo v
 case q0=>
  intro v hv;rcases List.mem_append.1 hv with hv|hv
  ·rw[ZE _ _ (ge v (h.q0 v hv))];exact h.q0 v hv
  ·rw[List.mem_singleton]at hv;subst hv;rw[ZaV];omega
 case nd=>
  rw[List.nodup_append];exact⟨h.nd,by simp,fun a ha b hb e=>by rw[List.mem_singleton]at hb;subst hb;subst e;exact huq ha⟩
 case srt=>
  rw[List.pairwise_append];refine⟨h.srt.imp_of_mem fun {a b} ha hb hab=> ?_,by simp,fun a ha b hb=> ?_⟩
  ·rw[ZE _ _ (ge a (h.q0 a ha)),ZE _ _ (ge b (h.q0 b hb))];exact hab
  ·rw[List.mem_singleton]at hb;subst hb;rw[ZaV,ZE _ _ (ge a (h.q0 a ha))];exact h.topx a
 case dxe=>rw[ZE _ _ hux];exact h.dxe
 case dxp=>exact h.dxp
 case xq=>
  intro hx;rcases List.mem_append.1 hx with hx|hx
  ·exact h.xq hx
  ·rw[List.mem_singleton]at hx;exact hux hx
 case topx=>
  intro v;unfold Zaf
  split
  ·omega
  ·exact h.topx v
 case qx=>
  intro v hv;rcases List.mem_append.1 hv with hv|hv
  ·rw[ZE _ _ (ge v (h.q0 v hv))];exact h.qx v hv
  ·rw[List.mem_singleton]at hv;subst hv;rw[ZaV];omega
 case clo=>
  intro v hv hq hvx y hy hoy;have hvu:v≠u:=fun e=>hq (List.mem_append_right _ (List.mem_singleton.2 e))
  rw[ZE _ _ hvu]at hv ⊢;have:=h.clo v hv (fun e=>hq (List.mem_append_left _ e)) hvx y hy hoy;rw[ZE _ _ (ge y this.1)];exact this
 case clox=>
  intro y hy hoy;rcases List.mem_append.1 hy with hy|hy
  ·have:=h.clox y hy hoy;rw[ZE _ _ (ge y this.1)];exact this
  ·rw[List.mem_singleton]at hy;subst hy;rw[ZaV];omega
 case par=>
  intro v hv
  by_cases e:v=u
  ·subst e;refine .inr ⟨x,hup,ho,?_,?_⟩
   ·rw[ZE _ _ hux,h.dxe];exact h.dxp
   ·rw[ZE _ _ hux,ZaV,h.dxe]
  ·rw[ZE _ _ e]at hv;rcases h.par v hv with h1|⟨y,h1,h2,h3,h4⟩
   ·exact .inl h1
   ·exact .inr ⟨y,h1,h2,by rw[ZE _ _ (ge y h3)];exact h3,by rw[ZE _ _ (ge y h3),ZE _ _ e];exact h4⟩
 case z=>
  intro v
  by_cases e:v=u
  ·subst e;rw[ZaV]
   constructor
   ·intro h1;omega
   ·intro h1;have:=(h.z v).2 h1;omega
  ·rw[ZE _ _ e];exact h.z v
 case dm=>
  intro v hv
  by_cases e:v=u
  ·rw[e];exact hud
  ·rw[ZE _ _ e]at hv;exact h.dm v hv
 case fit=>exact(h.fit.push hn hud hd (by omega)).1
 case cap=>
  intro v;have h1:=Zfe (v:=dx+1) hn hud hd (by omega)
  by_cases e:v=u
  ·subst e;rw[ZaV];have:=h.cap x;rw[h.dxe]at this;omega
  ·rw[ZE _ _ e];have:=h.cap v;omega
theorem RInv.all (hn:dom.Nodup) (hc:∀v∈dom,∀u∈ps v,ok u=true→u∈dom) {x:α} {dx:Int}:∀(l p:List α) (d:α→Int) (qu:List α),p++l=ps x→RInv ok ps dom root x dx p d qu→
  RInv ok ps dom root x dx (ps x) (ZbG ok dx l (d,qu)).1 (ZbG ok dx l (d,qu)).2
 |[],p,d,qu,hp,h=>by
  rw[List.append_nil]at hp;subst hp;exact h
 |u::l,p,d,qu,hp,h=>by
  have hp2:(p++[u])++l=ps x:=by rw[←hp];simp
  rw[ZfN]
  by_cases hs:(ok u&&decide (d u<0))=true
  ·rw[if_pos hs];exact RInv.all hn hc l (p++[u]) _ _ hp2 (h.push hn hc (by rw[←hp];simp) hs)
  ·rw[if_neg hs];exact RInv.all hn hc l (p++[u]) _ _ hp2 (h.skip hs)
end
end
end Go.Proofs.YtblplapkdmhikaaGreat
