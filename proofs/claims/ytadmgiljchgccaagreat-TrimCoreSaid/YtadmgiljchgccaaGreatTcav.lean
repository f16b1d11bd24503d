/- Where an id stands among rising ones; who is left without it: plain. -/
import Derived.Test.YtadmgiljchgccaaGreatTcao
import Derived.Test.YtadmgiljchgccaaGreatTcau
namespace Go.Proofs.YtadmgiljchgccaaGreat
open Go.RowKit
set_option linter.unusedVariables false
set_option linter.unusedSimpArgs false
theorem ZiW{l m:List HTx}(h:l.map txP=m.map txP):l.map HTx.nrm=m.map HTx.nrm:=by
 have e:HTx.nrm=(fun p:Int×Bool×Is=>(⟨p.1,p.2.1,p.2.2,none,0⟩:HTx)) ∘ txP:=rfl;rw[e,<-List.map_map,h,List.map_map]
theorem ZiX{l m:List HOrd}(h:l.map orP=m.map orP):l.map HOrd.nrm=m.map HOrd.nrm:=by
 have e:HOrd.nrm=(fun p:Int×Iv=>(⟨p.1,p.2,none,0⟩:HOrd)) ∘ orP:=rfl;rw[e,<-List.map_map,h,List.map_map]
theorem Zk6{l m:List HTx}(h:l.map HTx.nrm=m.map HTx.nrm)(i:Nat):(ZC l i).map HTx.nrm=(ZC m i).map HTx.nrm:=by
 unfold ZC;rw[Hu,Hu,List.map_take,List.map_take,List.map_drop,List.map_drop,h]
theorem ZqQ{l:List HTx}{i:Nat}{t:HTx}(h:t∈ZC l i):t∈l:=by
 unfold ZC at h;rcases Ib.1 h with h|h
 ·exact List.mem_of_mem_take h
 ·exact List.mem_of_mem_drop h
def LiesN(b:Nat)(w:I0)(v:Iz)(g:Hist):Prop:=∃x:Hist,v=x.val∧x.lies (fun i=>b<=i) w∧x.nrm=g.nrm
theorem LiesN.open{b:Nat}{w:I0}{v:Iz}{g:Hist}(h:LiesN b w v g):∃xt xo xA xc xB xd,v= .agg #[.slice xA (List.length xt) xc,.slice xB (List.length xo) xd]∧Hist.lies (fun i=>b<=i) w ⟨xt,xo,xA,xc,xB,xd⟩∧Hist.nrm ⟨xt,xo,xA,xc,xB,xd⟩=g.nrm:=by
 obtain⟨⟨xt,xo,xA,xc,xB,xd⟩,e,h1,h2⟩:=h;exact⟨xt,xo,xA,xc,xB,xd,e,h1,h2⟩
def Zaw(l:List HTx)(id:Int):Nat:=(l.filter fun t=>decide (t.id<id)).length
theorem ZeX(a b:Int):Zw a b<0↔a<b:=by
 unfold Zw
 split
 ·simp_all
 ·split
  ·simp;omega
  ·simp;omega
theorem ZmX(a b:Int):(Zw a b==0)=(a==b):=by
 unfold Zw
 split
 ·rw[beq_eq_false_iff_ne.2 (by omega:a≠b)];rfl
 ·split
  ·rw[beq_eq_false_iff_ne.2 (by omega:a≠b)];rfl
  ·rw[beq_iff_eq.2 (by omega:a=b)];rfl
theorem ZdH:∀(l:List HTx) (id:Int),(l.map (·.id)).Pairwise (·<·)->Zm4 l id (Zaw l id)
 |[],id,_=>⟨Nat.le_refl _,fun k hk=>by simp at hk⟩
 |t::l,id,h=>by
  rw[Id,Gr]at h;obtain⟨h1,h2⟩:=ZdH l id h.2
  by_cases e:t.id<id
  ·have hp:Zaw (t::l) id=Zaw l id+1:=by unfold Zaw;rw[List.filter_cons_of_pos (by simpa using e)];rfl
   rw[hp];refine⟨by simpa using h1,fun k hk=>?_⟩
   cases k with
   |zero=>rw[ZeX];simp[e]
   |succ k=>have:=h2 k (by simpa using hk);simp only[Gf];rw[this];omega
  ·have hp:Zaw (t::l) id=0:=by
    unfold Zaw;rw[List.filter_cons_of_neg (by simpa using e)];rw[List.length_eq_zero_iff,List.filter_eq_nil_iff];intro u hu;have:=h.1 u.id (Ih.2 ⟨u,hu,rfl⟩);simp;omega
   rw[hp];refine⟨Nat.zero_le _,fun k hk=>?_⟩;rw[ZeX]
   constructor
   ·intro hh
    exfalso
    cases k with
    |zero=>exact e hh
    |succ k=>
     have:=h.1 (l[k]'(by simpa using hk)).id (Ih.2 ⟨_,Hg _,rfl⟩);simp only[Gf]at hh;omega
   ·intro hh;omega
theorem ZgU{l:List HTx}{id:Int}(h:(l.map (·.id)).Pairwise (·<·)):Zcu l id (Zaw l id)=(Ze l id).isSome:=by
 obtain⟨h1,h2⟩:=ZdH l id h;unfold Zcu
 cases hf:l[Zaw l id]? with
 |none=>
  have du:l.length<=Zaw l id:=List.getElem?_eq_none_iff.1 hf
  have:Ze l id=none:=by
   unfold Ze;rw[Gs];intro t ht e;obtain⟨k,hk,rfl⟩:=Gl.1 ht;have h3:=(h2 k hk).2 (by omega);rw[ZeX]at h3;simp at e;omega
  rw[this];rfl
 |some t=>
  obtain⟨hk,rfl⟩:=List.getElem?_eq_some_iff.1 hf
  show(Zw (l[Zaw l id]).id id==0)=_
  rw[ZmX]
  cases e:((l[Zaw l id]).id==id)with
  |true=>
   symm
   unfold Ze;rw[List.find?_isSome];exact⟨_,Hg hk,e⟩
  |false=>
   have:Ze l id=none:=by
    unfold Ze;rw[Gs];intro t ht e2;obtain⟨k,hk2,rfl⟩:=Gl.1 ht;have e3:(l[k]).id=id:=by simpa using e2
    have h3:¬k<Zaw l id:=fun hh=>by
     have:=(h2 k hk2).2 hh;rw[ZeX]at this;omega
    rcases Nat.lt_or_ge (Zaw l id) k with h4|h4
    ·have h5:=List.pairwise_iff_getElem.1 h (Zaw l id) k (by simpa using hk) (by simpa using hk2) h4;simp only[G8]at h5;have h6:¬Zaw l id<Zaw l id:=Nat.lt_irrefl _;have h7:¬(l[Zaw l id]).id<id:=fun hh=>h6 ((h2 _ hk).1 ((ZeX _ _).2 hh))
     omega
    ·have:k=Zaw l id:=by omega
     subst this;rw[e2]at e;cases e
   rw[this];rfl
theorem Zk5:∀{l:List HTx} {id:Int},(l.map (·.id)).Pairwise (·<·)->Zcu l id (Zaw l id)=true->ZC l (Zaw l id)=Zao l id
 |[],id,_,h=>by simp[Zcu]at h
 |t::l,id,hp,h=>by
  rw[Id,Gr]at hp
  by_cases e:t.id<id
  ·have hq:Zaw (t::l) id=Zaw l id+1:=by unfold Zaw;rw[List.filter_cons_of_pos (by simpa using e)];rfl
   rw[hq]at h ⊢;have ih:=Zk5 hp.2 (show Zcu l id (Zaw l id)=true by unfold Zcu at h ⊢;simpa using h);unfold ZC Zao at ih ⊢;rw[List.filter_cons_of_pos (by simp;omega),<-ih];rfl
  ·have hq:Zaw (t::l) id=0:=by
    unfold Zaw;rw[List.filter_cons_of_neg (by simpa using e),List.length_eq_zero_iff,List.filter_eq_nil_iff];intro u hu;have:=hp.1 u.id (Ih.2 ⟨u,hu,rfl⟩);simp;omega
   rw[hq]at h ⊢
   have he:t.id=id:=by
    unfold Zcu at h;rw[Qz]at h;simp only[ZmX]at h
    simpa using h
   unfold ZC Zao
   rw[List.filter_cons_of_neg (by simpa using he),List.filter_eq_self.2 (fun u hu=>by
    have:=hp.1 u.id (Ih.2 ⟨u,hu,rfl⟩);simp;omega)]
   rfl
