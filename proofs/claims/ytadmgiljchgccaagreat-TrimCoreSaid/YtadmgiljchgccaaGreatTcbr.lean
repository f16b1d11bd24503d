/- Witnesses, plain: there is one just if the history has the phenomenon; it is right, and none that is right is ahead of it. -/
import Derived.Test.YtadmgiljchgccaaGreatTcbl
import Derived.Test.YtadmgiljchgccaaGreatTcbq
namespace Go.Proofs.YtadmgiljchgccaaGreat
open Go.RowKit
set_option linter.unusedVariables false
set_option linter.unusedSimpArgs false
set_option maxRecDepth 100000
set_option maxHeartbeats 8000000
section
variable {h:Hist}
theorem mem_pl{e:Edge}:e∈ZM (ZB h)↔(Zb h&&ZS h e)=true:=by
 unfold ZM;rw[Ih,Hj]
 constructor
 ·rintro⟨x,hx,rfl⟩;have hr:=ZmK hx;refine⟨hr,?_⟩;rw[<-ZmV hr];exact Qt (Nat.pos_of_ne_zero ((Zb7 hr).1 hx).1)
 ·rintro⟨hr,he⟩;rw[<-ZmV hr,Gw]at he;exact⟨⟨e,(Zap h e:Int)⟩,(Zb7 hr).2 ⟨by simp only;omega,rfl⟩,rfl⟩
theorem ZiL(hl:Zd h=true):(ZM (ZB h)).length<=1152:=by unfold ZM;rw[Hw];exact Zfe hl
theorem Zip:∀(txs:List HTx) (p:Int) (t:HTx) (l:Is) (i:Nat) (acc:Ir),(acc.Pairwise fun a b=>Zc7 b a=false)->(∀a∈acc,a.tx<t.id∨(a.tx=t.id∧a.place<(i:Int)))->((Zce txs p t i acc l).Pairwise fun a b=>Zc7 b a=false)∧∀a∈Zce txs p t i acc l,a.tx<t.id∨a.tx=t.id
 |_,_,_,[],_,_,h1,h2=>⟨h1,fun a ha=>(h2 a ha).elim Or.inl fun h=>Or.inr h.1⟩
 |txs,p,t,o::l,i,acc,h1,h2=>by
  unfold Zce
  split
  ·refine Zip txs p t l (i+1) _ ?_ ?_
   ·rw[Gm];refine⟨h1,List.pairwise_singleton _ _,fun a ha b hb=>?_⟩;rw[Gq.1 hb];unfold Zc7;rcases h2 a ha with h|⟨h,h3⟩
    ·rw[if_pos (by simp only;omega)];exact Qf (by simp only;omega)
    ·rw[if_neg (by simp only;omega),if_pos (by simp only;omega)];exact Qf (by simp only;omega)
   ·intro a ha;rcases Ib.1 ha with ha|ha
    ·rcases h2 a ha with h|⟨h,h3⟩
     ·exact Or.inl h
     ·exact Or.inr ⟨h,by omega⟩
    ·rw[Gq.1 ha];exact Or.inr ⟨rfl,by simp only;omega⟩
  ·exact Zip txs p t l (i+1) acc h1 fun a ha=>(h2 a ha).elim Or.inl fun h=>Or.inr ⟨h.1,by omega⟩
theorem Zlc(txs:List HTx)(p:Int):∀(l:List HTx) (acc:Ir),(l.map (·.id)).Pairwise (·<·)->(acc.Pairwise fun a b=>Zc7 b a=false)->(∀a∈acc,∀t∈l,a.tx<t.id)->(ZcY txs p acc l).Pairwise fun a b=>Zc7 b a=false
 |[],_,_,h1,_=>h1
 |t::l,acc,hn,h1,h2=>by
  unfold ZcY;rw[Id,Gr]at hn;obtain⟨k1,k2⟩:=Zip txs p t t.ops 0 acc h1 fun a ha=>Or.inl (h2 a ha t (Gv ..))
  refine Zlc txs p l _ hn.2 k1 fun a ha u hu=>?_
  have h3:=hn.1 u.id (Ih.2 ⟨u,hu,rfl⟩);rcases k2 a ha with h|h<;>omega
theorem ZrL{p:Int}{b:HBad}{l:Ir}(hb:ZW h p=b::l)(a:HBad)(ha:a∈ZW h p):Zc7 a b=false:=by
 have hr:Zb h=true:=by
  cases hq:Zb h with
  |true=>rfl
  |false=>unfold ZW at hb;rw[hq]at hb;cases hb
 have hs:=Zlc h.txs p h.txs [] (Zbf hr) List.Pairwise.nil (fun a ha=>by cases ha);have he:ZcY h.txs p [] h.txs=b::l:=by unfold ZW at hb;rw[if_pos hr]at hb;exact hb
 rw[he,Gr]at hs;rw[hb]at ha;rcases Ie.1 ha with rfl|ha
 ·unfold Zc7;simp
 ·exact hs.1 a ha
theorem ZsR(p:Int):Zak (ZaU p)= !(ZaU p==0):=by
 unfold ZaU
 split
 ·rfl
 ·rfl
theorem Zja{l:List Edge}(hk:∀e∈l,1<=e.k∧e.k<=3)(hc:Zan l=true)(p:Int):ZfE (ZcH l) p=Zfc l (Zal p) (ZaU p):=by
 have h1:(bits .andNot .i64 (ZcH l) (Zal p)==0)=l.all fun e=>Zy (Zal p) e.k:=by
  unfold ZcH;rw[Znt,Bool.eq_iff_iff,Bool.not_eq_true',Hd];simp only[Bool.or_eq_false_iff,Bool.and_eq_false_iff,Bool.not_eq_false']
  constructor
  ·rintro⟨g1,g2,g3⟩ e he;obtain⟨k1,k2⟩:=hk e he;unfold Zy;rw[Qt k1,Qt k2,Bool.true_and,Bool.true_and];rcases(show e.k=1∨e.k=2∨e.k=3 by omega)with hq|hq|hq
   ·rw[hq];exact g1.resolve_left fun g=>by rw[hasK_iff.2 ⟨e,he,hq⟩]at g;cases g
   ·rw[hq];exact g2.resolve_left fun g=>by rw[hasK_iff.2 ⟨e,he,hq⟩]at g;cases g
   ·rw[hq];exact g3.resolve_left fun g=>by rw[hasK_iff.2 ⟨e,he,hq⟩]at g;cases g
  ·intro g
   have key:∀k:Int,Zba l l.length k=false∨Zf (Zal p) k=true:=by
    intro k
    cases hq:Zba l l.length k with
    |false=>exact Or.inl rfl
    |true=>
     obtain⟨e,he,rfl⟩:=hasK_iff.1 hq;have:=g e he;unfold Zy at this;rw[Hj,Hj]at this;exact Or.inr this.2.2
   exact⟨key 1,key 2,key 3⟩
 unfold ZfE Zfc;rw[h1,hc,Bool.true_and,ZsR,Bool.not_not];rfl
theorem ZmM{all d:List Edge}{mask must:Int}(hl:all.length<=100000)(hd:ZaQ all mask must=d)(hne:d≠[]):Zfc d mask must=true∧Zan d=true∧∀e∈d,e∈all:=by
 have hs:=Zpp (l:=all) (mask:=mask) (must:=must) hl;rw[hd]at hs;rcases hs with hs|hs
 ·have hc:=Zp9 hs (List.length_pos_iff.2 hne);have hk:∀e∈d,1<=e.k∧e.k<=3:=fun e he=>⟨(hs.kind e he).1.1,(hs.kind e he).1.2.1⟩
  refine⟨?_,hc,fun e he=>(hs.kind e he).2⟩;unfold Zfc;rw[hc,Bool.true_and,Hj,Hd];refine⟨fun e he=>?_,?_⟩
  ·obtain⟨k1,k2,k3⟩:=(hs.kind e he).1;unfold Zy;rw[Qt k1,Qt k2,k3];rfl
  ·cases hn:Zak must with
   |false=>rfl
   |true=>rw[Zmj hk,hs.has hn];rfl
 ·exact absurd hs hne
theorem ZgH(hl:Zd h=true)(p:Int):(ofX h p).2=Z7 h p:=by
 unfold ofX Z7
 split
 ·cases hb:ZW h p with
  |nil=>rfl
  |cons b l=>simp[ZcQ]
 ·unfold Zd3;have hd:=Zqf (ZM (ZB h)) (Zal p) (ZaU p) (by have:=ZiL hl;omega)
  split
  ·rename_i hm;rw[hm,ZiF]
  ·split
   ·rename_i he
    cases hq:Zcg (ZM (ZB h)) (Zal p) (ZaU p)with
    |false=>rfl
    |true=>exact absurd he (hd.1 hq)
   ·rename_i he
    exact(hd.2 he).symm
theorem Zf6(hl:Zd h=true)(p:Int):Zp h (ofX h p).1.p (ofX h p).1.walk (ofX h p).1.read=(ofX h p).2:=by
 have hz:Zp h zeroW.p zeroW.walk zeroW.read=false:=by unfold Zp zeroW;simp[Zal]
 unfold ofX
 split
 ·rename_i hp
  cases hb:ZW h p with
  |nil=>exact hz
  |cons b l=>
   have hm:(ZW h p).contains b=true:=by rw[hb];simp
   rw[ZrK,Hj]at hm;unfold ZcQ Zp;simp only;rw[hm.1,if_pos hp,hm.2];rfl
 ·rename_i hp
  unfold Zd3
  split
  ·exact hz
  ·rename_i hm
   split
   ·exact hz
   ·rename_i he
    obtain⟨d,hd⟩:=Qe (ZaQ (ZM (ZB h)) (Zal p) (ZaU p));rw[hd]at he ⊢;obtain⟨h1,h2,h3⟩:=ZmM (by have:=ZiL hl;omega) hd he;have ah:∀e∈d,(Zb h&&ZS h e)=true:=fun e he=>mem_pl.1 (h3 e he)
    obtain⟨e0,f7⟩:=List.exists_mem_of_ne_nil d he;have hr:Zb h=true:=by have:=ah e0 f7;rw[Hj]at this;exact this.1
    have hk:∀e∈d,1<=e.k∧e.k<=3:=fun e he=>by
     have:=ah e he;rw[Hj]at this;have:=ZkY this.2;omega
    unfold Zp;simp only;rw[hr,if_neg hp,h2,Zja hk h2,h1,show d.all (ZS h)=true from Hd.2 fun e he=>by have:=ah e he;rw[Hj]at this;exact this.2];simp[hm,ZdJ]
theorem ZoW(a:HBad):Zc7 a a=false:=by unfold Zc7;simp
theorem ZlR(hl:Zd h=true){w:HWit}(hw:Zp h w.p w.walk w.read=true):(ofX h w.p).2=true∧ZoV w (ofX h w.p).1=false:=by
 unfold Zp at hw;rw[Hj]at hw;obtain⟨hr,hw⟩:=hw;unfold ofX
 split at hw
 ·rename_i hp
  rw[if_pos hp];rw[Hj,Gw]at hw;have hm:(ZW h w.p).contains w.read=true:=by rw[ZrK,hr,hw.2];rfl
  have bh:w.read∈ZW h w.p:=by simpa using hm
  cases hb:ZW h w.p with
  |nil=>rw[hb]at bh;cases bh
  |cons b l=>
   refine⟨rfl,?_⟩;unfold ZoV ZcQ;simp only;rw[if_pos (Gd hw.1)];exact ZrL hb _ bh
 ·rename_i hp
  rw[if_neg hp];simp only[Hj]at hw;obtain⟨⟨⟨⟨g1,g2⟩,g3⟩,g4⟩,g5⟩:=hw;have hm:¬Zal w.p=0:=by simpa using g1
  have ah:∀e∈w.walk,e∈ZM (ZB h):=fun e he=>mem_pl.2 (by rw[hr,Hd.1 g5 e he];rfl)
  have hk:∀e∈w.walk,1<=e.k∧e.k<=3:=fun e he=>by
   have:=ZkY (Hd.1 g5 e he);omega
  rw[Zja hk g3]at g4;have au:(ZM (ZB h)).length<=100000:=by have:=ZiL hl;omega
  unfold Zd3;rw[if_neg hm];obtain⟨d,hd⟩:=Qe (ZaQ (ZM (ZB h)) (Zal w.p) (ZaU w.p));rw[hd]
  by_cases he:d=[]
  ·have:=Zo8 au ah (hd.trans he);rw[g4]at this;cases this
  ·rw[if_neg he];refine⟨rfl,?_⟩;unfold ZoV;simp only;have hrd:w.read=ZdJ:=by simpa using g2
   split
   ·rw[hrd];exact ZoW _
   ·exact Zo9 au ah hd (List.length_pos_iff.2 he) g4
end
/- A witness without one whom it does not name,plain. -/
theorem ZsQ{id:Int}{l:Is}{o:HOp}(ho:o∈l)(hf:Zch id o=true):Zk o∈ZbS id l:=by
 obtain⟨j,hj,rfl⟩:=Gl.1 ho;exact ZgI id l l.length (Nat.le_refl _) j hj hj hf
section
variable {h:Hist} {id:Int}
theorem ZsF{l:Iv}{i:Nat}{x y:Int}(h1:(0::l)[i]? =some x)(h2:l[i]? =some y)(hx:x≠id)(hy:y≠id)(h0:(0:Int)≠id):
  ∃j:Nat,(0::l.filter fun n=> !(n==id))[j]? =some x∧(l.filter fun n=> !(n==id))[j]? =some y:=by
 have k:∀(m:Iv) (i:Nat),m[i]? =some x->m[i+1]? =some y->∃j:Nat,(m.filter fun n=> !(n==id))[j]? =some x∧(m.filter fun n=> !(n==id))[j+1]? =some y:=by
  intro m
  induction m with
  |nil=>intro i a _;simp at a
  |cons a m ih=>
   intro i h1 h2
   cases i with
   |zero=>
    simp only[Qz,Gy]at h1;subst h1;rw[Qs]at h2
    cases m with
    |nil=>simp at h2
    |cons b m=>
     simp only[Qz,Gy]at h2;subst h2;refine⟨0,?_,?_⟩
     ·simp[hx]
     ·simp[hx,hy]
   |succ i=>
    obtain⟨j,e1,e2⟩:=ih i (by simpa using h1) (by simpa using h2)
    by_cases e:a=id
    ·refine⟨j,?_,?_⟩
     ·simpa[e]using e1
     ·simpa[e]using e2
    ·refine⟨j+1,?_,?_⟩
     ·simpa[e]using e1
     ·simpa[e]using e2
 have k2:=k (0::l) i h1 (by simpa using h2);have e:(0::l).filter (fun n=> !(n==id))=0::l.filter fun n=> !(n==id):=by simp[h0]
 rw[e]at k2;obtain⟨j,e1,e2⟩:=k2;exact⟨j,e1,by simpa using e2⟩
theorem Zv7{key x y:Int}(hn:Nx h.ords key x y)(hx:x≠id)(hy:y≠id)(h0:(0:Int)≠id):Nx (ZaL h id).ords key x y:=by
 obtain⟨o,ho,hk,i,h1,h2⟩:=hn;obtain⟨j,e1,e2⟩:=ZsF h1 h2 hx hy h0;exact⟨ZeV id o,mem_delO.2 ⟨o,ho,rfl,fun e=>by rw[e]at e2;simp at e2⟩,hk,j,e1,e2⟩
theorem Zgm{i:Int}(hi:i≠id):Zh (Zao h.txs id) i=Zh h.txs i:=by unfold Zh;rw[Zil hi]
theorem Zms{v:Ver}(hi:v.tx≠id):ZU (Zao h.txs id) v=ZU h.txs v:=by unfold ZU;rw[Zgm hi]
def Zdp(txs:List HTx)(id:Int):Bool:=txs.all fun u=>(ZbS u.id u.ops).all fun v=> !(v.tx==id)
theorem ZpZ(hu:Zdp h.txs id=true)(h0:(0:Int)≠id){t:HTx}(ht:t∈h.txs){o:HOp}(ho:o∈t.ops)(hr:o.read=true)(hn:o.tx≠t.id):o.tx≠id:=fun e=>by
 unfold Zdp at hu;rw[Hd]at hu;have:=hu t ht;rw[Hd]at this;have h2:=this (Zk o) (ZsQ ho (by unfold Zch Zk;rw[hr];simp;omega));unfold Zk at h2;rw[hr]at h2;simp at h2;exact h2 e
theorem Ztp(hr:Zb h=true)(fX:Zb (ZaL h id)=true)(h0:(0:Int)≠id)(hu:Zdp h.txs id=true){e:Edge}(hf:e.f≠id)(ht:e.t≠id)(he:ZS h e=true):ZS (ZaL h id) e=true:=by
 unfold ZS at he ⊢;have d1:Zh (ZaL h id).txs e.f=Zh h.txs e.f:=Zgm hf;have d2:Zh (ZaL h id).txs e.t=Zh h.txs e.t:=Zgm ht;rw[d1,d2]
 cases ha:Zh h.txs e.f with
 |none=>rw[ha]at he;cases he
 |some a=>
  cases hb:Zh h.txs e.t with
  |none=>rw[ha,hb]at he;cases he
  |some b=>
   rw[ha,hb]at he;simp only at he ⊢
   have nx:∀key x y,x≠id->y≠id->Zav h.ords key x y=true->Zav (ZaL h id).ords key x y=true:=fun key x y hx hy hh=>
    (ZcG fX key x y).2 (Zv7 ((ZcG hr key x y).1 hh) hx hy h0)
   by_cases e0:e.f=e.t
   ·rw[if_pos e0]at he;cases he
   ·rw[if_neg e0]at he ⊢
    by_cases e1:e.k=1
    ·rw[if_pos e1]at he ⊢;exact nx _ _ _ hf ht he
    ·rw[if_neg e1]at he ⊢
     by_cases e2:e.k=2
     ·rw[if_pos e2]at he ⊢;unfold ZaW at he ⊢;rw[Ha]at he ⊢;obtain⟨o,ho,hh⟩:=he;refine⟨o,ho,?_⟩;simp only[Hj,beq_iff_eq]at hh ⊢;refine⟨hh.1,hh.2.1,?_⟩;have:ZU (Zao h.txs id) (Zk o)=ZU h.txs (Zk o):=Zms (by rw[hh.2.1];exact hf);exact this.trans hh.2.2
     ·rw[if_neg e2]at he ⊢
      by_cases e3:e.k=3
      ·rw[if_pos e3]at he ⊢;unfold ZaW at he ⊢;rw[Ha]at he ⊢;obtain⟨o,ho,hh⟩:=he;refine⟨o,ho,?_⟩;simp only[Hj,beq_iff_eq,Bool.not_eq_true',beq_eq_false_iff_ne]at hh ⊢;have hm:=Zck (ZaK ha).1;have hv:(Zk o).tx=o.tx:=by unfold Zk;rw[hh.1.1.1];rfl
       have hne:(Zk o).tx≠id:=by rw[hv];exact ZpZ hu h0 hm.1 ho hh.1.1.1 hh.1.2
       refine⟨hh.1,?_,nx _ _ _ hne ht hh.2.2⟩;exact(Zms hne:ZU (Zao h.txs id) (Zk o)=_).trans hh.2.1
      ·rw[if_neg e3]at he;cases he
theorem Zvz{p:Int}{b:HBad}(h1:b.tx≠id)(h2:b.of.tx≠id)(hb:ZaS h.txs p b=true):ZaS (Zao h.txs id) p b=true:=by
 unfold ZaS at hb ⊢;rw[Zgm h1]
 cases hd:Zh h.txs b.tx with
 |none=>rw[hd]at hb;cases hb
 |some t=>
  rw[hd]at hb;simp only at hb ⊢
  by_cases e0:b.place<0
  ·rw[if_pos e0]at hb;cases hb
  ·rw[if_neg e0]at hb ⊢
   cases ho:t.ops[b.place.toNat]? with
   |none=>rw[ho]at hb;cases hb
   |some o=>
    rw[ho]at hb;simp only at hb ⊢
    by_cases e1:(!o.read|| !(Zk o==b.of)||o.tx==0||o.tx==t.id)=true
    ·rw[if_pos e1]at hb;cases hb
    ·rw[if_neg e1]at hb ⊢;simp only[Ia,Bool.not_eq_true',not_or,beq_iff_eq,beq_eq_false_iff_ne]at e1;have hr:o.read=true:=by simpa using e1.1.1.1
     have hv:Zk o=b.of:=by simpa using e1.1.1.2
     have:o.tx≠id:=by
      have:(Zk o).tx=o.tx:=by unfold Zk;rw[hr];rfl
      rw[<-this,hv];exact h2
     rw[Zil this];exact hb
def ZdR(walk:List Edge)(b:HBad):Iv:=if walk=[] then [b.tx,b.of.tx] else walk.map (·.f)
theorem ZpE(hr:Zb h=true)(fX:Zb (ZaL h id)=true)(h0:(0:Int)≠id)(hu:Zdp h.txs id=true){p:Int}{l:List Edge}{b:HBad}(hn:id∉ZdR l b)(ha:Zp h p l b=true):Zp (ZaL h id) p l b=true:=by
 unfold Zp at ha ⊢;rw[hr,Bool.true_and]at ha;rw[fX,Bool.true_and]
 by_cases hp:p=2∨p=3
 ·rw[if_pos hp]at ha ⊢;rw[Hj,Gw]at ha ⊢;have:l=[]:=Gd ha.1;unfold ZdR at hn;rw[if_pos this]at hn;simp only[Ie,G6,or_false,not_or]at hn;exact⟨ha.1,Zvz (fun e=>hn.1 e.symm) (fun e=>hn.2 e.symm) ha.2⟩
 ·rw[if_neg hp]at ha ⊢;simp only[Hj]at ha ⊢;obtain⟨⟨⟨h1,h2⟩,h3⟩,h4⟩:=ha;refine⟨⟨⟨h1,h2⟩,h3⟩,?_⟩;rw[Hd]at h4 ⊢;have hne:l≠[]:=fun e=>by subst e;simp[Zan]at h2
  unfold ZdR at hn;rw[if_neg hne]at hn;intro e he;refine Ztp hr fX h0 hu (fun k=>hn (Ih.2 ⟨e,he,k⟩)) (fun k=>?_) (h4 e he);obtain⟨j,hj,rfl⟩:=Gl.1 he;have hc:=ZrB h2 hj;have hl:(j+1)%l.length<l.length:=Nat.mod_lt _ (by omega);rw[Qg hj,Qg hl]at hc;simp only[Option.map_some,Gy]at hc;exact hn (Ih.2 ⟨_,Hg hl,hc.symm.trans k⟩)
theorem Znb(hu:Zdp h.txs id=true):ZbJ h.txs id=false:=by
 unfold ZbJ;rw[List.any_eq_false];intro t ht hh;rw[Hj,Ha]at hh;obtain⟨v,hv,h2⟩:=hh.2;unfold Zdp at hu;rw[Hd]at hu;have:=hu t ht;rw[Hd]at this;have:=this v hv;rw[Hj]at h2;rw[h2.1]at this
 cases this
end
/- Witnesses,plain:what is told of a history's witness,in its parts. -/
section
variable {h:Hist} {p:Int}
theorem ZnN(hp:p=2∨p=3)(ht:(ofX h p).2=true):∃b l,ZW h p=b::l∧ofX h p=(⟨p,[],b⟩,true):=by
 unfold ofX at*;rw[if_pos hp]at*
 cases hb:ZW h p with
 |nil=>rw[hb]at ht;cases ht
 |cons b l=>exact⟨b,l,rfl,rfl⟩
theorem ZnM(hl:Zd h=true)(hp:¬(p=2∨p=3))(ht:(ofX h p).2=true):¬Zal p=0∧∃d,d≠[]∧ofX h p=(⟨p,d,ZdJ⟩,true)∧Zan d=true∧∀e∈d,(Zb h&&ZS h e)=true:=by
 unfold ofX at*;rw[if_neg hp]at*;unfold Zd3 at*
 split at ht
 ·cases ht
 ·rename_i hm
  rw[if_neg hm]
  split at ht
  ·cases ht
  ·rename_i he
   rw[if_neg he];obtain⟨d,hd⟩:=Qe (ZaQ (ZM (ZB h)) (Zal p) (ZaU p));rw[hd]at he ⊢;obtain⟨_,h2,h3⟩:=ZmM (by have:=ZiL hl;omega) hd he;exact⟨hm,d,he,rfl,h2,fun e he=>mem_pl.1 (h3 e he)⟩
end
/- The core of a history,plain. -/
def Za8(h:Hist)(p:Int):Iv:=if (ofX h p).2=true then ZJ (ZdR (ofX h p).1.walk (ofX h p).1.read) else []
section
variable {h:Hist} {p:Int}
theorem Zv6(hl:Zd h=true)(ht:(ofX h p).2=true):(ofX h p).1.p=p:=by
 by_cases hp:p=2∨p=3
 ·obtain⟨b,l,_,e⟩:=ZnN hp ht;rw[e]
 ·obtain⟨_,d,_,e,_⟩:=ZnM hl hp ht;rw[e]
theorem Zh3(ht:(ofX h p).2=true){i:Int}:i∈Za8 h p↔i∈ZdR (ofX h p).1.walk (ofX h p).1.read:=by
 unfold Za8;rw[if_pos ht,ZdX]
theorem Zrw(hl:Zd h=true)(hr:Zb h=true)(hh:Z7 h p=true){t:HTx}(ht:t∈h.txs)(hg:goT p h t.id=false)(hu:Zdp h.txs t.id=true):t.id∈Za8 h p:=by
 have h2:(ofX h p).2=true:=(ZgH hl p).trans hh;rw[Zh3 h2]
 apply Classical.byContradiction
 intro hn;have jz:=Znb hu;have fX:=Zk4 hr jz;have h0:(0:Int)≠t.id:=by have:=ZfY hr ht;omega
 have ha:Zp h (ofX h p).1.p (ofX h p).1.walk (ofX h p).1.read=true:=(Zf6 hl p).trans h2;have yu:=ZpE hr fX h0 hu hn ha;have h3:=(ZlR (w:=(ofX h p).1) (Zdy hl t.id) yu).1;rw[Zv6 hl h2,ZgH (Zdy hl t.id)]at h3
 have h4:(Ze h.txs t.id).isSome=true:=by
  unfold Ze;rw[List.find?_isSome];exact⟨t,ht,by simp⟩
 unfold goT at hg;rw[hr,h4,jz,h3]at hg
 cases hg
theorem Zpt(hl:Zd h=true)(hr:Zb h=true)(hh:Z7 h p=true){i:Int}(hi:i∈Za8 h p):∃t,Ze h.txs i=some t:=by
 have h2:(ofX h p).2=true:=(ZgH hl p).trans hh;rw[Zh3 h2]at hi;have ha:Zp h (ofX h p).1.p (ofX h p).1.walk (ofX h p).1.read=true:=(Zf6 hl p).trans h2;rw[Zv6 hl h2]at ha
 by_cases hp:p=2∨p=3
 ·obtain⟨b,l,_,e⟩:=ZnN hp h2;rw[e]at hi ha;unfold Zp at ha;rw[if_pos hp]at ha;simp only[Hj]at ha;have hb:=ha.2.2;unfold ZdR at hi;simp only[if_true]at hi;unfold ZaS at hb
  cases hd:Zh h.txs b.tx with
  |none=>rw[hd]at hb;cases hb
  |some t=>
   rw[hd]at hb;have hf:=(ZaK hd).1;obtain⟨hm,hid⟩:=Zck hf;simp only at hb
   by_cases e0:b.place<0
   ·rw[if_pos e0]at hb;cases hb
   ·rw[if_neg e0]at hb
    cases ho:t.ops[b.place.toNat]? with
    |none=>rw[ho]at hb;cases hb
    |some o=>
     rw[ho]at hb;simp only at hb
     by_cases e1:(!o.read|| !(Zk o==b.of)||o.tx==0||o.tx==t.id)=true
     ·rw[if_pos e1]at hb;cases hb
     ·simp only[Ia,Bool.not_eq_true',not_or,beq_iff_eq,beq_eq_false_iff_ne]at e1;have hrd:o.read=true:=by simpa using e1.1.1.1
      have hv:Zk o=b.of:=by simpa using e1.1.1.2
      have dH:b.of.tx=o.tx:=by rw[<-hv];unfold Zk;rw[hrd];rfl
      rcases Ie.1 hi with rfl|hi
      ·exact⟨t,hf⟩
      ·rcases Ie.1 hi with rfl|hi
       ·rw[dH];exact Zfj hr hm (Gn ho) hrd e1.1.2 e1.2
       ·cases hi
 ·obtain⟨_,d,hd,e,_,h4⟩:=ZnM hl hp h2;rw[e]at hi;unfold ZdR at hi;rw[if_neg hd]at hi;obtain⟨x,hx,rfl⟩:=Ih.1 hi;have h5:=h4 x hx;rw[Hj]at h5;have h6:=h5.2;unfold ZS at h6
  cases hf:Zh h.txs x.f with
  |none=>rw[hf]at h6;cases h6
  |some t=>exact⟨t,(ZaK hf).1⟩
end
/- trim.Core. -/
theorem Ztt(l:List Edge)(mask must:Int)(hl:l.length<=100000):(ZaQ l mask must).length<=l.length:=by
 rcases ZeF l mask must hl with ⟨e,_⟩|⟨v,h⟩
 ·rw[e];exact Nat.zero_le _
 ·have hp:=h.simple
  have:=Zds (l:=(ZaQ l mask must).map Edge.f) (m:=l.map Edge.f) (by
   rw[List.pairwise_map]at hp ⊢;exact hp) (fun x hx=>by
   obtain⟨e,he,rfl⟩:=Ih.1 hx;exact Ih.2 ⟨e,(Hy.1 (mem_arcs.1 (ZaZ h.w e.arc (mem_arcs.2 he)))).1,rfl⟩)
  rwa [Hw,Hw]at this
theorem ZjL{h:Hist}(hl:Zd h=true)(p:Int):(ofX h p).1.walk.length<=2000:=by
 have h1:(ZM (ZB h)).length<=1152:=by unfold ZM;rw[Hw];exact Zfe hl
 unfold ofX
 split
 ·unfold ZcQ
  split<;>exact Nat.zero_le _
 ·unfold Zd3
  split
  ·exact Nat.zero_le _
  ·split
   ·exact Nat.zero_le _
   ·have h2:=Ztt (ZM (ZB h)) (Zal p) (ZaU p) (by omega)
    show(ZaQ _ _ _).length<=2000
    omega
def Zgj(l:List Edge):Iv:=l.map (·.f)
theorem Zpu{h:Hist}{p:Int}{x:HWit}(e:ofX h p=(x,true))(hn:x.walk≠[]):Za8 h p=ZJ (Zgj x.walk):=by
 unfold Za8 ZdR;rw[e,if_pos rfl,if_neg hn];rfl
theorem Zpv{h:Hist}{p:Int}{x:HWit}(e:ofX h p=(x,true))(hn:x.walk=[]):Za8 h p=ZJ [x.read.tx,x.read.of.tx]:=by
 unfold Za8 ZdR;rw[e,if_pos rfl,if_pos hn]
theorem Zty{h:Hist}{p:Int}{x:HWit}(e:ofX h p=(x,false)):Za8 h p=[]:=by
 unfold Za8;rw[e];rfl
theorem ZnK(w:I0){base:Nat}(hb:base<=w.heap.size)(a b:Int):(w.alloc (.cells #[Qi a,Qi b] 3)).ownsRow base 3 1 (.slice (some ⟨w.heap.size,0,none⟩) 2 2) 2 ([a,b].map (Value.int .i64)):=
 ⟨rfl,.inr ⟨w.heap.size,2,#[Qi a,Qi b],rfl,hb,World.alloc_heap_new w _,Nat.le_refl _,by decide,rfl,rfl⟩⟩
theorem Zt0(F:Iw)(w:I0)(txs:List HTx)(ords:List HOrd)(A:OA)(c:Nat)(B:OA)(d:Nat)(p:Int)(H:Hist.lies F w ⟨txs,ords,A,c,B,d⟩)(hl:Zd ⟨txs,ords,A,c,B,d⟩=true){co:Iv}(mL:Za8 ⟨txs,ords,A,c,B,d⟩ p=co):
  Calls Tryz.prog 21 #[.agg #[.slice A txs.length c,.slice B ords.length d],Qi p] w fun e w'=>∃A' c',e= .returned (.slice A' co.length c')∧Ints (fun _=>True) w' A' co∧Upd No w w':=by
 obtain⟨z,hz⟩:=Qe w.heap.size;obtain⟨wb,ag⟩:=Qe (w.alloc (.cells #[.slice A txs.length c,.slice B ords.length d] 25));have u1:Upd No w wb:=by rw[<-ag];exact(Il No w).alloc _
 have b0:Blk wb z 25 [.slice A txs.length c,.slice B ords.length d]:=by rw[<-ag,<-hz];exact Im w _ _
 have UB:=Qh u1;have hO:=wOf F wb txs ords A c B d p (H.upd u1 Qo) hl;have hxl:=ZjL hl p;obtain⟨c0,c1⟩:=b0.c2;obtain⟨x,hx⟩:=Qe (ofX ⟨txs,ords,A,c,B,d⟩ p);obtain⟨⟨xp,xw,rt,rp,vt,vk,vn⟩,xb⟩:=x;rw[hx]at hO hxl;simp only at hxl;have HO:=Qh hO;have HX:=Qh hx;have rH:=Qh mL;clear hO hx u1 b0 H hl mL
 cases xb
 ·have Cl:=Qh (show co=[] by rw[<-rH.out];exact Zty HX.out);go_enter Tryz.func21,Tryz.ntmps21;go_wp2_with fail;refine Calls.mono HO.out ?_;rintro e w3 ⟨A3,c3,he,fp,hu3⟩;have he:e= .returned (.tuple #[.agg #[Qi xp,.slice A3 xw.length c3,Qi rt,Qi rp,Qi vt,Qi vk,Qi vn],.bool false]):=he;subst he;go_wp2;go_ret;exact⟨none,0,by rw[Cl.out];rfl,by rw[Cl.out];exact Ints.nil_,(UB.out.trans hu3).alloc _⟩
 ·go_enter Tryz.func21,Tryz.ntmps21;go_wp2_with fail;refine Calls.mono HO.out ?_;rintro e w3 ⟨A3,c3,he,fp,hu3⟩;have he:e= .returned (.tuple #[.agg #[Qi xp,.slice A3 xw.length c3,Qi rt,Qi rp,Qi vt,Qi vk,Qi vn],.bool true]):=he;subst he;obtain⟨wx,aJ⟩:=Qe (w3.alloc (.cells #[Qi xp,.slice A3 xw.length c3,Qi rt,Qi rp,Qi vt,Qi vk,Qi vn] 53));have ux:Upd No w3 wx:=by rw[<-aJ];exact(Il No w3).alloc _
  have bX:Blk wx w3.heap.size 53 [Qi xp,.slice A3 xw.length c3,Qi rt,Qi rp,Qi vt,Qi vk,Qi vn]:=by rw[<-aJ];exact Im w3 _ _
  have q1:=bX.cell 1;simp only[Qz,Qs]at q1;have BX:=Qh bX;have HW:=Qh (Walk.upd (Recs.weak (G:=fun i=>i<w3.heap.size) fp (fun i h _=>h)) ux Qo);have HU:=Qh (UB.out.trans (hu3.trans ux));have hxz:Upd No wx wx:=Il _ _;have eY:=hu3.size;have sy:=ux.size;have dK:=UB.out.size;clear bX fp hu3 ux c0 c1;go_wp2
  go_loopg [7,21] xw.length (fun gk s i wr=>∃(k:Nat) (A5:OA) (c5:Nat) (l:Iv),k+gk=xw.length∧i= Qi (k:Int)∧s= .slice A5 l.length c5∧Hid (Zgj (xw.take k)=l)∧l.length<=2000∧Hid (wr.ownsRow wx.heap.size 3 1 (.slice A5 l.length c5) l.length (l.map (Value.int .i64)))∧Upd No wx wr)
  case atStart=>exact⟨0,none,0,[],by omega,rfl,rfl,Qh rfl,Nat.zero_le _,Qh (Ik _ _ _ _),hxz⟩
  case round=>
   obtain⟨k,A5,c5,l,aI,rfl,rfl,hl,gM,ae,hu⟩:=hrel
   by_cases hlt:k<xw.length
   ·obtain⟨ad,aH,q0,q2,q3,q4⟩:=(HW.out.upd hu Qo).at_ hlt;obtain⟨y,hy⟩:=Qe (xw[k]);rw[hy]at q0 q2 q3 q4;subst aH;have HL:=Qh (show Zgj (xw.take (k+1))=l++[y.f] by rw[Gb hlt,hy,<-hl.out];unfold Zgj;simp);have b2:(k:Int)<(xw.length:Int):=by omega
    have b1:(0:Int)<=(k:Int):=Qn _;have jS:=Qh (show(l++[y.f]).length<=2000 by rw[<-HL.out];unfold Zgj;rw[Hw,Hm];omega);obtain⟨wy,iP⟩:=Qe (wr.alloc (.cells #[Qi y.f,Qi y.t,Qi y.k,Qi y.key] 58));have uy:Upd No wr wy:=by rw[<-iP];exact(Il No wr).alloc _
    have bY:Blk wy wr.heap.size 58 [Qi y.f,Qi y.t,Qi y.k,Qi y.key]:=by rw[<-iP];exact Im wr _ _
    have g0:=bY.cell 0;simp only[Qz]at g0;have x5:=Qh (Za ae.out uy Qo);have eS:=Qh (hu.trans uy);have EO:=(hu.trans uy).size;have eB:=Qh (fun i e=>(ae.out.lt i e).1);clear hy ae uy bY hu hl;go_wp2_with (at_builtin;refine ZbG rfl rfl Zay (v:= .slice A5 l.length c5) (n:=l.length) (xs:=l.map (Value.int .i64)) (cells:=[Qi y.f]) (by rfl) rfl x5.out rfl rfl (by omega) (by omega) (by omega) ?_;intro g6 c6 w6 ar hu6 cI cU);go_roundg (gk-1)
    case measure=>omega
    case rel=>
     have aN:(l++[y.f]).length=l.length+1:=by simp
     exact⟨k+1,some ⟨g6,0,none⟩,c6,l++[y.f],by omega,by go_num,by rw[aN],HL,jS.out,Qh (by rw[aN,Hu];exact ar),eS.out.then_ hu6 (fun i e=> .inr (eB.out i e))⟩
   ·obtain rfl:k=xw.length:=by omega
    have bC:Zgj xw=l:=by have:=hl.out;rwa [G7]at this
    by_cases h0:xw=[]
    ·subst h0;have hb0:((l.length:Int)==0)=true:=by rw[<-bC];rfl
     have pf:=Qh (show ZJ [rt,vt]=co by rw[<-rH.out];exact(Zpv HX.out rfl).symm);have bx2:=BX.out.upd hu id;have p2:=bx2.cell 2;have p4:=bx2.cell 4;simp only[Qz,Qs]at p2 p4;obtain⟨y,hy⟩:=Qe wr.heap.size;obtain⟨wl,dV⟩:=Qe (wr.alloc (.cells #[Qi rt,Qi vt] 3));have ul:Upd No wr wl:=by rw[<-dV];exact(Il No wr).alloc _
     have kv:=hu.size;have o5:=Qh (show wl.ownsRow wx.heap.size 3 1 (.slice (some ⟨y,0,none⟩) 2 2) 2 ([rt,vt].map (Value.int .i64)) by rw[<-dV,<-hy];exact ZnK wr hu.size rt vt);have nI:=Qh (show(Z1 [rt,vt]).length=2 from Zbk [rt,vt]);have v8:=Qh ((ZbP [rt,vt]).trans pf.out);have nr:Hid (Calls Tryz.prog 48 #[.slice (some ⟨y,0,none⟩) 2 2] wl fun e w'=>e= .returned (.tuple #[])∧w'.ownsRow wx.heap.size 3 1 (.slice (some ⟨y,0,none⟩) 2 2) 2 ((Z1 [rt,vt]).map (Value.int .i64))∧Upd (Own (.slice (some ⟨y,0,none⟩) 2 2)) wl w'):=Qh (Zgb wl _ (some ⟨y,0,none⟩) 2 [rt,vt] o5.out (by simp));have eB:=Qh (show∀i,Own (.slice (some ⟨y,0,none⟩) 2 2) i->w.heap.size<=i from fun i e=>by have h1:=(o5.out.lt i e).1;omega);have kF:=Qh (HU.out.trans (hu.trans ul));clear hl bC ae hu bx2 ul q1;go_wp2_with fail;refine(nr.out).mono ?_;rintro e w6 ⟨rfl,rZ,hu6⟩;have ia:=ZeO w6 wx.heap.size (some ⟨y,0,none⟩) 2 (Z1 [rt,vt]) (by rw[nI.out];exact rZ) (by rw[nI.out];omega);rw[v8.out,nI.out]at ia;have vA:=Qh ia;have eh:=Qh (kF.out.then_ hu6 (fun i e=> .inr (eB.out i e)));clear ia rZ hu6;go_wp2_with fail;refine(vA.out).mono ?_;rintro e w7 ⟨rfl,ed,aq⟩;have ra:=Qh (Ints.weak (G:=fun _=>True) (Ints.of_owned ed) (fun _ _ _=>trivial));have bI:=Qh (eh.out.then_ aq (fun i e=> .inr (eB.out i e)));clear ed aq;go_wp2;go_ret;exact⟨some ⟨y,0,none⟩,2,rfl,ra.out,bI.out⟩
    ·have hb0:((l.length:Int)==0)=false:=by
      rw[<-bC,beq_eq_false_iff_ne];unfold Zgj;rw[Hw];have:=List.length_pos_iff.2 h0;omega
     have pf:=Qh (show ZJ l=co by rw[<-rH.out,<-bC];exact(Zpu HX.out h0).symm);have nI:=Qh (Zbk l);have v8:=Qh ((ZbP l).trans pf.out);have nr:=Qh (Zgb wr _ A5 c5 l ae.out (by omega));have eB:=Qh (show∀i,Own (.slice A5 l.length c5) i->w.heap.size<=i from fun i e=>by have h1:=(ae.out.lt i e).1;omega);have kF:=Qh (HU.out.trans hu);clear hl bC h0 ae hu q1;go_wp2_with fail;refine(nr.out).mono ?_;rintro e w6 ⟨rfl,rZ,hu6⟩;have ia:=ZeO w6 wx.heap.size A5 c5 (Z1 l) (by rw[nI.out];exact rZ) (by rw[nI.out];omega);rw[v8.out,nI.out]at ia;have vA:=Qh ia;have eh:=Qh (kF.out.then_ hu6 (fun i e=> .inr (eB.out i e)));clear ia rZ hu6;go_wp2_with fail;refine(vA.out).mono ?_;rintro e w7 ⟨rfl,ed,aq⟩;have ra:=Qh (Ints.weak (G:=fun _=>True) (Ints.of_owned ed) (fun _ _ _=>trivial));have bI:=Qh (eh.out.then_ aq (fun i e=> .inr (eB.out i e)));clear ed aq;go_wp2;go_ret;exact⟨A5,c5,rfl,ra.out,bI.out⟩
/- trim,the answers that the document gives (tenterlaw47.lives). -/
section
variable {F:Iw} {w:I0} {N:Nat} {p i:Int}
theorem sk1(n:Nat):ZdK (Zl n) 5=0:=by kernel_rfl
theorem sk2(n:Nat):Ze3 (Zl n) 5=[]:=by kernel_rfl
theorem sk3(n:Nat):(Zc9 (Zl n) 5).nrm=(Zl n).nrm:=by kernel_rfl
theorem sk4(n:Nat):ZdK (Zl n) 1=3:=by kernel_rfl
theorem sk5(n:Nat):Ze3 (Zl n) 1=[]:=by kernel_rfl
theorem sk6(n:Nat):ZdK ⟨(Zl n).txs,[],(Zl n).A,(Zl n).c,none,0⟩ 5=5:=by kernel_rfl
theorem sk7(n:Nat):Za8 (Zl n) 5=[1,2]:=by kernel_rfl
theorem sk8(n:Nat):Za8 (Zl n) 1=[]:=by kernel_rfl
theorem sk9(n:Nat):(Z7 (Zl n) 5&&goT 5 (Zl n) 1)=false:=by kernel_rfl
theorem skA(n:Nat):(Z7 (Zl n) 5&&goT 5 (Zl n) 9)=false:=by kernel_rfl
theorem skB(n:Nat):(Z7 (Zl n) 1&&goT 1 (Zl n) 1)=false:=by kernel_rfl
theorem Zp6(H:(Zl N).lies F w){m:Int}(hm:ZdK (Zl N) p=m)(hg:Ze3 (Zl N) p=[]):Calls Tryz.prog 7 #[.agg #[.slice (some ⟨N+1+1+1,0,none⟩) 2 2,.slice (some ⟨N+1+1+1+1+1+1,0,none⟩) 2 2],Qi p] w fun e w'=>∃Ag cg,e= .returned (.tuple #[.slice Ag 0 cg,Qi m])∧Upd No w w':=by
 refine(ZwT F w (Zl N).txs (Zl N).ords _ 2 _ 2 p H (ph0 N)).mono ?_;rintro e w' ⟨Ag,cg,gn,rfl,kX,_,hu⟩;have h1:gn=[]:=kX.symm.trans hg;subst h1;exact⟨Ag,cg,by rw[<-hm];rfl,hu⟩
theorem ZuK(H:(Zl N).lies F w):Calls Tryz.prog 12 #[.agg #[.slice (some ⟨N+1+1+1,0,none⟩) 2 2,.slice (some ⟨N+1+1+1+1+1+1,0,none⟩) 2 2],Qi 5] w fun e w'=>∃v,e= .returned (.tuple #[v,Qi 0])∧LiesN w.heap.size w' v (Zl N)∧Upd No w w':=by
 refine(Zlz F w (Zl N).txs (Zl N).ords _ 2 _ 2 5 H (ph0 N)).mono ?_;rintro e w' ⟨v,rfl,hv,hu⟩;exact⟨v,by rw[<-sk1 N];rfl,hv.of (sk3 N),hu⟩
theorem Zsj(H:(Zl N).lies F w):Calls Tryz.prog 12 #[.agg #[.slice (some ⟨N+1+1+1,0,none⟩) 2 2,.slice none 0 0],Qi 5] w fun e w'=>∃v,e= .returned (.tuple #[v,Qi 5])∧LiesN w.heap.size w' v Zhg∧Upd No w w':=by
 refine(Zlz F w (Zl N).txs [] _ 2 none 0 5 (ZsW H) (Zya N)).mono ?_;rintro e w' ⟨v,rfl,hv,hu⟩;exact⟨v,by rw[<-sk6 N];rfl,hv,hu⟩
theorem Zp7(H:(Zl N).lies F w){co:Iv}(hc:Za8 (Zl N) p=co){n:Nat}(hn:co.length=n):Calls Tryz.prog 21 #[.agg #[.slice (some ⟨N+1+1+1,0,none⟩) 2 2,.slice (some ⟨N+1+1+1+1+1+1,0,none⟩) 2 2],Qi p] w fun e w'=>∃A' c',e= .returned (.slice A' n c')∧Ints (fun _=>True) w' A' co∧Upd No w w':=by
 subst hn;exact Zt0 F w (Zl N).txs (Zl N).ords _ 2 _ 2 p H (ph0 N) hc
theorem ZlE(H:(Zl N).lies F w)(hb:(Z7 (Zl N) p&&goT p (Zl N) i)=false):CN 17 #[.agg #[.slice (some ⟨N+1+1+1,0,none⟩) 2 2,.slice (some ⟨N+1+1+1+1+1+1,0,none⟩) 2 2],Qi p,Qi i] w (.bool false):=by
 rw[<-hb];exact ZwU F w (Zl N).txs (Zl N).ords _ 2 _ 2 p i H (ph0 N)
theorem ZvS{G:Iw}{xt:List HTx}{xo:List HOrd}{xA:OA}{xc:Nat}{xB:OA}{xd:Nat}(hx:Hist.lies G w ⟨xt,xo,xA,xc,xB,xd⟩)(H:(Zl N).lies F w)(hn:Hist.nrm ⟨xt,xo,xA,xc,xB,xd⟩=(Zl N).nrm):
  CN 20 #[.agg #[.slice xA xt.length xc,.slice xB xo.length xd],.agg #[.slice (some ⟨N+1+1+1,0,none⟩) 2 2,.slice (some ⟨N+1+1+1+1+1+1,0,none⟩) 2 2]] w (.bool true):=
 ZuQ (G:=F) (t2:=(Zl N).txs) (o2:=(Zl N).ords) (A2:=(Zl N).A) (c2:=2) (B2:=(Zl N).B) (d2:=2) hx H ((ZdZ hn).trans (ph0 N)) hn
end
theorem Zu2(w:I0):CN 6 #[] w (.bool true):=by
 go_enter Tryz.func6,Tryz.ntmps6;go_wp2_with fail;refine(Zw0 _).mono ?_;rintro e w1 ⟨N,rfl,hs,hu1⟩;obtain⟨wh,gh⟩:=Qe (w1.alloc (.cells #[.slice (some ⟨N+1+1+1,0,none⟩) 2 2,.slice (some ⟨N+1+1+1+1+1+1,0,none⟩) 2 2] 25));have uh:Upd No w1 wh:=by rw[<-gh];exact(Il No w1).alloc _
 have bH:Blk wh w1.heap.size 25 [.slice (some ⟨N+1+1+1,0,none⟩) 2 2,.slice (some ⟨N+1+1+1+1+1+1,0,none⟩) 2 2]:=by rw[<-gh];exact Im w1 _ _
 have h0:=bH.ev 0 rfl
 have h1:=bH.ev 1 rfl
 have HS:=Qh (fun W (u:Upd No wh W)=>(hs.upd uh Qo).upd u Qo);have UH:=Qh (hu1.trans uh);have Eb:Upd No wh wh:=Il _ _;clear hs uh hu1 bH;go_wp2_with fail;refine(Zp6 (HS.out _ Eb) (sk1 N) (sk2 N)).mono ?_;rintro e w2 ⟨A2,c2,rfl,hu2⟩;go_wp2_with fail;refine(ZuK (HS.out _ hu2)).mono ?_;rintro e w3 ⟨v,rfl,ik,hu3⟩;obtain⟨xt,xo,xA,xc,xB,xd,rfl,hx,hn⟩:=ik.open;obtain⟨w4,cW⟩:=Qe (w3.alloc (.cells #[.slice xA xt.length xc,.slice xB xo.length xd] 25));have u4:Upd No w3 w4:=by rw[<-cW];exact(Il No w3).alloc _
 have b4:Blk w4 w3.heap.size 25 [.slice xA xt.length xc,.slice xB xo.length xd]:=by rw[<-cW];exact Im w3 _ _
 have hu4:Upd No wh w4:=(hu2.trans hu3).trans u4;have HX:=Qh (fun W (u:Upd No w4 W)=>(hx.upd u4 Qo).upd u Qo);have HN:=Qh hn;have x0:=b4.ev 0 rfl
 have x1:=b4.ev 1 rfl
 clear ik hx hn u4 b4 hu3 hu2;go_wp2_with fail;refine(Zp6 (HS.out _ hu4) (sk4 N) (sk5 N)).mono ?_;rintro e w5 ⟨A5,c5,rfl,hu5⟩;have jT:=hu4.trans hu5;go_wp2_with fail;refine(Zsj (HS.out _ jT)).mono ?_;rintro e w6 ⟨v6,rfl,kg,hu6⟩;obtain⟨yt,yo,yA,yc,yB,yd,rfl,hy,gP⟩:=kg.open;obtain⟨w7,rD⟩:=Qe (w6.alloc (.cells #[.slice yA yt.length yc,.slice yB yo.length yd] 25));have r7:Upd No w4 w7:=by rw[<-rD];exact(hu5.trans hu6).alloc _
 have aq:Upd No wh w7:=hu4.trans r7;clear kg hy gP hu6 hu5 jT;go_wp2_with fail;refine Ck (ZvS (HX.out _ r7) (HS.out _ aq) HN.out) fun w8 dj=>?_;have aL:=aq.trans dj;clear x0 x1;go_wp2_with fail;refine(Zp7 (HS.out _ aL) (sk7 N) rfl).mono ?_;rintro e wa ⟨Aa,ca,rfl,zr,zZ⟩;obtain⟨y,rc⟩:=Qe wa.heap.size;obtain⟨wl,dV⟩:=Qe (wa.alloc (.cells #[Qi 1,Qi 2] 3));have ul:Upd No wa wl:=by rw[<-dV];exact(Il No wa).alloc _
 have zu:CN 9 #[.slice Aa 2 ca,.slice (some ⟨y,0,none⟩) 2 2] wl (.bool true):=
  Zqa wl _ _ Aa (some ⟨y,0,none⟩) ca 2 [1,2] (zr.upd ul Qo) (Ints.of_owned (by rw[<-dV,<-rc];exact ZnK wa (Nat.le_refl _) 1 2)) (by simp)
 have jW:=Qh zu;have kR:=(aL.trans zZ).trans ul;clear zu zr zZ ul aL dj;go_wp2_with fail;refine Ck jW.out fun wc huc=>?_;have fw:=kR.trans huc;go_wp2_with fail;refine(Zp7 (HS.out _ fw) (sk8 N) rfl).mono ?_;rintro e we ⟨Ae,ce,rfl,_,Cc⟩;have vX:=fw.trans Cc;clear kR huc fw Cc;go_wp2_with fail;refine Ck (ZlE (HS.out _ vX) (sk9 N)) fun wg hug=>?_;have n6:=vX.trans hug;clear vX hug;go_wp2_with fail;refine Ck (ZlE (HS.out _ n6) (skA N)) fun wi hui=>?_;have nK:=n6.trans hui;clear n6 hui;go_wp2_with fail;refine Ck (ZlE (HS.out _ nK) (skB N)) fun wj huj=>?_;have HJ:=Qh (nK.trans huj);clear nK huj;go_wp2;go_ret;exact⟨rfl,UH.out.trans HJ.out⟩
/- TrimCore:who is left is of the core,or read by another one that is left. -/
section
variable {h:Hist} {p:Int}
theorem ZkN(hl:Zd h=true)(hh:Z7 h p=true):Zb h=true:=by
 have h1:=Zf6 hl p;rw[ZgH hl p,hh]at h1;unfold Zp at h1;rw[Hj]at h1;exact h1.1
theorem Zn7(hl:Zd h=true)(hh:Z7 h p=true):ZdK h p=0:=by
 unfold ZdK;rw[if_pos (ZkN hl hh),if_pos hh]
structure LeftX (h:Hist) (p:Int) (m:Hist):Prop where
 light:Zd m=true
 right:Zb m=true
 has:Z7 m p=true
 stay:∀t∈m.txs,goT p m t.id=false
 acc:Zp m (ofX m p).1.p (ofX m p).1.walk (ofX m p).1.read=true
 of:(ofX m p).2=true
 few:m.txs.length<=12
theorem ZsX(hl:Zd h=true)(hh:Z7 h p=true){m:Hist}(e:m.nrm=(Zc9 h p).nrm):LeftX h p m:=by
 have hm:=Zn7 hl hh;have e2:m.nrm=(Zcx h p).1.nrm:=by rw[e];unfold Zc9;rw[if_pos hm]
 have g:=Zog (p:=p) h;have l1:Zd m=true:=(ZdZ e2).trans (g.light hl);have h1:Z7 m p=true:=(ZmC e2).trans (g.has hh);have o1:(ofX m p).2=true:=(ZgH l1 p).trans h1;refine⟨l1,(Zso e2).trans (g.right (ZkN hl hh)),h1,fun t ht=>?_,(Zf6 l1 p).trans o1,o1,(ZdL l1).1⟩;rw[Zrc e2]
 have bh:t.nrm∈(Zcx h p).1.txs.map HTx.nrm:=by
  rw[<-show m.txs.map HTx.nrm=(Zcx h p).1.txs.map HTx.nrm from congrArg Hist.txs e2];exact Ih.2 ⟨t,ht,rfl⟩
 obtain⟨u,hu,hn⟩:=Ih.1 bh;have:=Zro h u hu
 rwa [show u.id=t.id from(ZiV hn).1]at this
theorem LeftX.walk{m:Hist}(X:LeftX h p m){e:Edge}(he:e∈(ofX m p).1.walk):e.f∈Za8 m p:=by
 rw[Zh3 X.of];unfold ZdR;have:(ofX m p).1.walk≠[]:=fun h=>by rw[h]at he;cases he
 rw[if_neg this];exact Ih.2 ⟨e,he,rfl⟩
theorem LeftX.unread{m:Hist}(X:LeftX h p m){t:HTx}(ht:t∈m.txs)(hu:Zdp m.txs t.id=true):t.id∈Za8 m p:=Zrw X.light X.right X.has ht (X.stay t ht) hu
theorem LeftX.there{m:Hist}(X:LeftX h p m){i:Int}(hi:i∈Za8 m p):(Ze m.txs i).isSome=true:=by
 obtain⟨t,ht⟩:=Zpt X.light X.right X.has hi;rw[ht];rfl
theorem LeftX.len{m:Hist}(X:LeftX h p m):(Za8 m p).length<=2002:=by
 have h1:=ZjL X.light p;unfold Za8;rw[if_pos X.of];refine Nat.le_trans (ZeH _) ?_;unfold ZdR
 split
 ·simp
 ·rw[Hw];omega
end
def ZjF(id:Int)(v:Ver):Bool:= !(v.tx==id)
def ZfO(id:Int)(u:HTx):Bool:=(ZbS u.id u.ops).all (ZjF id)
theorem Zlg{α:Type}{l:List α}{q:α->Bool}{k:Nat}{x:α}(hk:k<l.length)(hx:l[k]=x):(l.take (k+1)).all q=((l.take k).all q&&q x):=by
 rw[Gb hk,List.all_append,hx];simp
def ZjA:Prop:=∀w:I0,CN 6 #[] w (.bool true)
theorem ZmU(F:Iw)(w:I0)(txs:List HTx)(ords:List HOrd)(A:OA)(c:Nat)(B:OA)(d:Nat)(p:Int)(H:Hist.lies F w ⟨txs,ords,A,c,B,d⟩)(L:Hid ZjA)(hn:Zd ⟨txs,ords,A,c,B,d⟩=false∨(Zd ⟨txs,ords,A,c,B,d⟩=true∧Z7 ⟨txs,ords,A,c,B,d⟩ p=false)):
  CN 5 #[.agg #[.slice A txs.length c,.slice B ords.length d],Qi p] w (.bool true):=by
 obtain⟨z,hz⟩:=Qe w.heap.size;obtain⟨wb,ag⟩:=Qe (w.alloc (.cells #[.slice A txs.length c,.slice B ords.length d] 25));have u1:Upd No w wb:=by rw[<-ag];exact(Il No w).alloc _
 have b0:Blk wb z 25 [.slice A txs.length c,.slice B ords.length d]:=by rw[<-ag,<-hz];exact Im w _ _
 have UB:=Qh u1;have HB:=Qh (fun W (u:Upd No wb W)=>(H.upd u1 Qo).upd u Qo);have c0:=b0.ev 0 rfl
 have c1:=b0.ev 1 rfl
 have eq:=Qh (fun W (u:Upd No wb W)=>(Zqi F W ⟨txs,ords,A,c,B,d⟩ (HB.out W u)));clear u1 b0 H;rcases hn with hn|⟨hn,hh⟩
 ·rw[hn]at eq;unfold Hist.val at eq;clear hn;go_enter Tryz.func5,Tryz.ntmps5;go_wp2_with fail;refine Ck (L.out _) fun w1 hu1=>?_;go_wp2_with fail;refine Ck (eq.out _ hu1) fun w2 hu2=>?_;go_wp2;go_ret;exact⟨rfl,UB.out.trans (hu1.trans hu2)⟩
 ·have HP:=Qh (fun W (u:Upd No wb W)=>(by have:=ZhU F W txs ords A c B d p (HB.out W u) hn;rwa [hh]at this:CN 13 #[.agg #[.slice A txs.length c,.slice B ords.length d],Qi p] W (.bool false)));rw[hn]at eq;unfold Hist.val at eq;clear hn hh;go_enter Tryz.func5,Tryz.ntmps5;go_wp2_with fail;refine Ck (L.out _) fun w1 hu1=>?_;go_wp2_with fail;refine Ck (eq.out _ hu1) fun w2 hu2=>?_;have db:=hu1.trans hu2;go_wp2_with fail;refine Ck (HP.out _ db) fun w3 hu3=>?_;go_wp2;go_ret;exact⟨rfl,UB.out.trans (db.trans hu3)⟩
theorem Zrx(F:Iw)(w:I0)(txs:List HTx)(ords:List HOrd)(A:OA)(c:Nat)(B:OA)(d:Nat)(p:Int)(H:Hist.lies F w ⟨txs,ords,A,c,B,d⟩)(L:Hid ZjA)(hl:Zd ⟨txs,ords,A,c,B,d⟩=true)(hh:Z7 ⟨txs,ords,A,c,B,d⟩ p=true):
  CN 5 #[.agg #[.slice A txs.length c,.slice B ords.length d],Qi p] w (.bool true):=by
 obtain⟨z,hz⟩:=Qe w.heap.size;obtain⟨wb,ag⟩:=Qe (w.alloc (.cells #[.slice A txs.length c,.slice B ords.length d] 25));have u1:Upd No w wb:=by rw[<-ag];exact(Il No w).alloc _
 have b0:Blk wb z 25 [.slice A txs.length c,.slice B ords.length d]:=by rw[<-ag,<-hz];exact Im w _ _
 have UB:=Qh u1;have HB:=Qh (fun W (u:Upd No wb W)=>(H.upd u1 Qo).upd u Qo);have c0:=b0.ev 0 rfl
 have c1:=b0.ev 1 rfl
 have eq:=Qh (fun W (u:Upd No wb W)=>(Zqi F W ⟨txs,ords,A,c,B,d⟩ (HB.out W u)));have HP:=Qh (fun W (u:Upd No wb W)=>(by have:=ZhU F W txs ords A c B d p (HB.out W u) hl;rwa [hh]at this:CN 13 #[.agg #[.slice A txs.length c,.slice B ords.length d],Qi p] W (.bool true)));have yv:=Qh (fun W (u:Upd No wb W)=>(by have:=Zlz F W txs ords A c B d p (HB.out W u) hl;rwa [Zn7 hl hh]at this:Calls Tryz.prog 12 #[.agg #[.slice A txs.length c,.slice B ords.length d],Qi p] W fun e w'=>∃v,e= .returned (.tuple #[v,Qi 0])∧LiesN W.heap.size w' v (Zc9 ⟨txs,ords,A,c,B,d⟩ p)∧Upd No W w'));have om:=Qh (fun(m:Hist) (e:m.nrm=(Zc9 ⟨txs,ords,A,c,B,d⟩ p).nrm)=>ZsX hl hh e);rw[hl]at eq;unfold Hist.val at eq;clear u1 b0 H hl hh;go_enter Tryz.func5,Tryz.ntmps5;go_wp2_with fail;refine Ck (L.out _) fun w1 hu1=>?_;go_wp2_with fail;refine Ck (eq.out _ hu1) fun w2 hu2=>?_;have db:=hu1.trans hu2;go_wp2_with fail;refine Ck (HP.out _ db) fun w3 hu3=>?_;have i5:=db.trans hu3;go_wp2_with fail;refine(yv.out _ i5).mono ?_;rintro e w4 ⟨v,rfl,d9,hu4⟩;obtain⟨xt,xo,xA,xc,xB,xd,rfl,hx,hn⟩:=d9.open;have X:=Qh (om.out _ hn);obtain⟨w5,jj⟩:=Qe (w4.alloc (.cells #[.slice xA xt.length xc,.slice xB xo.length xd] 25));have u5:Upd No w4 w5:=by rw[<-jj];exact(Il No w4).alloc _
 obtain⟨bx,hbx⟩:=Qe w4.heap.size;have b5:Blk w5 bx 25 [.slice xA xt.length xc,.slice xB xo.length xd]:=by rw[<-jj,<-hbx];exact Im w4 _ _
 have x0:=b5.ev 0 rfl
 have x1:=b5.ev 1 rfl
 have HX:=Qh (fun W (u:Upd No w5 W)=>(hx.upd u5 Qo).upd u Qo);have cF:=Qh (UB.out.trans ((i5.trans hu4).trans u5));have Bb:Upd No w5 w5:=Il _ _;have hO:=wOf _ w5 xt xo xA xc xB xd p (HX.out w5 Bb) X.out.light;obtain⟨co,mL⟩:=Qe (Za8 ⟨xt,xo,xA,xc,xB,xd⟩ p);obtain⟨o,ho⟩:=Qe (ofX ⟨xt,xo,xA,xc,xB,xd⟩ p);have dv:=X.out.of;have pv:=X.out.acc;have dV:=ZjL X.out.light p;have jB:=fun(e:Edge) (he:e∈(ofX ⟨xt,xo,xA,xc,xB,xd⟩ p).1.walk)=>X.out.walk he
 have aT:=X.out.len;rw[ho]at hO dv pv dV jB;rw[mL]at jB aT;obtain⟨⟨wp,ww,rt,rp,vt,vk,vn⟩,wi⟩:=o;obtain rfl:wi=true:=dv;simp only at pv dV jB;have rH:=Qh (fun W (u:Upd No w5 W)=>Zt0 _ W xt xo xA xc xB xd p (HX.out W u) X.out.light mL);have HO:=Qh hO;have tO:=Qh pv;have qH:=Qh (fun(e:Edge) (he:e∈ww)=>Qt (jB e he));have sq:=Qh (fun(t:HTx) (ht:t∈xt) (hu:xt.all (ZfO t.id)=true)=>Qt (p:=t.id∈co) (by rw[<-mL];exact X.out.unread ht hu));have Dc:=Qh (fun(i:Int) (hi:i∈co)=>X.out.there (i:=i) (by rw[mL];exact hi));have hxl:=X.out.few;simp only at hxl;clear d9 hx hn u5 b5 hu4 hu3 hu2 hu1 db i5 c0 c1 hO pv jB ho mL;go_wp2_with fail;refine Calls.mono HO.out ?_;rintro e w6 ⟨A6,c6,he,Cv,hu6⟩;have he:e= .returned (.tuple #[.agg #[Qi wp,.slice A6 ww.length c6,Qi rt,Qi rp,Qi vt,Qi vk,Qi vn],.bool true]):=he;subst he;obtain⟨w7,rD⟩:=Qe (w6.alloc (.cells #[Qi wp,.slice A6 ww.length c6,Qi rt,Qi rp,Qi vt,Qi vk,Qi vn] 53));have u7:Upd No w6 w7:=by rw[<-rD];exact(Il No w6).alloc _
 obtain⟨bw,yI⟩:=Qe w6.heap.size;have b7:Blk w7 bw 53 [Qi wp,.slice A6 ww.length c6,Qi rt,Qi rp,Qi vt,Qi vk,Qi vn]:=by rw[<-rD,<-yI];exact Im w6 _ _
 have iZ:Upd No w5 w7:=hu6.trans u7;have y0:=b7.ev 0 rfl
 have y1:=b7.ev 1 rfl
 have y2:=b7.ev 2 rfl
 have y3:=b7.ev 3 rfl
 have y4:=b7.ev 4 rfl
 have y5:=b7.ev 5 rfl
 have y6:=b7.ev 6 rfl
 have zA:=Qh (fun W (u:Upd No w7 W)=>Recs.upd (Recs.upd Cv u7 Qo) u Qo);have x07:∀W,Upd No w7 W->W.cell? ⟨bx,0,none⟩=some (.slice xA xt.length xc):=fun W u=>x0 W (iZ.trans u)
 have x17:∀W,Upd No w7 W->W.cell? ⟨bx,1,none⟩=some (.slice xB xo.length xd):=fun W u=>x1 W (iZ.trans u)
 have dD:=Qh (fun W (u:Upd No w7 W)=>HX.out W (iZ.trans u));have wC:=Qh (fun W (u:Upd No w7 W)=>rH.out W (iZ.trans u));have bI:=Qh (cF.out.trans iZ);have BS:Upd No w7 w7:=Il _ _;clear Cv hu6 u7 b7 x0 x1 iZ Bb jj;go_wp2_with fail;refine(wC.out _ BS).mono ?_;rintro e w8 ⟨A8,c8,rfl,A0,dj⟩;have En:=Qh (fun W (u:Upd No w8 W)=>A0.upd u Qo);have Dq:=Qh (ZxL (X:=A6) (xc:=c6) (p:=wp) (x:=rt) (pl:=rp) (vt:=vt) (vk:=vk) (vn:=vn) (v:=true) (dD.out w8 dj) ⟨_,zA.out w8 dj⟩ (by omega) rfl rfl rfl tO.out);clear A0;go_wp2_with fail;refine Ck Dq.out fun w9 aL=>?_;have nE:=dj.trans aL;have lq:=Qh (fun W (u:Upd No w9 W)=>En.out W (aL.trans u));clear dj aL y0 y2 y3 y4 y5 y6 rD;go_wp2
 go_loopg [64] ww.length (fun gk s wr=>∃(k:Nat),k+gk=ww.length∧s= Qi (k:Int)∧Upd No w9 wr)
 case atStart=>exact⟨0,by omega,rfl,Il _ _⟩
 case round=>
  obtain⟨k,aI,rfl,hu⟩:=hrel
  by_cases hlt:k<ww.length
  ·obtain⟨ad,aH,q0,q1,q2,q3⟩:=Walk.at_ (zA.out wr (nE.trans hu)) hlt;obtain⟨y,hy⟩:=Qe (ww[k]);rw[hy]at q0 q1 q2 q3;subst aH;have Du:=Qh (qH.out y (by rw[<-hy];exact Hg hlt));have b2:(k:Int)<(ww.length:Int):=by omega
   have b1:(0:Int)<=(k:Int):=Qn _;have HR:=Qh (Zt3 _ _ A8 c8 co y.f (lq.out _ (hu.alloc (.cells #[Qi y.f,Qi y.t,Qi y.k,Qi y.key] 58))) (by omega));rw[Du.out]at HR;clear hy;go_wp2_with fail;refine(HR.out).mono ?_;rintro e wz ⟨rfl,rfl⟩;go_wp2;go_roundg (gk-1);exact⟨k+1,by omega,by go_num,hu.alloc _⟩;omega
  ·obtain rfl:k=ww.length:=by omega
   obtain⟨wk,jB⟩:∃wk,wk=wr:=⟨_,rfl⟩;subst jB;have kq:Upd No w7 wk:=nE.trans hu;have g0:∀W,Upd No wk W->W.cell? ⟨bx,0,none⟩=some (.slice xA xt.length xc):=fun W u=>x07 W (kq.trans u)
   have g1:∀W,Upd No wk W->W.cell? ⟨bx,1,none⟩=some (.slice xB xo.length xd):=fun W u=>x17 W (kq.trans u)
   have tT:=Qh (fun W (u:Upd No wk W)=>dD.out W (kq.trans u));have zX:=Qh (fun W (u:Upd No wk W)=>lq.out W (hu.trans u));have El:=Qh (bI.out.trans kq);have DU:Upd No wk wk:=Il _ _;clear x07 x17 y1 nE kq hu aI BS;go_wp2
   go_loopg [77] xt.length (fun gk s wr=>∃(k:Nat),k+gk=xt.length∧s= Qi (k:Int)∧Upd No wk wr)
   case atStart=>exact⟨0,by omega,rfl,DU⟩
   case round=>
    obtain⟨k,aI,rfl,hu⟩:=hrel
    by_cases hlt:k<xt.length
    ·obtain⟨ad,aH,q0,q1,q2⟩:=(tT.out wr hu).tx_at hlt;simp only at aH q0 q1 q2;obtain⟨⟨ti,td,tops,tA,tc⟩,hx⟩:∃x,xt[k]=x:=⟨_,rfl⟩;rw[hx]at q0 q1 q2;simp only at q0 q1 q2;have EM:=Qh (sq.out ⟨ti,td,tops,tA,tc⟩ (by rw[<-hx];exact Hg hlt));subst aH;have b2:(k:Int)<(xt.length:Int):=by omega
     have b1:(0:Int)<=(k:Int):=Qn _;obtain⟨wt,BF⟩:=Qe (wr.alloc (.cells #[Qi ti,.bool td,.slice tA tops.length tc] 39));have ut:Upd No wr wt:=by rw[<-BF];exact(Il No wr).alloc _
     obtain⟨bt,E2⟩:=Qe wr.heap.size;have bT:Blk wt bt 39 [Qi ti,.bool td,.slice tA tops.length tc]:=by rw[<-BF,<-E2];exact Im wr _ _
     have t0:=bT.ev 0 rfl
     have pI:=Qh (hu.trans ut);have g0t:∀W,Upd No wt W->W.cell? ⟨bx,0,none⟩=some (.slice (some ad) xt.length xc):=fun W u=>g0 W (pI.out.trans u)
     have Fr:Upd No wt wt:=Il _ _;have wO:=Fr;clear hx ut bT hu;generalize gk=G2 at*;go_wp2
     go_loopg [14,84] xt.length (fun gk s14 s84 wr=>∃(j:Nat) (r:Bool),j+gk=xt.length∧s84= Qi (j:Int)∧s14= .bool r∧Hid (r= !((xt.take j).all (ZfO ti)))∧Upd No wt wr)
     case atStart=>exact⟨0,false,by omega,rfl,rfl,Qh (by simp),wO⟩
     case round=>
      obtain⟨j,r,kP,rfl,rfl,hr,hu⟩:=hrel
      by_cases hltj:j<xt.length
      ·obtain⟨ad2,cq,q0,q1,q2⟩:=(tT.out wr (pI.out.trans hu)).tx_at hltj;have bK:=(tT.out wr (pI.out.trans hu)).tx xt[j] (Hg hltj);simp only at cq q0 q1 q2 bK
       cases cq
       obtain⟨⟨ui,ud,uo,uA,uc⟩,hx⟩:∃x,xt[j]=x:=⟨_,rfl⟩;rw[hx]at q0 q1 q2 bK;simp only at q0 q1 q2 bK;have XU:=Qh hx;have b4:(j:Int)<(xt.length:Int):=by omega
       have b3:(0:Int)<=(j:Int):=Qn _;obtain⟨wu,vC⟩:=Qe (wr.alloc (.cells #[Qi ui,.bool ud,.slice uA uo.length uc] 39));have uu:Upd No wr wu:=by rw[<-vC];exact(Il No wr).alloc _
       have bU:Blk wu wr.heap.size 39 [Qi ui,.bool ud,.slice uA uo.length uc]:=by rw[<-vC];exact Im wr _ _
       obtain⟨k0,k1,k2⟩:=bU.c3;obtain⟨vs,nf⟩:=Qe (ZbS ui uo);have hN:=Zly _ wu ui ud uA uc uo (HOps.upd bK.1 uu Qo) bK.2.2.1;rw[nf]at hN;have HN:=Qh hN;have qZ:=Qh nf;have vE:=Qh (show vs.length<=4398046511103 by rw[<-nf];exact Nat.le_trans (Zkx _ _) bK.2.2.1);have E5:=Qh (hu.trans uu);clear hx bK uu bU hu hN nf;go_wp2_with fail;refine(HN.out).mono ?_;rintro e wn ⟨A3,c3,rfl,aQ,hu3⟩;have HR:=Qh (Recs.of_own (size:=3) (rows:=vs.map Ver.cells) (fun r hr=>by obtain⟨e,_,rfl⟩:=Ih.1 hr;rfl) (by omega) (by simpa using aQ));have Al:=Qh (E5.out.trans hu3);have t0n:∀W,Upd No wn W->W.cell? ⟨bt,0,none⟩=some (Qi ti):=fun W u=>t0 W (Al.out.trans u)
       have ph:Upd No wn wn:=Il _ _;have xD:=ph;have vU:=vE.out;clear aQ hu3 k0 k1 k2 q0 q1 q2 vC;generalize gk=G3 at*;go_wp2
       go_loopg [14,91] vs.length (fun gk s14 s91 wr=>∃(i:Nat) (r:Bool),i+gk=vs.length∧s91= Qi (i:Int)∧s14= .bool r∧Hid (r= !((xt.take j).all (ZfO ti)&&(vs.take i).all (ZjF ti)))∧Upd No wn wr)
       case atStart=>exact⟨0,r,by omega,rfl,rfl,Qh (by rw[hr.out];simp),xD⟩
       case round=>
        obtain⟨i,r2,F6,rfl,rfl,fX,hu⟩:=hrel
        by_cases hlti:i<vs.length
        ·have hi':i<(vs.map Ver.cells).length:=by simpa using hlti
         obtain⟨ad3,tq,_,_,jv⟩:=Recs.at_ (Recs.upd HR.out hu Qo) hi';rw[G8]at jv;obtain⟨⟨va,vb,vc⟩,hv⟩:∃v,vs[i]=v:=⟨_,rfl⟩;rw[hv]at jv;have p0:wr.cell? (ad3.add (i*3))=some (Qi va):=by simpa using jv 0 _ rfl
         have p1:wr.cell? ⟨(ad3.add (i*3)).block,(ad3.add (i*3)).off+1,none⟩=some (Qi vb):=by simpa using jv 1 _ rfl
         have p2:wr.cell? ⟨(ad3.add (i*3)).block,(ad3.add (i*3)).off+2,none⟩=some (Qi vc):=by simpa using jv 2 _ rfl
         subst tq;have HV:=Qh (Zlg (q:=ZjF ti) hlti hv);have b6:(i:Int)<(vs.length:Int):=by omega
         have b5:(0:Int)<=(i:Int):=Qn _;obtain⟨wv,tL⟩:=Qe (wr.alloc (.cells #[Qi va,Qi vb,Qi vc] 49));have uv:Upd No wr wv:=by rw[<-tL];exact(Il No wr).alloc _
         have bV:Blk wv wr.heap.size 49 [Qi va,Qi vb,Qi vc]:=by rw[<-tL];exact Im wr _ _
         have l0:=bV.cell 0;simp only[Qz]at l0;have kZ:Upd No wn wv:=hu.trans uv;clear hv jv hi' uv bV hu
         cases r2
         ·obtain⟨q,hq⟩:=Qe ((va==ti));have HQ:=Qh hq;go_wp2;go_roundg (gk-1)
          case measure=>omega
          case rel=>exact⟨i+1,q,by omega,by go_num,rfl,Qh (by
           have h1:=fX.out;have h2:((xt.take j).all (ZfO ti)&&(vs.take i).all (ZjF ti))=true:=by simpa using h1.symm
           rw[HV.out,<-Bool.and_assoc,h2,Bool.true_and];unfold ZjF;simp only[HQ.out,Bool.not_not]),kZ⟩
         ·go_wp2;go_roundg (gk-1)
          case measure=>omega
          case rel=>exact⟨i+1,true,by omega,by go_num,rfl,Qh (by
           have h1:=fX.out;have h2:((xt.take j).all (ZfO ti)&&(vs.take i).all (ZjF ti))=false:=by rw[<-Bool.not_eq_true'];exact h1.symm
           rw[HV.out,<-Bool.and_assoc,h2];rfl),kZ⟩
        ·obtain rfl:i=vs.length:=by omega
         have cM:=Qh (show r2= !((xt.take (j+1)).all (ZfO ti)) by
          rw[Zlg hltj XU.out,fX.out,G7];unfold ZfO;simp only[qZ.out])
         clear fX;go_wp2;go_roundg (G3-1);exact⟨j+1,r2,by omega,by go_num,rfl,cM,Al.out.trans hu⟩;omega
      ·obtain rfl:j=xt.length:=by omega
       have tX:=Qh (show r= !(xt.all (ZfO ti)) by rw[hr.out,G7]);clear hr
       cases r
       ·have ah:xt.all (ZfO ti)=true:=by simpa using tX.out.symm
        have jp:=Qh (by have:=Zt3 wr _ A8 c8 co ti (zX.out wr (pI.out.trans hu)) (by omega);rwa [EM.out ah]at this:CE 15 #[.slice A8 co.length c8,Qi ti] wr (.bool true));have f0:=t0 wr hu;clear ah tX;go_wp2_with fail;refine(jp.out).mono ?_;rintro e wz ⟨rfl,rfl⟩;go_wp2;go_roundg (G2-1);exact⟨k+1,by omega,by go_num,pI.out.trans hu⟩;omega
       ·clear tX;go_wp2;go_roundg (G2-1);exact⟨k+1,by omega,by go_num,pI.out.trans hu⟩;omega
    ·obtain rfl:k=xt.length:=by omega
     obtain⟨wm,uk⟩:∃wm,wm=wr:=⟨_,rfl⟩;subst uk;have qs:=Qh hu;have ER:Upd No wm wm:=Il _ _;have g0m:∀W,Upd No wm W->W.cell? ⟨bx,0,none⟩=some (.slice xA xt.length xc):=fun W u=>g0 W (qs.out.trans u)
     have g1m:∀W,Upd No wm W->W.cell? ⟨bx,1,none⟩=some (.slice xB xo.length xd):=fun W u=>g1 W (qs.out.trans u)
     clear aI hu g0 g1;go_wp2
     go_loopg [117] co.length (fun gk s wr=>∃(k:Nat),k+gk=co.length∧s= Qi (k:Int)∧Upd No wm wr)
     case atStart=>exact⟨0,by omega,rfl,ER⟩
     case round=>
      obtain⟨k,aI,rfl,hu⟩:=hrel
      by_cases hlt:k<co.length
      ·obtain⟨ad,aH,_,_,q0⟩:=(zX.out wr (qs.out.trans hu)).at_ hlt;obtain⟨iq,wR⟩:=Qe (co[k]);rw[wR]at q0;subst aH;obtain⟨t,ht⟩:=Option.isSome_iff_exists.1 (Dc.out iq (by rw[<-wR];exact Hg hlt));have hF:=ZoN _ wr ⟨xt,xo,xA,xc,xB,xd⟩ iq (tT.out wr (qs.out.trans hu));unfold Zht at hF;rw[show Ze (Hist.txs ⟨xt,xo,xA,xc,xB,xd⟩) iq=some t from ht]at hF;unfold Hist.val at hF;simp only at hF;have HF:=Qh hF;have b2:(k:Int)<(co.length:Int):=by omega
       have b1:(0:Int)<=(k:Int):=Qn _;clear hF wR ht;go_wp2_with fail;refine(HF.out).mono ?_;rintro e wz ⟨⟨At,ct,rfl,_,_⟩,eI⟩;have tV:=Qh eI;clear eI;go_wp2;go_roundg (gk-1);exact⟨k+1,by omega,by go_num,(hu.trans tV.out).alloc _⟩;omega
      ·obtain rfl:k=co.length:=by omega
       go_wp2;go_ret;exact⟨rfl,El.out.trans (qs.out.trans hu)⟩
theorem Zwu(F:Iw)(w:I0)(txs:List HTx)(ords:List HOrd)(A:OA)(c:Nat)(B:OA)(d:Nat)(p:Int)(H:Hist.lies F w ⟨txs,ords,A,c,B,d⟩)(L:Hid ZjA):
  CN 5 #[.agg #[.slice A txs.length c,.slice B ords.length d],Qi p] w (.bool true):=by
 cases hl:Zd ⟨txs,ords,A,c,B,d⟩
 ·exact ZmU F w txs ords A c B d p H L (.inl hl)
 ·cases hh:Z7 ⟨txs,ords,A,c,B,d⟩ p
  ·exact ZmU F w txs ords A c B d p H L (.inr ⟨hl,hh⟩)
  ·exact Zrx F w txs ords A c B d p H L hl hh
