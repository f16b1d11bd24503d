/- Closed walks, plain: ids and their ranks; what the first of the shortest is. -/
import Derived.Test.YtadmgiljchgccaaGreatTcbf
namespace Go.Proofs.YtadmgiljchgccaaGreat
open Go.RowKit
set_option linter.unusedVariables false
set_option linter.unusedSimpArgs false
set_option maxRecDepth 100000
set_option maxHeartbeats 8000000
def rk:Iv->Int->Int
 |[],_=>0
 |a::s,x=>if a<x then rk s x+1 else 0
theorem Zeo:∀(s:Iv) (x:Int),0<=rk s x∧rk s x<=(s.length:Int)
 |[],x=>by simp[rk]
 |a::s,x=>by
  have:=Zeo s x;unfold rk;simp only[G1]
  split<;>omega
theorem ZnF:∀{s:Iv} {x:Int},(∀y∈s,x<=y)->rk s x=0
 |[],_,_=>rfl
 |a::s,x,h=>by
  unfold rk;rw[if_neg (by have:=h a Gv;omega)]
theorem Zhj:∀{s:Iv} {x y:Int},s.Pairwise (·<·)->x∈s->x<y->rk s x<rk s y
 |[],x,y,_,h,_=>by cases h
 |a::s,x,y,hs,h,hxy=>by
  rw[Gr]at hs;rcases Ie.1 h with rfl|h
  ·have e1:rk (x::s) x=0:=ZnF fun z hz=>by
    rcases Ie.1 hz with rfl|hz
    ·exact Int.le_refl _
    ·exact Int.le_of_lt (hs.1 z hz)
   rw[e1];unfold rk;rw[if_pos hxy];have:=Zeo s y;omega
  ·have h1:=hs.1 x h;have h2:=Zhj hs.2 h hxy;unfold rk;rw[if_pos h1,if_pos (by omega)];omega
theorem Zw2{s:Iv}{x y:Int}(hs:s.Pairwise (·<·))(hx:x∈s)(h:x<=y):rk s x<=rk s y:=by
 rcases Classical.em (x=y)with rfl|e
 ·exact Int.le_refl _
 ·have:=Zhj hs hx (show x<y by omega);omega
theorem ZcD:∀{s:Iv} {x:Int},s.Pairwise (·<·)->x∈s->rk s x<(s.length:Int)∧s.getD (rk s x).toNat 0=x
 |[],x,_,h=>by cases h
 |a::s,x,hs,h=>by
  rw[Gr]at hs;rcases Ie.1 h with rfl|h
  ·have e1:rk (x::s) x=0:=ZnF fun z hz=>by
    rcases Ie.1 hz with rfl|hz
    ·exact Int.le_refl _
    ·exact Int.le_of_lt (hs.1 z hz)
   rw[e1];simp
  ·have h1:=hs.1 x h;have h2:=ZcD hs.2 h;have h3:=Zeo s x;unfold rk;rw[if_pos h1];refine⟨by simp only[G1];omega,?_⟩;rw[show(rk s x+1).toNat=(rk s x).toNat+1 by omega,List.getD_cons_succ];exact h2.2
theorem ZmE{s:Iv}{i:Int}(h0:0<=i)(h1:i<(s.length:Int)):s.getD i.toNat 0∈s:=by
 rw[List.getD_eq_getElem?_getD,Qg (show i.toNat<s.length by omega)];exact Hg _
theorem ZjI{s:Iv}{i:Int}(hs:s.Pairwise (·<·))(h0:0<=i)(h1:i<(s.length:Int)):rk s (s.getD i.toNat 0)=i:=by
 have hm:=ZmE h0 h1;have h2:=ZcD hs hm;have h3:=Zeo s (s.getD i.toNat 0);have hp:=List.pairwise_iff_getElem.1 hs;rw[List.getD_eq_getElem?_getD,List.getD_eq_getElem?_getD]at h2;rw[List.getD_eq_getElem?_getD]at h3 ⊢;have hi:i.toNat<s.length:=by omega
 rw[Qg hi]at h2 h3 ⊢;simp only[Option.getD_some]at h2 h3 ⊢;have hj:(rk s s[i.toNat]).toNat<s.length:=by omega
 rw[Qg hj]at h2;simp only[Option.getD_some]at h2;rcases Nat.lt_trichotomy (rk s s[i.toNat]).toNat i.toNat with e|e|e
 ·have:=hp _ _ hj hi e;omega
 ·omega
 ·have:=hp _ _ hi hj e;omega
theorem Zn9{s:Iv}{i j:Int}(hs:s.Pairwise (·<·))(h0:0<=i)(h1:j<(s.length:Int))(h:i<=j):s.getD i.toNat 0<=s.getD j.toNat 0:=by
 rcases Classical.em (i=j)with rfl|e
 ·exact Int.le_refl _
 ·refine Classical.byContradiction fun hc=>?_
  have:=Zhj hs (ZmE (s:=s) (i:=j) (by omega) h1) (show s.getD j.toNat 0<s.getD i.toNat 0 by omega);rw[ZjI hs h0 (by omega),ZjI hs (by omega) h1]at this;omega
def toR(ids keys:Iv)(a:HArc):HArc:=⟨rk ids a.f,rk ids a.t,a.kind,rk keys a.label⟩
def unR(ids keys:Iv)(a:HArc):HArc:=⟨ids.getD a.f.toNat 0,ids.getD a.t.toNat 0,a.kind,keys.getD a.label.toNat 0⟩
structure Rk (D:List HArc) (ids keys:List Int) (q:List HArc):Prop where
 si:ids.Pairwise (·<·)
 sk:keys.Pairwise (·<·)
 mi:∀a∈D,a.f∈ids∧a.t∈ids
 ml:∀a∈D,a.label∈keys
 mq:∀b,b∈q↔∃a∈D,b=toR ids keys a
section
variable {D:List HArc} {ids keys:Iv} {q:List HArc}
theorem Rk.un(h:Rk D ids keys q){a:HArc}(ha:a∈D):unR ids keys (toR ids keys a)=a:=by
 obtain⟨h1,h2⟩:=h.mi a ha;have h3:=h.ml a ha;obtain⟨af,at',ak,al⟩:=a;simp only at h1 h2 h3;unfold unR toR;simp only[(ZcD h.si h1).2,(ZcD h.si h2).2,(ZcD h.sk h3).2]
theorem Rk.to(h:Rk D ids keys q){b:HArc}(hb:b∈q):unR ids keys b∈D∧toR ids keys (unR ids keys b)=b:=by
 obtain⟨a,ha,rfl⟩:=(h.mq b).1 hb;rw[h.un ha];exact⟨ha,rfl⟩
theorem Rk.less(h:Rk D ids keys q){a b:HArc}(ha:a∈D)(hb:b∈D):Zbi a b=true->Zbi (toR ids keys a) (toR ids keys b)=true:=by
 have a1:=h.mi a ha;have b1:=h.mi b hb;have a2:=h.ml a ha;have b2:=h.ml b hb;rw[Zdv,Zdv];unfold toR;simp only;rintro(e|⟨e1,e|⟨e2,e|⟨e3,e⟩⟩⟩)
 ·exact .inl (Zhj h.si a1.1 e)
 ·exact .inr ⟨by rw[e1],.inl e⟩
 ·exact .inr ⟨by rw[e1],.inr ⟨e2,.inl (Zhj h.sk a2 e)⟩⟩
 ·exact .inr ⟨by rw[e1],.inr ⟨e2,.inr ⟨by rw[e3],Zhj h.si a1.2 e⟩⟩⟩
theorem Rk.less_un(h:Rk D ids keys q){a b:HArc}(ha:a∈q)(hb:b∈q)(hl:Zbi a b=true):Zbi (unR ids keys a) (unR ids keys b)=true:=by
 have qz:=h.to ha;have dZ:=h.to hb;refine Classical.byContradiction fun hc=>?_
 rcases Classical.em (unR ids keys a=unR ids keys b)with e|e
 ·have:a=b:=by rw[<-qz.2,<-dZ.2,e]
  rw[this]at hl;exact Zb0 b hl
 ·have:=h.less dZ.1 qz.1 (ZkI _ _ hc e);rw[qz.2,dZ.2]at this;exact Zb0 a (Zc8 a b a hl this)
theorem Rk.lex_un(h:Rk D ids keys q):∀{l m:List HArc},(∀a∈l,a∈q)->(∀a∈m,a∈q)->Zfs l m->Zfs (l.map (unR ids keys)) (m.map (unR ids keys))
 |[],m,_,_,hl=>by cases m<;>exact hl.elim
 |a::l,[],_,_,hl=>hl.elim
 |a::l,b::m,ha,hb,hl=>by
  rcases hl with e|⟨e,hl⟩
  ·exact .inl (h.less_un (ha a Gv) (hb b Gv) e)
  ·exact .inr ⟨by rw[e],h.lex_un (fun x hx=>ha x (Gk _ hx)) (fun x hx=>hb x (Gk _ hx)) hl⟩
theorem Rk.up(h:Rk D ids keys q){least v:Int}(hl:least∈ids):∀{l:List HArc} {u:Int},okW D least u l v->u∈ids->okW q (rk ids least) (rk ids u) (l.map (toR ids keys)) (rk ids v)
 |[],u,hw,_=>by
  have hw:u=v:=hw;rw[hw];exact rfl
 |a::l,u,hw,hu=>by
  obtain⟨ha,eQ,Dv,hw⟩:=hw;exact⟨(h.mq _).2 ⟨a,ha,rfl⟩,by unfold toR;simp only;rw[eQ],Zw2 h.si hl Dv,h.up hl hw (h.mi a ha).2⟩
theorem Rk.down(h:Rk D ids keys q){i k:Int}(hi:0<=i):∀{l:List HArc} {j:Int},okW q i j l k->0<=j->j<(ids.length:Int)->okW D (ids.getD i.toNat 0) (ids.getD j.toNat 0) (l.map (unR ids keys)) (ids.getD k.toNat 0)
 |[],j,hw,_,_=>by
  have hw:j=k:=hw;rw[hw];exact rfl
 |a::l,j,hw,h0,h1=>by
  obtain⟨ha,eQ,hij,hw⟩:=hw;have qz:=h.to ha;obtain⟨b,hb,e⟩:=(h.mq a).1 ha;have ht:a.t=rk ids b.t:=by rw[e];rfl
  have h2:=Zeo ids b.t;have h3:=ZcD h.si (h.mi b hb).2;refine⟨qz.1,by show ids.getD a.f.toNat 0=_;rw[eQ],Zn9 h.si hi h1 hij,?_⟩;exact h.down hi hw (by omega) (by omega)
end
theorem Zie{f:HArc->HArc}(hf:∀a,(f a).kind=a.kind)(must:Int)(l:List HArc):Zq must (l.map f)=Zq must l:=by
 unfold Zq;rw[List.any_map]
 congr 1
 funext a
 show isM must (f a)=isM must a
 unfold isM;rw[hf]
structure Short (D:List HArc) (must:Int) (need:Bool) (v:Int) (c:List HArc):Prop where
 ne:c≠[]
 w:okW D v v c v
 m:need=true->Zq must c=true
 le:∀u c',c'≠[]->okW D u u c' u->(need=true->Zq must c'=true)->c.length<=c'.length∧(c.length=c'.length->v<=u∧(v=u->c'=c∨Zfs c c'))
def NoWay(D:List HArc)(must:Int)(need:Bool):Prop:=∀u c',c'≠[]->okW D u u c' u->(need=true->Zq must c'=true)->False
theorem Zmp:∀{l m:List HArc},Zfs l m->Zfs m l->False
 |[],m,h,_=>by cases m<;>exact h.elim
 |a::l,[],h,_=>h.elim
 |a::l,b::m,h,k=>by
  rcases h with h|⟨e,h⟩
  ·rcases k with k|⟨e,k⟩
   ·exact Zb0 a (Zc8 a b a h k)
   ·rw[e]at h;exact Zb0 a h
  ·rcases k with k|⟨e2,k⟩
   ·rw[e]at k;exact Zb0 b k
   ·exact Zmp h k
theorem Short.simple{D:List HArc}{must:Int}{need:Bool}{v:Int}{c:List HArc}(h:Short D must need v c):c.Pairwise fun a b=>a.f≠b.f:=
 Zop h.w h.m (fun c' h1 h2 h3=>(h.le v c' h1 h2 h3).1) (fun u c' h1 h2 h3=>(h.le u c' h1 h2 h3).1)
theorem Rk.short{D:List HArc}{ids keys:Iv}{q:List HArc}(h:Rk D ids keys q){must:Int}{need:Bool}{i:Int}{c:List HArc}(hi:0<=i)(h1:i<(ids.length:Int))(k:Short q must need i c):
  Short D must need (ids.getD i.toNat 0) (c.map (unR ids keys)):=by
 have hM:=fun l=>Zie (f:=unR ids keys) (fun _=>rfl) must l
 have rG:=fun l=>Zie (f:=toR ids keys) (fun _=>rfl) must l
 refine⟨by have:=k.ne;simpa using this,h.down hi k.w hi h1,fun e=>by rw[hM];exact k.m e,fun u c' n1 n2 n3=>?_⟩
 have hu:u∈ids:=by
  cases c' with
  |nil=>exact absurd rfl n1
  |cons a l=>rw[<-n2.2.1];exact(h.mi a n2.1).1
 have k1:=k.le (rk ids u) (c'.map (toR ids keys)) (by simpa using n1) (h.up hu n2 hu) (fun e=>by rw[rG];exact n3 e);rw[Hw]at k1 ⊢;refine⟨k1.1,fun e=>?_⟩;have k2:=k1.2 e;have hr:=ZcD h.si hu;have FC:=Zeo ids u;refine⟨?_,fun e2=>?_⟩
 ·have:=Zn9 h.si hi hr.1 k2.1;rw[hr.2]at this;exact this
 ·have e3:i=rk ids u:=by rw[<-e2,ZjI h.si hi h1]
  have gp:(c'.map (toR ids keys)).map (unR ids keys)=c':=by
   rw[List.map_map]
   conv=>rhs;rw[<-List.map_id c']
   exact List.map_congr_left fun a ha=>h.un (ZaZ n2 a ha)
  rcases k2.2 e3 with e4|e4
  ·left
   rw[<-e4,gp]
  ·right
   have:=h.lex_un (ZaZ k.w) (fun a ha=>by
    obtain⟨b,hb,rfl⟩:=Ih.1 ha;exact(h.mq _).2 ⟨b,ZaZ n2 b hb,rfl⟩) e4
   rw[gp]at this;exact this
theorem Rk.none{D:List HArc}{ids keys:Iv}{q:List HArc}(h:Rk D ids keys q){must:Int}{need:Bool}(k:NoWay q must need):NoWay D must need:=by
 intro u c' n1 n2 n3
 have hu:u∈ids:=by
  cases c' with
  |nil=>exact absurd rfl n1
  |cons a l=>rw[<-n2.2.1];exact(h.mi a n2.1).1
 exact k (rk ids u) (c'.map (toR ids keys)) (by simpa using n1) (h.up hu n2 hu) (fun e=>by rw[Zie (f:=toR ids keys) (fun _=>rfl)];exact n3 e)
theorem Zjx{N:Nat}{q:List HArc}(hr:∀a∈q,Zo N a=true)(hs:Zad q)(mask must:Int)(need:Bool)(ks:Int->Int)(ws:Int->List HArc)
  (hk:∀i:Int,0<=i->i<(N:Int)->ks i=Zag (ofA mask q) must i (Zab N q mask i) (ZA N q mask must i) need)
  (hk2:∀i:Int,0<=i->(N:Int)<=i->ks i=0) (hk3:∀i:Int,i<0->ks i=0)
  (hw:∀i:Int,0<=i->i<(N:Int)->ws i=ZO (ofA mask q) must i (Zab N q mask i) (ZA N q mask must i) (ks i).toNat i need):
  (ZT ks ws N=[]∧NoWay (ofA mask q) must need)∨∃v,0<=v∧v<(N:Int)∧Short (ofA mask q) must need v (ZT ks ws N):=by
 have mA:∀i:Int,0<=i->i<(N:Int)->LoopD (ofA mask q) must i (Zab N q mask i) (ZA N q mask must i):=fun i h0 h1=>Zf9 hr mask must i h0 h1
 have oI:Zad (ofA mask q):=hs.filter _
 have mE:∀i:Int,0<ks i->(0<=i∧i<(N:Int))∧okW (ofA mask q) i i (ws i) i∧((ws i).length:Int)=ks i∧(need=true->Zq must (ws i)=true)∧∀l,okW (ofA mask q) i i l i->(l.length:Int)=ks i->(need=true->Zq must l=true)->l=ws i∨Zfs (ws i) l:=by
  intro i h0
  have h1:0<=i:=by
   refine Classical.byContradiction fun hc=>?_
   rw[hk3 i (by omega)]at h0;omega
  have h2:i<(N:Int):=by
   refine Classical.byContradiction fun hc=>?_
   rw[hk2 i h1 (by omega)]at h0;omega
  have hL:=mA i h1 h2;have h3:=hk i h1 h2;obtain⟨c,c1,c2,c3,c4⟩:=ZlF hL need (by rw[<-h3];exact h0)
  have cA:=ZfN oI hL (ZrR hr mask must i h1 h2) (Znx hr mask must i h1 h2) (ks i).toNat i need (Int.le_refl _) ⟨c,c2,by omega,c4⟩ (fun l l1 l2 l3=>by
   have:=(ZhN hL need l1 l2 l3).2;omega)
  rw[<-hw i h1 h2]at cA;exact⟨⟨h1,h2⟩,cA.1,by have:=cA.2.1;omega,cA.2.2.1,fun l l1 l2 l3=>cA.2.2.2 l l1 (by omega) l3⟩
 have aT:∀u c',c'≠[]->okW (ofA mask q) u u c' u->(need=true->Zq must c'=true)->0<=u∧u<(N:Int)∧0<ks u∧ks u<=(c'.length:Int):=by
  intro u c' n1 n2 n3
  have hu:0<=u∧u<(N:Int):=by
   cases c' with
   |nil=>exact absurd rfl n1
   |cons a l=>
    have:=(ZQ _ _).1 (hr a (mem_ofA.1 n2.1).1);rw[<-n2.2.1];exact⟨this.1,this.2.1⟩
  have:=ZhN (mA u hu.1 hu.2) need n1 n2 n3;rw[<-hk u hu.1 hu.2]at this;exact⟨hu.1,hu.2,this.1,this.2⟩
 rcases Zjy ks ws (fun i h0=>(mE i h0).2.2.1) N with ⟨e,h⟩|⟨i,hi,h0,e,h1,h2⟩
 ·refine .inl ⟨e,fun u c' n1 n2 n3=>?_⟩;have:=aT u c' n1 n2 n3;obtain⟨n,rfl⟩:∃n:Nat,u=(n:Int):=⟨u.toNat,by omega⟩;exact h n (by omega) this.2.2.1
 ·obtain⟨k1,k2,k3,k4,k5⟩:=mE (i:Int) h0;refine .inr ⟨(i:Int),by omega,by omega,?_⟩;rw[e];refine⟨fun e=>by rw[e]at k3;simp at k3;omega,k2,k4,fun u c' n1 n2 n3=>?_⟩;obtain⟨u1,u2,u3,u4⟩:=aT u c' n1 n2 n3;obtain⟨n,rfl⟩:∃n:Nat,u=(n:Int):=⟨u.toNat,by omega⟩;have h3:=h1 n (by omega) u3;refine⟨by omega,fun hl=>⟨?_,fun hv=>?_⟩⟩
  ·refine Classical.byContradiction fun hc=>?_
   exact h2 n (by omega) ⟨u3,by omega⟩
  ·have dH:i=n:=by omega
   subst dH;exact k5 c' n2 (by omega) n3
theorem ZiR{p p':List HArc}{least:Int}:∀{l:List HArc} {u v:Int},okW p least u l v->(∀a∈l,a∈p')->okW p' least u l v
 |[],u,v,h,_=>h
 |a::l,u,v,h,hp=>⟨hp a Gv,h.2.1,h.2.2.1,ZiR h.2.2.2 (fun x hx=>hp x (Gk _ hx))⟩
theorem Short.less{D D':List HArc}{must:Int}{need:Bool}{v:Int}{c:List HArc}(h:Short D must need v c)(hD:∀a∈D',a∈D)(hc:∀a∈c,a∈D'):Short D' must need v c:=
 ⟨h.ne,ZiR h.w hc,h.m,fun u c' n1 n2 n3=>h.le u c' n1 (Zf5 hD (Int.le_refl _) n2) n3⟩
theorem Short.must{D:List HArc}{must must':Int}{need:Bool}{v:Int}{c:List HArc}(h:Short D must need v c)(hm:∀a∈D,isM must a=isM must' a):Short D must' need v c:=by
 have hh:∀l:List HArc,(∀a∈l,a∈D)->Zq must l=Zq must' l:=by
  intro l hl;unfold Zq
  induction l with
  |nil=>rfl
  |cons a l ih=>rw[List.any_cons,List.any_cons,hm a (hl a Gv),ih (fun x hx=>hl x (Gk _ hx))]
 exact⟨h.ne,h.w,fun e=>by rw[<-hh c (ZaZ h.w)];exact h.m e,fun u c' n1 n2 n3=>h.le u c' n1 n2 (fun e=>by rw[hh c' (ZaZ n2)];exact n3 e)⟩
theorem NoWay.must{D:List HArc}{must must':Int}{need:Bool}(h:NoWay D must need)(hm:∀a∈D,isM must a=isM must' a):NoWay D must' need:=by
 have hh:∀l:List HArc,(∀a∈l,a∈D)->Zq must l=Zq must' l:=by
  intro l hl;unfold Zq
  induction l with
  |nil=>rfl
  |cons a l ih=>rw[List.any_cons,List.any_cons,hm a (hl a Gv),ih (fun x hx=>hl x (Gk _ hx))]
 exact fun u c' n1 n2 n3=>h u c' n1 n2 (fun e=>by rw[hh c' (ZaZ n2)];exact n3 e)
/- Closed walks,plain:the document's search tells the same. -/
def Zy(mask k:Int):Bool:=decide (1<=k)&&(decide (k<=3)&&Zf mask k)
def Edge.arc(e:Edge):HArc:=⟨e.f,e.t,e.k,e.key⟩
def HArc.edge(a:HArc):Edge:=⟨a.f,a.t,a.kind,a.label⟩
theorem Zgq(e:Edge):e.arc.edge=e:=rfl
theorem Ztq(a:HArc):a.edge.arc=a:=rfl
def ZiA(must:Int)(pa pn:Iv)(b:Iv)(e:Edge):Iv:=
 if decide (e.t∈pn)=true then Z3 e.f (if (decide (e.t∈pa)&&Zy must e.k)=true then Z3 e.f b else b) else (if (decide (e.t∈pa)&&Zy must e.k)=true then Z3 e.f b else b)
def ZiB(pa:Iv)(a:Iv)(e:Edge):Iv:=if decide (e.t∈pa)=true then Z3 e.f a else a
def Zd4(must:Int)(pa pn:Iv):Iv->Iv->List Edge->Iv×List Int
 |a,b,[]=>(a,b)
 |a,b,e::l=>Zd4 must pa pn (ZiB pa a e) (ZiA must pa pn b e) l
def Zae(must:Int)(l:List Edge)(tgt:Int):Nat->Iv×List Int
 |0=>([tgt],[])
 |n+1=>Zd4 must (Zae must l tgt n).1 (Zae must l tgt n).2 [] [] l
theorem ZqO(pa a:Iv)(e:Edge)(u:Int):u∈ZiB pa a e↔u∈a∨(e.t∈pa∧u=e.f):=by
 unfold ZiB
 split
 ·rename_i h
  have h:=of_decide_eq_true h;rw[Za1]
  constructor
  ·rintro(e|e)
   ·exact .inr ⟨h,e⟩
   ·exact .inl e
  ·rintro(e|⟨_,e⟩)
   ·exact .inr e
   ·exact .inl e
 ·rename_i h
  have h:¬e.t∈pa:=fun e=>h (Qt e)
  exact⟨.inl,fun e=>e.elim id fun e=>absurd e.1 h⟩
theorem ZqN(must:Int)(pa pn b:Iv)(e:Edge)(u:Int):u∈ZiA must pa pn b e↔u∈b∨(u=e.f∧((e.t∈pa∧Zy must e.k=true)∨e.t∈pn)):=by
 have h1:∀x:Iv,(u∈(if (decide (e.t∈pa)&&Zy must e.k)=true then Z3 e.f x else x))↔u∈x∨(u=e.f∧(e.t∈pa∧Zy must e.k=true)):=by
  intro x
  split
  ·rename_i h
   rw[Hj,Gw]at h;rw[Za1]
   constructor
   ·rintro(e|e)
    ·exact .inr ⟨e,h⟩
    ·exact .inl e
   ·rintro(e|⟨e,_⟩)
    ·exact .inr e
    ·exact .inl e
  ·rename_i h
   rw[Hj,Gw]at h;exact⟨.inl,fun e=>e.elim id fun e=>absurd e.2 h⟩
 unfold ZiA
 split
 ·rename_i h
  have h:=of_decide_eq_true h;rw[Za1,h1]
  constructor
  ·rintro(e|e|e)
   ·exact .inr ⟨e,.inr h⟩
   ·exact .inl e
   ·exact .inr ⟨e.1,.inl e.2⟩
  ·rintro(e|⟨e,k|k⟩)
   ·exact .inr (.inl e)
   ·exact .inl e
   ·exact .inl e
 ·rename_i h
  have h:¬e.t∈pn:=fun e=>h (Qt e)
  rw[h1]
  constructor
  ·rintro(e|e)
   ·exact .inl e
   ·exact .inr ⟨e.1,.inl e.2⟩
  ·rintro(e|⟨e,k|k⟩)
   ·exact .inl e
   ·exact .inr ⟨e,k⟩
   ·exact absurd k h
theorem Zi0(must:Int)(pa pn:Iv)(u:Int):∀(l:List Edge) (a b:Iv),u∈(Zd4 must pa pn a b l).1↔u∈a∨∃e∈l,e.t∈pa∧u=e.f
 |[],a,b=>by simp[Zd4]
 |e::l,a,b=>by
  show u∈(Zd4 must pa pn (ZiB pa a e) (ZiA must pa pn b e) l).1↔_
  rw[Zi0 must pa pn u l,ZqO]
  constructor
  ·rintro((h|h)|⟨x,hx,h⟩)
   ·exact .inl h
   ·exact .inr ⟨e,Gv,h⟩
   ·exact .inr ⟨x,Gk _ hx,h⟩
  ·rintro(h|⟨x,hx,h⟩)
   ·exact .inl (.inl h)
   ·rcases Ie.1 hx with rfl|hx
    ·exact .inl (.inr h)
    ·exact .inr ⟨x,hx,h⟩
theorem ZiZ(must:Int)(pa pn:Iv)(u:Int):∀(l:List Edge) (a b:Iv),u∈(Zd4 must pa pn a b l).2↔u∈b∨∃e∈l,u=e.f∧((e.t∈pa∧Zy must e.k=true)∨e.t∈pn)
 |[],a,b=>by simp[Zd4]
 |e::l,a,b=>by
  show u∈(Zd4 must pa pn (ZiB pa a e) (ZiA must pa pn b e) l).2↔_
  rw[ZiZ must pa pn u l,ZqN]
  constructor
  ·rintro((h|h)|⟨x,hx,h⟩)
   ·exact .inl h
   ·exact .inr ⟨e,Gv,h⟩
   ·exact .inr ⟨x,Gk _ hx,h⟩
  ·rintro(h|⟨x,hx,h⟩)
   ·exact .inl (.inl h)
   ·rcases Ie.1 hx with rfl|hx
    ·exact .inl (.inr h)
    ·exact .inr ⟨x,hx,h⟩
section
variable {l:List Edge} {must lo:Int}
theorem Zdu(aY:∀e∈l,lo<=e.f)(tgt:Int):∀(n:Nat) (u:Int),u∈(Zae must l tgt n).1↔∃c,okW (l.map Edge.arc) lo u c tgt∧c.length=n
 |0,u=>by
  show u∈[tgt]↔_
  rw[Gq]
  constructor
  ·intro e;exact⟨[],e,rfl⟩
  ·rintro⟨c,h,hl⟩;have:c=[]:=Gd hl;subst this;exact h
 |n+1,u=>by
  show u∈(Zd4 must (Zae must l tgt n).1 (Zae must l tgt n).2 [] [] l).1↔_
  rw[Zi0]
  constructor
  ·rintro(h|⟨e,he,h1,h2⟩)
   ·cases h
   ·obtain⟨c,k1,k2⟩:=(Zdu aY tgt n e.t).1 h1;exact⟨e.arc::c,⟨Ih.2 ⟨e,he,rfl⟩,h2.symm,by rw[h2];exact aY e he,k1⟩,by simp[k2]⟩
  ·rintro⟨c,k1,k2⟩
   cases c with
   |nil=>simp at k2
   |cons a c=>
    obtain⟨ha,eQ,_,k1⟩:=k1;obtain⟨e,he,rfl⟩:=Ih.1 ha;exact .inr ⟨e,he,(Zdu aY tgt n e.t).2 ⟨c,k1,by simpa using k2⟩,eQ.symm⟩
theorem ZeY{e:Edge}(h1:1<=e.k)(h2:e.k<=3):Zy must e.k=isM must e.arc:=by
 unfold Zy isM;rw[Qt h1,Qt h2];rfl
theorem Ze7(aY:∀e∈l,lo<=e.f)(hk:∀e∈l,1<=e.k∧e.k<=3)(tgt:Int):∀(n:Nat) (u:Int),u∈(Zae must l tgt n).2↔∃c,okW (l.map Edge.arc) lo u c tgt∧c.length=n∧Zq must c=true
 |0,u=>by
  show u∈[]↔_
  constructor
  ·intro e
   cases e
  ·rintro⟨c,h,hl,hm⟩;have:c=[]:=Gd hl;subst this
   cases hm
 |n+1,u=>by
  show u∈(Zd4 must (Zae must l tgt n).1 (Zae must l tgt n).2 [] [] l).2↔_
  rw[ZiZ]
  constructor
  ·rintro(h|⟨e,he,h2,⟨h1,h3⟩|h1⟩)
   ·cases h
   ·obtain⟨c,k1,k2⟩:=(Zdu aY tgt n e.t).1 h1;rw[ZeY (hk e he).1 (hk e he).2]at h3;exact⟨e.arc::c,⟨Ih.2 ⟨e,he,rfl⟩,h2.symm,by rw[h2];exact aY e he,k1⟩,by simp[k2],by rw[ZbD,h3];rfl⟩
   ·obtain⟨c,k1,k2,k3⟩:=(Ze7 aY hk tgt n e.t).1 h1;exact⟨e.arc::c,⟨Ih.2 ⟨e,he,rfl⟩,h2.symm,by rw[h2];exact aY e he,k1⟩,by simp[k2],by rw[ZbD,k3];simp⟩
  ·rintro⟨c,k1,k2,k3⟩
   cases c with
   |nil=>simp at k2
   |cons a c=>
    obtain⟨ha,eQ,_,k1⟩:=k1;obtain⟨e,he,rfl⟩:=Ih.1 ha;refine .inr ⟨e,he,eQ.symm,?_⟩;rw[ZbD,Ia]at k3;rcases k3 with k3|k3
    ·exact .inl ⟨(Zdu aY tgt n e.t).2 ⟨c,k1,by simpa using k2⟩,by rw[ZeY (hk e he).1 (hk e he).2];exact k3⟩
    ·exact .inr ((Ze7 aY hk tgt n e.t).2 ⟨c,k1,by simpa using k2,k3⟩)
end
def isR(must:Int)(pa pn:Iv)(av:Int)(need:Bool)(e:Edge):Bool:=
 e.f==av&&(if (need&& !Zy must e.k)=true then decide (e.t∈pn) else decide (e.t∈pa))
def ZbE(must:Int)(l:List Edge)(rows:Nat->Iv×Iv):Nat->Int->Bool->List Edge
 |0,_,_=>[]
 |n+1,av,need=>match l.find? (isR must (rows n).1 (rows n).2 av need)with
  |some e=>e::ZbE must l rows n e.t (need&& !Zy must e.k)
  |none=>ZbE must l rows n av need
theorem ZeN(a b:Edge):ltE a b=Zbi a.arc b.arc:=by
 unfold ltE Zbi Edge.arc;simp only[ne_eq]
 by_cases h1:a.f=b.f
 ·rw[if_neg (by simpa using h1),if_pos h1]
  by_cases h2:a.k=b.k
  ·rw[if_neg (by simpa using h2),if_pos h2]
   by_cases h3:a.key=b.key
   ·rw[if_neg (by simpa using h3),if_pos h3]
   ·rw[if_pos h3,if_neg h3]
  ·rw[if_pos h2,if_neg h2]
 ·rw[if_pos h1,if_neg h1]
theorem ZhG{l:List Edge}{must lo:Int}(hs:l.Pairwise fun a b=>ltE a b=true)(aY:∀e∈l,lo<=e.f)(hk:∀e∈l,1<=e.k∧e.k<=3)(tgt:Int):
  ∀(n:Nat) (av:Int) (need:Bool),(∃c,okW (l.map Edge.arc) lo av c tgt∧c.length=n∧(need=true->Zq must c=true))->
   okW (l.map Edge.arc) lo av ((ZbE must l (Zae must l tgt) n av need).map Edge.arc) tgt∧(ZbE must l (Zae must l tgt) n av need).length=n∧(need=true->Zq must ((ZbE must l (Zae must l tgt) n av need).map Edge.arc)=true)∧
    ∀c,okW (l.map Edge.arc) lo av c tgt->c.length=n->(need=true->Zq must c=true)->c=(ZbE must l (Zae must l tgt) n av need).map Edge.arc∨Zfs ((ZbE must l (Zae must l tgt) n av need).map Edge.arc) c
 |0,av,need,⟨c,k1,k2,k3⟩=>by
  have:c=[]:=Gd k2;subst this;exact⟨k1,rfl,k3,fun l _ h2 _=> .inl (Gd h2)⟩
 |n+1,av,need,⟨c,k1,k2,k3⟩=>by
  have tailM:∀(e:Edge) (l:List HArc),(need=true->(isM must e.arc||Zq must l)=true)->((need&& !isM must e.arc)=true->Zq must l=true):=by
   intro e l hm hn;rw[Hj]at hn;have h1:=hm hn.1;have h2:isM must e.arc=false:=by simpa using hn.2
   rw[h2,Bool.false_or]at h1;exact h1
  have iB:∀(e:Edge) (l:List HArc),((need&& !isM must e.arc)=true->Zq must l=true)->(need=true->(isM must e.arc||Zq must l)=true):=by
   intro e l hm hn
   by_cases h:isM must e.arc=true
   ·rw[h];rfl
   ·have e2:isM must e.arc=false:=by simpa using h
    rw[hm (by rw[hn,e2];rfl)];simp
  have good:∀(e:Edge),e∈l->(isR must (Zae must l tgt n).1 (Zae must l tgt n).2 av need e=true↔e.f=av∧∃m,okW (l.map Edge.arc) lo e.t m tgt∧m.length=n∧(need=true->(isM must e.arc||Zq must m)=true)):=by
   intro e he;unfold isR;rw[Hj,beq_iff_eq,ZeY (hk e he).1 (hk e he).2];refine and_congr_right fun _=>?_
   split
   ·rename_i hn
    rw[Gw,Ze7 aY hk]
    constructor
    ·rintro⟨m,m1,m2,m3⟩;exact⟨m,m1,m2,fun _=>by rw[m3];simp⟩
    ·rintro⟨m,m1,m2,m3⟩;exact⟨m,m1,m2,tailM e m m3 hn⟩
   ·rename_i hn
    rw[Gw,Zdu aY]
    constructor
    ·rintro⟨m,m1,m2⟩;refine⟨m,m1,m2,fun e2=>?_⟩;rw[e2,Bool.true_and]at hn;have:isM must e.arc=true:=by simpa using hn
     rw[this];rfl
    ·rintro⟨m,m1,m2,_⟩;exact⟨m,m1,m2⟩
  cases c with
  |nil=>simp at k2
  |cons a0 c0=>
   obtain⟨D4,yg,_,k1⟩:=k1;obtain⟨e0,f7,rfl⟩:=Ih.1 D4;have g0:=(good e0 f7).2 ⟨yg,c0,k1,by simpa using k2,k3⟩
   obtain⟨e,pq⟩:∃e,l.find? (isR must (Zae must l tgt n).1 (Zae must l tgt n).2 av need)=some e:=by
    rw[<-Option.isSome_iff_exists,List.find?_isSome];exact⟨e0,f7,g0⟩
   have bB:=List.mem_of_find?_eq_some pq;obtain⟨iy,m,m1,m2,m3⟩:=(good e bB).1 (List.find?_some pq)
   have rA:ZbE must l (Zae must l tgt) (n+1) av need=e::ZbE must l (Zae must l tgt) n e.t (need&& !Zy must e.k):=by
    show(match l.find? (isR must (Zae must l tgt n).1 (Zae must l tgt n).2 av need)with|some e=>e::ZbE must l (Zae must l tgt) n e.t (need&& !Zy must e.k)|none=>ZbE must l (Zae must l tgt) n av need)=_
    rw[pq]
   rw[ZeY (hk e bB).1 (hk e bB).2]at rA;have ih:=ZhG hs aY hk tgt n e.t (need&& !isM must e.arc) ⟨m,m1,m2,tailM e m m3⟩;rw[rA,Id];refine⟨⟨Ih.2 ⟨e,bB,rfl⟩,iy,by rw[<-iy];exact aY e bB,ih.1⟩,by simp[ih.2.1],fun hn=>by rw[ZbD];exact iB e _ ih.2.2.1 hn,fun c hw hl hm=>?_⟩
   cases c with
   |nil=>simp at hl
   |cons b c=>
    obtain⟨hb,vg,_,hw⟩:=hw;obtain⟨x,hx,rfl⟩:=Ih.1 hb
    by_cases hxe:x=e
    ·subst hxe;rcases ih.2.2.2 c hw (by simpa using hl) (tailM x c hm)with h|h
     ·exact .inl (by rw[h])
     ·exact .inr (.inr ⟨rfl,h⟩)
    ·refine .inr (.inl ?_);have gx:=(good x hx).2 ⟨vg,c,hw,by simpa using hl,hm⟩;obtain⟨l8,l9,h1,h2⟩:=(List.find?_eq_some_iff_append.1 pq).2;rw[h1]at hx hs;rw[<-ZeN];rcases Ib.1 hx with hx|hx
     ·have:=h2 x hx;rw[gx]at this
      cases this
     ·rcases Ie.1 hx with hx|hx
      ·exact absurd hx hxe
      ·exact(Gr.1 (Gm.1 hs).2.1).1 x hx
def inR(hit:Nat->Bool)(most:Nat)(id:Int):Nat->Nat->Nat×Int->Nat×Int
 |0,_,s=>s
 |g+1,i,s=>if (decide (i<=most)&&(s.1==0||decide (i<s.1)))=true then inR hit most id g (i+1) (if hit i=true then (i,id) else s) else s
def Zeq(hit:Int->Nat->Bool)(most:Nat):Iv->Nat×Int->Nat×Int
 |[],s=>s
 |id::l,s=>Zeq hit most l (inR (hit id) most id most 1 s)
theorem Zs1{hit:Nat->Bool}{most:Nat}{id:Int}:∀(g i:Nat) (s:Nat×Int),s.1≠0->s.1<=i->inR hit most id g i s=s
 |0,_,_,_,_=>rfl
 |g+1,i,s,h1,h2=>by
  unfold inR;rw[if_neg];rw[Hj,Ia,beq_iff_eq,Gw,Gw];omega
theorem Zmw{hit:Nat->Bool}{most:Nat}{id:Int}:∀(g i:Nat) (s:Nat×Int),1<=i->g+i=most+1->
  (inR hit most id g i s=s∧∀j,i<=j->j<=most->(s.1=0∨j<s.1)->hit j=false)∨
   (∃k,i<=k∧k<=most∧(s.1=0∨k<s.1)∧hit k=true∧inR hit most id g i s=(k,id)∧∀j,i<=j->j<k->hit j=false)
 |0,i,s,_,hg=> .inl ⟨rfl,fun j h1 h2 _=>by omega⟩
 |g+1,i,s,hi,hg=>by
  unfold inR
  by_cases hc:(decide (i<=most)&&(s.1==0||decide (i<s.1)))=true
  ·rw[if_pos hc];rw[Hj,Ia,beq_iff_eq,Gw,Gw]at hc
   by_cases hh:hit i=true
   ·rw[if_pos hh];exact .inr ⟨i,Nat.le_refl _,hc.1,hc.2,hh,Zs1 g (i+1) (i,id) (by show i≠0;omega) (by show i<=i+1;omega),fun j h1 h2=>by omega⟩
   ·rw[if_neg hh];have hf:hit i=false:=by simpa using hh
    rcases Zmw (hit:=hit) (most:=most) (id:=id) g (i+1) s (by omega) (by omega)with ⟨e,h⟩|⟨k,k1,k2,k3,k4,k5,k6⟩
    ·refine .inl ⟨e,fun j h1 h2 h3=>?_⟩;rcases Nat.eq_or_lt_of_le h1 with e1|e1
     ·rw[<-e1];exact hf
     ·exact h j e1 h2 h3
    ·refine .inr ⟨k,by omega,k2,k3,k4,k5,fun j h1 h2=>?_⟩;rcases Nat.eq_or_lt_of_le h1 with e1|e1
     ·rw[<-e1];exact hf
     ·exact k6 j e1 h2
  ·rw[if_neg hc];rw[Hj,Ia,beq_iff_eq,Gw,Gw]at hc;refine .inl ⟨rfl,fun j h1 h2 h3=>?_⟩
   exfalso
   apply hc
   omega
def ZjB(hit:Int->Nat->Bool)(most:Nat)(ids:Iv)(s:Nat×Int):Prop:=
 (s.1=0∧∀x∈ids,∀j,1<=j->j<=most->hit x j=false)∨
  (1<=s.1∧s.1<=most∧s.2∈ids∧hit s.2 s.1=true∧∀x∈ids,∀j,1<=j->j<=most->hit x j=true->s.1<=j∧(x<s.2->s.1<j))
theorem Zf3{hit:Int->Nat->Bool}{most:Nat}:∀(l ids:Iv) (s:Nat×Int),(ids++l).Pairwise (·<·)->ZjB hit most ids s->ZjB hit most (ids++l) (Zeq hit most l s)
 |[],ids,s,_,h=>by rw[Ho];exact h
 |x::l,ids,s,hp,h=>by
  have hlt:∀y∈ids,y<x:=fun y hy=>(Gm.1 hp).2.2 y hy x Gv
  have key:ZjB hit most (ids++[x]) (inR (hit x) most x most 1 s):=by
   rcases Zmw (hit:=hit x) (id:=x) most 1 s (Nat.le_refl _) rfl with ⟨e,k⟩|⟨k,k1,k2,k3,k4,k5,k6⟩
   ·rw[e];rcases h with ⟨h1,h2⟩|⟨h1,h2,h3,h4,h5⟩
    ·refine .inl ⟨h1,fun y hy j j1 j2=>?_⟩;rcases Ib.1 hy with hy|hy
     ·exact h2 y hy j j1 j2
     ·rw[Gq]at hy;subst hy;exact k j j1 j2 (.inl h1)
    ·refine .inr ⟨h1,h2,Gp _ h3,h4,fun y hy j j1 j2 hh=>?_⟩;rcases Ib.1 hy with hy|hy
     ·exact h5 y hy j j1 j2 hh
     ·rw[Gq]at hy;subst hy;have AG:=hlt _ h3;refine⟨?_,fun e2=>by omega⟩;refine Classical.byContradiction fun hc=>?_
      rw[k j j1 j2 (.inr (by omega))]at hh
      cases hh
   ·rw[k5];refine .inr ⟨k1,k2,Gh _ (Gq.2 rfl),k4,fun y hy j j1 j2 hh=>?_⟩;rcases Ib.1 hy with hy|hy
    ·rcases h with ⟨h1,h2⟩|⟨h1,h2,h3,h4,h5⟩
     ·rw[h2 y hy j j1 j2]at hh
      cases hh
     ·have:=(h5 y hy j j1 j2 hh).1
      show k<=j∧(y<x->k<j)
      omega
    ·rw[Gq]at hy;subst hy
     show k<=j∧(y<y->k<j)
     refine⟨?_,fun e2=>by omega⟩;refine Classical.byContradiction fun hc=>?_
     rw[k6 j j1 (by omega)]at hh
     cases hh
  show ZjB hit most (ids++x::l) (Zeq hit most l (inR (hit x) most x most 1 s))
  rw[show ids++x::l=(ids++[x])++l by simp];exact Zf3 l (ids++[x]) _ (by rw[show(ids++[x])++l=ids++x::l by simp];exact hp) key
def ZeQ(must:Int)(need:Bool)(l:List Edge)(id:Int)(i:Nat):Bool:=
 if need=true then decide (id∈(Zae must l id i).2) else decide (id∈(Zae must l id i).1)
theorem Zid{l:List Edge}{must lo:Int}(aY:∀e∈l,lo<=e.f)(hk:∀e∈l,1<=e.k∧e.k<=3)(need:Bool)(id:Int)(i:Nat):
  ZeQ must need l id i=true↔∃c,okW (l.map Edge.arc) lo id c id∧c.length=i∧(need=true->Zq must c=true):=by
 unfold ZeQ
 split
 ·rename_i h
  rw[Gw,Ze7 aY hk];exact⟨fun⟨c,a,b,d⟩=>⟨c,a,b,fun _=>d⟩,fun⟨c,a,b,d⟩=>⟨c,a,b,d h⟩⟩
 ·rename_i h
  rw[Gw,Zdu aY];exact⟨fun⟨c,a,b⟩=>⟨c,a,b,fun e=>absurd e h⟩,fun⟨c,a,b,_⟩=>⟨c,a,b⟩⟩
theorem ZcK{p:List HArc}{must least u:Int}{c:List HArc}(h:okW p least u c u)(hc:c≠[]):∃v c',c'≠[]∧okW p v v c' v∧c'.length=c.length∧Zq must c'=Zq must c∧v<=u∧∀b∈c,v<=b.f:=by
 obtain⟨a,ha,dB⟩:=Ze8 hc
 have hu:a.f<=u:=by
  cases c with
  |nil=>exact absurd rfl hc
  |cons b l=>rw[<-h.2.1];exact dB b Gv
 obtain⟨l1,l2,e,h1,h2⟩:=ZhY h ha;subst e;refine⟨a.f,(a::l2)++l1,by simp,?_,by simp only[Gt,G1];omega,by rw[Zcj,Zcj,Bool.or_comm],hu,dB⟩;refine Zed (ZcV h2 h1) fun b hb=>dB b ?_
 rcases Ib.1 hb with hb|hb
 ·exact Gh _ hb
 ·exact Gp _ hb
theorem Zds:∀{l m:Iv},l.Pairwise (·≠·)->(∀x∈l,x∈m)->l.length<=m.length
 |[],m,_,_=>by simp
 |a::l,m,h,hm=>by
  rw[Gr]at h;have ha:=hm a Gv;have ih:=Zds (l:=l) (m:=m.erase a) h.2 (fun x hx=>(List.mem_erase_of_ne (fun e=>h.1 x hx e.symm)).2 (hm x (Gk _ hx)));rw[List.length_erase_of_mem ha]at ih;have:=Gg ha;simp only[G1];omega
theorem ZoR{l:List Edge}{must lo:Int}{need:Bool}{ids:Iv}(aY:∀e∈l,lo<=e.f)(hk:∀e∈l,1<=e.k∧e.k<=3)(hp:ids.Pairwise (·<·))(most:Nat)(h:NoWay (l.map Edge.arc) must need):(Zeq (ZeQ must need l) most ids (0,0)).1=0:=by
 have hF:=Zf3 (hit:=ZeQ must need l) (most:=most) ids [] (0,0) hp (.inl ⟨rfl,fun x hx=>by cases hx⟩);rw[H8]at hF;rcases hF with h1|⟨h1,h2,h3,h4,h5⟩
 ·exact h1.1
 ·exfalso
  obtain⟨c,c1,c2,c3⟩:=(Zid aY hk need _ _).1 h4;have hc:c≠[]:=fun e=>by rw[e]at c2;simp at c2;omega
  obtain⟨v,c',k1,k2,k3,k4,_⟩:=ZcK (must:=must) c1 hc;exact h v c' k1 k2 (fun e=>by rw[k4];exact c3 e)
theorem Zni{l:List Edge}{must lo:Int}{need:Bool}{ids:Iv}(hs:l.Pairwise fun a b=>ltE a b=true)(aY:∀e∈l,lo<=e.f)(hk:∀e∈l,1<=e.k∧e.k<=3)(hp:ids.Pairwise (·<·))(cQ:∀e∈l,e.f∈ids)
  {most:Nat} (Bg:ids.length<=most) {v:Int} {c:List HArc} (h:Short (l.map Edge.arc) must need v c):
  Zeq (ZeQ must need l) most ids (0,0)=(c.length,v)∧(ZbE must l (Zae must l v) c.length v need).map Edge.arc=c:=by
 have jc:∀a∈c,a.f∈ids:=fun a ha=>by
  obtain⟨e,he,rfl⟩:=Ih.1 (ZaZ h.w a ha);exact cQ e he
 have vU:lo<=v:=by
  have hw:=h.w
  cases c with
  |nil=>exact absurd rfl h.ne
  |cons a c=>
   obtain⟨e,he,e2⟩:=Ih.1 hw.1;rw[<-hw.2.1,<-e2];exact aY e he
 have pM:v∈ids:=by
  have hw:=h.w
  cases hc:c with
  |nil=>exact absurd hc h.ne
  |cons a d=>
   rw[hc]at hw;rw[<-hw.2.1];exact jc a (by rw[hc];exact Gv)
 have aT:c.length<=ids.length:=by
  have:=Zds (l:=c.map HArc.f) (m:=ids) (List.pairwise_map.2 h.simple) (fun x hx=>by
   obtain⟨a,ha,rfl⟩:=Ih.1 hx;exact jc a ha)
  rwa [Hw]at this
 have dP:1<=c.length:=by
  cases hc:c with
  |nil=>exact absurd hc h.ne
  |cons a d=>simp
 have nC:okW (l.map Edge.arc) lo v c v:=Zf5 (fun _=>id) vU h.w;have oF:ZeQ must need l v c.length=true:=(Zid aY hk need v c.length).2 ⟨c,nC,rfl,h.m⟩;have hF:=Zf3 (hit:=ZeQ must need l) (most:=most) ids [] (0,0) hp (.inl ⟨rfl,fun x hx=>by cases hx⟩);rw[H8]at hF
 constructor
 ·rcases hF with ⟨h1,h2⟩|⟨h1,h2,h3,h4,h5⟩
  ·rw[h2 v pM c.length dP (by omega)]at oF
   cases oF
  ·have h6:=h5 v pM c.length dP (by omega) oF;obtain⟨d,d1,d2,d3⟩:=(Zid aY hk need _ _).1 h4;have hd:d≠[]:=fun e=>by rw[e]at d2;simp at d2;omega
   obtain⟨u,c',k1,k2,k3,k4,k5,_⟩:=ZcK (must:=must) d1 hd;have h7:=h.le u c' k1 k2 (fun e=>by rw[k4];exact d3 e);have h8:c.length=(Zeq (ZeQ must need l) most ids (0,0)).1:=by omega
   have h9:=(h7.2 (by omega)).1;have kJ:¬v<(Zeq (ZeQ must need l) most ids (0,0)).2:=fun e=>by have:=h6.2 e;omega
   have yM:v=(Zeq (ZeQ must need l) most ids (0,0)).2:=by omega
   rw[h8,yM]
 ·obtain⟨r1,r2,r3,r4⟩:=ZhG hs aY hk v c.length v need ⟨c,nC,rfl,h.m⟩;obtain⟨r,hr⟩:=Qe ((ZbE must l (Zae must l v) c.length v need).map Edge.arc);rw[hr]at r1 r3 r4 ⊢;have kU:r.length=c.length:=by rw[<-hr,Hw];exact r2
  have As:r≠[]:=fun e=>by rw[e]at kU;simp at kU;omega
  obtain⟨u,c',k1,k2,k3,k4,k5,k6⟩:=ZcK (must:=must) r1 As;have h7:=h.le u c' k1 k2 (fun e=>by rw[k4];exact r3 e);have h9:=(h7.2 (by omega)).1;have ur:okW (l.map Edge.arc) v v r v:=Zed r1 (fun b hb=>Int.le_trans h9 (k6 b hb));have EA:=((h.le v r As ur r3).2 kU.symm).2 rfl;rcases EA with e|e
  ·exact e
  ·rcases r4 c nC rfl h.m with e2|e2
   ·exact e2.symm
   ·exact(Zmp e e2).elim
/- Phenomena,plain:who is reached by edges,as the document seeks it. -/
inductive RchE (l:List Edge):Int->Int->Prop
 |refl (a:Int):RchE l a a
 |step {a b:Int} {e:Edge}:RchE l a b->e∈l->e.f=b->RchE l a e.t
theorem RchE.trans{l:List Edge}{a b c:Int}(h:RchE l a b)(k:RchE l b c):RchE l a c:=by
 induction k with
 |refl=>exact h
 |step _ h2 h3 ih=>exact ih.step h2 h3
def Zb3:Iv->List Edge->List Int
 |out,[]=>out
 |out,e::m=>Zb3 (if e.f∈out∧e.t∉out then out++[e.t] else out) m
def itE(l:List Edge):Nat->Iv->List Int
 |0,out=>out
 |n+1,out=>itE l n (Zb3 out l)
def ZeK(l:List Edge)(a:Int):Iv:=itE l (l.length+1) [a]
theorem ZlM:∀(l:List Edge) (out:Iv),∀x∈out,x∈Zb3 out l
 |[],_,_,h=>h
 |e::l,out,x,h=>by
  unfold Zb3
  apply ZlM
  split
  ·exact Gp _ h
  ·exact h
theorem ZhQ:∀(l:List Edge) (out:Iv),out.length<=(Zb3 out l).length∧((Zb3 out l).length=out.length->Zb3 out l=out∧∀e∈l,e.f∈out->e.t∈out)
 |[],out=>⟨Nat.le_refl _,fun _=>⟨rfl,by simp⟩⟩
 |e::l,out=>by
  unfold Zb3
  split
  ·rename_i h
   have h1:=(ZhQ l (out++[e.t])).1;rw[Gt,Gi]at h1;exact⟨by omega,fun e=>by omega⟩
  ·rename_i h
   obtain⟨h1,h2⟩:=ZhQ l out;refine⟨h1,fun e=>⟨(h2 e).1,fun b hb=>?_⟩⟩;rcases Ie.1 hb with rfl|hb
   ·intro hf;exact Classical.byContradiction fun ht=>h ⟨hf,ht⟩
   ·exact(h2 e).2 b hb
theorem ZiG:∀(l:List Edge) (out:Iv),out.Nodup->(Zb3 out l).Nodup
 |[],_,h=>h
 |e::l,out,h=>by
  unfold Zb3
  apply ZiG
  split
  ·rename_i hc
   exact List.nodup_append.2 ⟨h,by simp,fun x hx y hy=>by rw[Gq.1 hy];exact fun e'=>hc.2 (e'▸hx)⟩
  ·exact h
theorem ZlN(q:List Edge)(P:Int->Prop)(h1:∀e∈q,P e.f->P e.t):∀(l:List Edge) (out:Iv),(∀e∈l,e∈q)->(∀x∈out,P x)->∀x∈Zb3 out l,P x
 |[],_,_,h=>h
 |e::l,out,hl,h=>by
  unfold Zb3;refine ZlN q P h1 l _ (fun b hb=>hl b (Gk _ hb)) ?_
  split
  ·rename_i hc
   intro x hx;rcases Ib.1 hx with hx|hx
   ·exact h x hx
   ·rw[Gq.1 hx];exact h1 e (hl e (Gv ..)) (h _ hc.1)
  ·exact h
theorem Zn0(l:List Edge):∀(n:Nat) (out:Iv),itE l (n+1) out=Zb3 (itE l n out) l
 |0,_=>rfl
 |n+1,out=>by
  show itE l (n+1) (Zb3 out l)=Zb3 (itE l n (Zb3 out l)) l
  exact Zn0 l n _
theorem ZjU(l:List Edge)(P:Int->Prop)(h1:∀e∈l,P e.f->P e.t):∀(n:Nat) (out:Iv),(∀x∈out,P x)->∀x∈itE l n out,P x
 |0,_,h=>h
 |n+1,out,h=>ZjU l P h1 n _ (ZlN l P h1 l out (fun _ h=>h) h)
theorem ZkL(l:List Edge):∀(n:Nat) (out:Iv),out.Nodup->(itE l n out).Nodup
 |0,_,h=>h
 |n+1,out,h=>ZkL l n _ (ZiG l out h)
theorem ZnZ(l:List Edge):∀(n:Nat) (out:Iv),∀x∈out,x∈itE l n out
 |0,_,_,h=>h
 |n+1,out,x,h=>ZnZ l n _ x (ZlM l out x h)
def Zj8(l:List Edge)(out:Iv):Prop:=∀e∈l,e.f∈out->e.t∈out
theorem Zhz{q:List Edge}{out:Iv}(h:Zj8 q out):∀l:List Edge,(∀e∈l,e∈q)->Zb3 out l=out
 |[],_=>rfl
 |e::l,hl=>by
  unfold Zb3;rw[if_neg fun hc=>hc.2 (h e (hl e (Gv ..)) hc.1)];exact Zhz h l fun b hb=>hl b (Gk _ hb)
theorem Zq6(l:List Edge)(out:Iv):∀n,Zj8 l (itE l n out)∨out.length+n<=(itE l n out).length
 |0=>Or.inr (Nat.le_refl _)
 |n+1=>by
  rw[Zn0];rcases Zq6 l out n with h|h
  ·left;rw[Zhz h l fun _ h=>h];exact h
  ·obtain⟨h1,h2⟩:=ZhQ l (itE l n out)
   by_cases e:(Zb3 (itE l n out) l).length=(itE l n out).length
   ·left;rw[(h2 e).1];exact(h2 e).2
   ·right;omega
theorem Zll(l:List Edge)(a:Int):Zj8 l (ZeK l a):=by
 unfold ZeK;rcases Zq6 l [a] (l.length+1)with h|h
 ·exact h
 ·exfalso
  have h1:=Zeh (itE l (l.length+1) [a]) (a::l.map (·.t)) (ZkL l _ _ (by simp)) (ZjU l (fun x=>x∈a::l.map (·.t)) (fun e he _=>Gk _ (Ih.2 ⟨e,he,rfl⟩)) _ _ (fun x hx=>by rw[Gq.1 hx];exact Gv ..));rw[G1,Hw]at h1;rw[Gi]at h;omega
theorem mem_reachE{l:List Edge}{a x:Int}:x∈ZeK l a↔RchE l a x:=by
 constructor
 ·exact ZjU l (fun x=>RchE l a x) (fun e he h=>h.step he rfl) _ _ (fun x hx=>by rw[Gq.1 hx];exact RchE.refl a) x
 ·intro h
  induction h with
  |refl=>exact ZnZ l _ _ a (by simp)
  |step _ h2 h3 ih=>exact Zll l a _ h2 (h3▸ih)
def Zcg(l:List Edge)(mask must:Int):Bool:=
 let q:=l.filter fun e=>Zy mask e.k
 let sp:=if (bits .and .i64 must 14==0)=true then q else q.filter fun e=>Zy must e.k
 sp.any fun e=>decide (e.f∈ZeK q e.t)
/- Phenomena,plain:the ids of edges are numbered,and the digraph of the numbers tells the same as the edges. -/
def Z5(ids:Iv)(x:Int):Iv:=if x∈ids then ids else ids++[x]
def ZbX(ids:Iv)(e:Edge):HArc:=⟨(Zr ids e.f:Int),(Zr ids e.t:Int),e.k,0⟩
def Zeg:Iv->List HArc->List Edge->Iv×List HArc
 |ids,ac,[]=>(ids,ac)
 |ids,ac,e::l=>Zeg (Z5 (Z5 ids e.f) e.t) (ac++[⟨(Zr (Z5 ids e.f) e.f:Int),(Zr (Z5 (Z5 ids e.f) e.t) e.t:Int),e.k,0⟩]) l
theorem numE_mem{ids:Iv}{x y:Int}:y∈Z5 ids x↔y∈ids∨y=x:=by
 unfold Z5
 split
 ·rename_i h
  exact⟨Or.inl,fun h2=>h2.elim id (fun e=>e▸h)⟩
 ·rw[Ib,Gq]
theorem ZiT{ids:Iv}{x:Int}(h:ids.Nodup):(Z5 ids x).Nodup:=by
 unfold Z5
 split
 ·exact h
 ·rename_i hx
  exact List.nodup_append.2 ⟨h,by simp,fun y hy z hz=>by rw[Gq.1 hz];exact fun e=>hx (e▸hy)⟩
theorem Zf7(ids:Iv)(x:Int):(Z5 ids x).length<=ids.length+1:=by
 unfold Z5
 split
 ·omega
 ·simp
theorem ZdT{ids:Iv}{x:Int}(h:x∈ids):Zr ids x<ids.length:=by
 unfold Zr;exact List.findIdx_lt_length_of_exists ⟨x,h,by simp⟩
theorem ZnJ{ids:Iv}{x:Int}(h:x∈ids):ids[Zr ids x]? =some x:=by
 have hl:=ZdT h;rw[Qg hl];have:=List.findIdx_getElem (p:=(·==x)) (xs:=ids) (w:=hl);rw[beq_iff_eq]at this;rw[show ids[Zr ids x]=x from this]
theorem ZlX{ids:Iv}{x y:Int}(hx:x∈ids)(hy:y∈ids)(e:Zr ids x=Zr ids y):x=y:=by
 have h1:=ZnJ hx;rw[e,ZnJ hy]at h1;exact(Option.some.inj h1).symm
theorem ZsA{ids:Iv}{x:Int}(h:x∈ids)(l:Iv):Zr (ids++l) x=Zr ids x:=by
 unfold Zr;rw[List.findIdx_append,if_pos (List.findIdx_lt_length_of_exists ⟨x,h,by simp⟩)]
theorem ZhT{ids:Iv}{x y:Int}(h:x∈ids):Zr (Z5 ids y) x=Zr ids x:=by
 unfold Z5
 split
 ·rfl
 ·exact ZsA h _
theorem Zsz{ids:Iv}{x:Int}(h:x∉ids):Zr (ids++[x]) x=ids.length:=by
 unfold Zr;rw[List.findIdx_append]
 have:¬List.findIdx (fun y=>y==x) ids<ids.length:=fun hl=>h (by
  have:=List.findIdx_getElem (p:=(·==x)) (xs:=ids) (w:=hl);rw[beq_iff_eq]at this;rw[<-this];exact Hg _)
 rw[if_neg this];simp
structure NumOk (ids:List Int) (ac:List HArc) (D:List Edge):Prop where
 nd:ids.Nodup
 arcs:ac=D.map (ZbX ids)
 has:∀e∈D,e.f∈ids∧e.t∈ids
 len:ids.length<=2*D.length
theorem ZnP:∀(l D:List Edge) (ids:Iv) (ac:List HArc),NumOk ids ac D->NumOk (Zeg ids ac l).1 (Zeg ids ac l).2 (D++l)
 |[],D,ids,ac,h=>by rw[Ho];exact h
 |e::l,D,ids,ac,h=>by
  have hf:e.f∈Z5 ids e.f:=numE_mem.2 (Or.inr rfl);have ht:e.t∈Z5 (Z5 ids e.f) e.t:=numE_mem.2 (Or.inr rfl);have gN:e.f∈Z5 (Z5 ids e.f) e.t:=numE_mem.2 (Or.inl hf);have hk:∀x,x∈ids->x∈Z5 (Z5 ids e.f) e.t:=fun x hx=>numE_mem.2 (Or.inl (numE_mem.2 (Or.inl hx)))
  have hp:∀x,x∈ids->Zr (Z5 (Z5 ids e.f) e.t) x=Zr ids x:=fun x hx=>by rw[ZhT (numE_mem.2 (Or.inl hx)),ZhT hx]
  have:=ZnP l (D++[e]) (Z5 (Z5 ids e.f) e.t) (ac++[⟨(Zr (Z5 ids e.f) e.f:Int),(Zr (Z5 (Z5 ids e.f) e.t) e.t:Int),e.k,0⟩]) ⟨ZiT (ZiT h.nd),?_,?_,?_⟩
  ·rw[Gx]at this;exact this
  ·rw[Hu,h.arcs]
   congr 1
   ·refine List.map_congr_left fun b hb=>?_
    obtain⟨h1,h2⟩:=h.has b hb;unfold ZbX;rw[hp _ h1,hp _ h2]
   ·show[_]=[ZbX _ e]
    unfold ZbX;rw[ZhT (y:=e.t) hf]
  ·intro b hb;rcases Ib.1 hb with hb|hb
   ·exact⟨hk _ (h.has b hb).1,hk _ (h.has b hb).2⟩
   ·rw[Gq.1 hb];exact⟨gN,ht⟩
  ·have h1:=Zf7 ids e.f;have h2:=Zf7 (Z5 ids e.f) e.t;have:=h.len;rw[Gt,Gi];omega
theorem ZsU{N:Nat}{q:List HArc}{a b:HArc}:b∈Zcq N q a↔b∈q∨(b=a∧Zo N a=true):=by
 unfold Zcq
 split
 ·rename_i hr
  split
  ·rename_i hm
   exact⟨Or.inl,fun h=>h.elim id (fun e=>e.1▸hm)⟩
  ·rw[ZbI];exact⟨fun h=>h.elim (fun e=>Or.inr ⟨e,hr⟩) Or.inl,fun h=>h.elim Or.inr (fun e=>Or.inl e.1)⟩
 ·rename_i hr
  exact⟨Or.inl,fun h=>h.elim id (fun e=>absurd e.2 hr)⟩
theorem ZkA{N:Nat}{b:HArc}:∀(l q:List HArc),b∈Zet N q l↔b∈q∨(b∈l∧Zo N b=true)
 |[],q=>by simp[Zet]
 |a::l,q=>by
  rw[Zi4,ZkA l,ZsU]
  constructor
  ·rintro((h|⟨rfl,h⟩)|⟨h,k⟩)
   ·exact Or.inl h
   ·exact Or.inr ⟨Gv ..,h⟩
   ·exact Or.inr ⟨Gk _ h,k⟩
  ·rintro(h|⟨h,k⟩)
   ·exact Or.inl (Or.inl h)
   ·rcases Ie.1 h with rfl|h
    ·exact Or.inl (Or.inr ⟨rfl,k⟩)
    ·exact Or.inr ⟨h,k⟩
section
variable {ids:Iv} {ac:List HArc} {D:List Edge} {q:List HArc} {N:Nat}
def ZjD(ids:Iv)(D:List Edge)(q:List HArc):Prop:=∀a,a∈q↔∃e∈D,ZbX ids e=a
theorem ZnH(h:NumOk ids ac D)(hq:Zcw N q)(hm:ZjD ids D q){x y:Int}(hx:x∈ids)(k:RchE D x y):y∈ids∧Rch (nxN q) (Zr ids x) (Zr ids y):=by
 induction k with
 |refl=>exact⟨hx,Rch.refl _⟩
 |step h1 h2 h3 ih=>
  rename_i b e
  refine⟨(h.has e h2).2,ih.2.step ((ZdY hq).2 ⟨ZbX ids e,(hm _).2 ⟨e,h2,rfl⟩,?_,rfl⟩)⟩;rw[<-h3];rfl
theorem ZuW(h:NumOk ids ac D)(hq:Zcw N q)(hm:ZjD ids D q){x:Int}{i j:Nat}(hx:x∈ids)(hi:i=Zr ids x)(k:Rch (nxN q) i j):∃y∈ids,j=Zr ids y∧RchE D x y:=by
 induction k with
 |refl=>exact⟨x,hx,hi,RchE.refl x⟩
 |step h1 h2 ih=>
  obtain⟨y,hy,e1,hr⟩:=ih;obtain⟨a,ha,h3,h4⟩:=(ZdY hq).1 h2;obtain⟨e,he,rfl⟩:=(hm a).1 ha
  have h5:Zr ids e.f=Zr ids y:=by
   have:((Zr ids e.f:Nat):Int)=_:=h3;omega
  have h6:=ZlX (h.has e he).1 hy h5;refine⟨e.t,(h.has e he).2,?_,hr.step he h6⟩;have:((Zr ids e.t:Nat):Int)=_:=h4;omega
theorem ZsY(h:NumOk ids ac D)(hq:Zcw N q)(hm:ZjD ids D q){e:Edge}(he:e∈D):Zb8 q (Zr ids e.f)=Zb8 q (Zr ids e.t)↔RchE D e.t e.f:=by
 rw[ZqZ hq];have hf:=(h.has e he).1;have ht:=(h.has e he).2
 constructor
 ·rintro⟨_,h2⟩;obtain⟨y,hy,e1,hr⟩:=ZuW h hq hm ht rfl h2
  rwa [ZlX hf hy e1]
 ·intro hr;exact⟨(ZnH h hq hm hf ((RchE.refl e.f).step he rfl)).2,(ZnH h hq hm ht hr).2⟩
end
/- Closed walks,the document's:edges put among others,and those of a mask. -/
def ZN(l:List Edge):Ip:=(l.map Edge.cells).flatten
theorem ZbF(l:List Edge):(ZN l).length=l.length*4:=by
 unfold ZN
 induction l with
 |nil=>rfl
 |cons a l ih=>simp only[Id,List.flatten_cons,Gt,G1,ih];simp[Edge.cells];omega
def ZwJ(w:I0)(l:List Edge)(e:Ending)(w':I0):Prop:=∃A c,e= .returned (.slice A l.length c)∧w'.ownsRow w.heap.size 58 4 (.slice A l.length c) l.length (ZN l)∧Upd No w w'
def Zf1(a:Edge):List Edge->List Edge
 |[]=>[a]
 |x::l=>if ltE x a=true then x::Zf1 a l else a::(x::l).filter (fun y=> !(y==a))
theorem Ztk{p:Edge->Bool}{l:List Edge}{k:Nat}{x:Edge}(hk:k<l.length)(hx:l[k]=x)(hr:p x=false):(l.take (k+1)).filter p=(l.take k).filter p:=by
 subst hx;rw[Gb hk,List.filter_append,List.filter_cons_of_neg (by rw[hr];decide)];simp
theorem Zrk{p:Edge->Bool}{l:List Edge}{k:Nat}{x:Edge}(hk:k<l.length)(hx:l[k]=x)(hr:p x=true):(l.take (k+1)).filter p=(l.take k).filter p++[x]:=by
 subst hx;rw[Gb hk,List.filter_append,List.filter_cons_of_pos (by rw[hr])];rfl
theorem ZgZ(a:Edge):∀l:List Edge,(Zf1 a l).map Edge.arc=Zc1 a.arc (l.map Edge.arc)
 |[]=>rfl
 |x::l=>by
  have hf:∀m:List Edge,(m.filter fun y=> !(y==a)).map Edge.arc=(m.map Edge.arc).filter fun y=> !(y==a.arc):=by
   intro m
   induction m with
   |nil=>rfl
   |cons y m ih=>
    have hb:(y==a)=(y.arc==a.arc):=by
     rw[Bool.eq_iff_iff,beq_iff_eq,beq_iff_eq];exact⟨fun e=>by rw[e],fun e=>by rw[<-Zgq y,<-Zgq a,e]⟩
    rw[Id,List.filter_cons,List.filter_cons,hb]
    split
    ·rw[Id,ih]
    ·exact ih
  show(if ltE x a=true then x::Zf1 a l else a::(x::l).filter (fun y=> !(y==a))).map Edge.arc=(if Zbi x.arc a.arc=true then x.arc::Zc1 a.arc (l.map Edge.arc) else a.arc::((x::l).map Edge.arc).filter (fun y=> !(y==a.arc)))
  rw[ZeN]
  split
  ·rw[Id,ZgZ a l]
  ·rw[Id,hf]
/- Closed walks:which edges do not count. -/
def Za7(mask:Int)(e:Edge):Bool:=decide (e.k<1)||(decide (3<e.k)|| !Zf mask e.k)
theorem Zuj(w:I0)(p:Addr)(mask:Int)(hp:w.cell? p=some (Qi mask))(e:Edge):
  Calls Tryz.prog 167 #[.agg e.cells.toArray,.pointer (some p)] w fun x w'=>x= .returned (.bool (Za7 mask e))∧Upd No w w':=by
 obtain⟨ef,et,ek,ey⟩:=e;have u0:=(Il No w).alloc (.cells #[Qi ef,Qi et,Qi ek,Qi ey] 58);have dh:=u0.keepNo hp;have U0:=Qh u0;unfold Edge.cells;clear u0
 by_cases h1:ek<1
 ·have hv:Hid (Za7 mask ⟨ef,et,ek,ey⟩=true):=Qh (by unfold Za7;rw[Qt h1];rfl);have d1:decide (ek<1)=true:=Qt h1;go_enter Tryz.func167,Tryz.ntmps167;go_wp2;go_ret;exact⟨by rw[hv.out];rfl,U0.out⟩
 ·have d1:decide (ek<1)=false:=Qf h1
  by_cases h2:3<ek
  ·have hv:Hid (Za7 mask ⟨ef,et,ek,ey⟩=true):=Qh (by unfold Za7;rw[d1,Qt h2];rfl);have d2:decide (3<ek)=true:=Qt h2;go_enter Tryz.func167,Tryz.ntmps167;go_wp2;go_ret;exact⟨by rw[hv.out];rfl,U0.out⟩
  ·have hk:ek=1∨ek=2∨ek=3:=by omega
   clear d1 h1 h2;rcases hk with rfl|rfl|rfl
   ·have hv:Hid (Za7 mask ⟨ef,et,1,ey⟩=(bits .and .i64 (mask/2) 1==0)):=Qh (by rw[Zdn];rfl);go_enter Tryz.func167,Tryz.ntmps167;go_wp2;go_ret;exact⟨by rw[hv.out];rfl,U0.out⟩
   ·have hv:Hid (Za7 mask ⟨ef,et,2,ey⟩=(bits .and .i64 (mask/4) 1==0)):=Qh (by rw[Zdn];rfl);go_enter Tryz.func167,Tryz.ntmps167;go_wp2;go_ret;exact⟨by rw[hv.out];rfl,U0.out⟩
   ·have hv:Hid (Za7 mask ⟨ef,et,3,ey⟩=(bits .and .i64 (mask/8) 1==0)):=Qh (by rw[Zdn];rfl);go_enter Tryz.func167,Tryz.ntmps167;go_wp2;go_ret;exact⟨by rw[hv.out];rfl,U0.out⟩
/- Closed walks:the edge of an arc. -/
def ZdP(ids keys:Iv)(a:HArc):Edge:=⟨ids.getD a.f.toNat 0,ids.getD a.t.toNat 0,a.kind,keys.getD a.label.toNat 0⟩
theorem Zwz(F1 F2:Iw)(w:I0)(A B:OA)(ca cb:Nat)(ids keys:Iv)(hA:Ints F1 w A ids)(hB:Ints F2 w B keys)(a:HArc)
  (h1:0<=a.f) (h2:a.f<(ids.length:Int)) (h3:0<=a.t) (h4:a.t<(ids.length:Int)) (h5:0<=a.label) (h6:a.label<(keys.length:Int)):
  CN 173 #[.agg #[.slice A ids.length ca,.slice B keys.length cb],.agg a.cells.toArray] w (.agg (ZdP ids keys a).cells.toArray):=by
 obtain⟨af,at',ak,al⟩:=a;simp only at h1 h2 h3 h4 h5 h6;obtain⟨f,rfl⟩:∃f:Nat,af=(f:Int):=⟨af.toNat,by omega⟩;obtain⟨t,rfl⟩:∃t:Nat,at'=(t:Int):=⟨at'.toNat,by omega⟩;obtain⟨lb,rfl⟩:∃t:Nat,al=(t:Int):=⟨al.toNat,by omega⟩;have hf:f<ids.length:=by omega
 have ht:t<ids.length:=by omega
 have oD:lb<keys.length:=by omega
 obtain⟨wb,ag⟩:=Qe (((w.alloc (.cells #[.slice A ids.length ca,.slice B keys.length cb] 208)).alloc (.cells #[Qi (f:Int),Qi (t:Int),Qi ak,Qi (lb:Int)] 119)).alloc (.cells #[Qi 0,Qi 0,Qi 0,Qi 0] 58));have u0:Upd No w wb:=by rw[<-ag];exact(((Il No w).alloc _).alloc _).alloc _
 have bN:Blk wb w.heap.size 208 [.slice A ids.length ca,.slice B keys.length cb]:=by rw[<-ag];exact((Im w _ _).alloc _).alloc _
 have bA:Blk wb (w.heap.size+1) 119 [Qi (f:Int),Qi (t:Int),Qi ak,Qi (lb:Int)]:=by
  rw[<-ag];have:=(Im (w.alloc (.cells #[.slice A ids.length ca,.slice B keys.length cb] 208)) 119 [Qi (f:Int),Qi (t:Int),Qi ak,Qi (lb:Int)]).alloc (.cells #[Qi 0,Qi 0,Qi 0,Qi 0] 58);simpa only[Ij]using this
 have bE:Blk wb (w.heap.size+2) 58 [Qi 0,Qi 0,Qi 0,Qi 0]:=by
  rw[<-ag];have:=Im ((w.alloc (.cells #[.slice A ids.length ca,.slice B keys.length cb] 208)).alloc (.cells #[Qi (f:Int),Qi (t:Int),Qi ak,Qi (lb:Int)] 119)) 58 [Qi 0,Qi 0,Qi 0,Qi 0];simpa only[Ij]using this
 obtain⟨aa,rfl,_,la,y1⟩:=hA.at_ hf;obtain⟨aa',e',_,_,y2⟩:=hA.at_ ht
 cases e'
 obtain⟨ab,rfl,_,lb2,y3⟩:=hB.at_ oD;have e1:ids[f]=ids.getD f 0:=by simp[List.getD,hf]
 have e2:ids[t]=ids.getD t 0:=by simp[List.getD,ht]
 have e3:keys[lb]=keys.getD lb 0:=by simp[List.getD,oD]
 rw[e1]at y1;rw[e2]at y2;rw[e3]at y3;obtain⟨r0,r1,r2,r3⟩:=bE.c4;obtain⟨f0,f1,f2,f3⟩:=bE.f4;have nN:¬One (w.heap.size+2) w.heap.size:=by unfold One;omega
 have nA:¬One (w.heap.size+2) (w.heap.size+1):=by unfold One;omega
 have z1:∀W,Upd (One (w.heap.size+2)) wb W->W.cell? (aa.add f)=some (Qi (ids.getD f 0)):=fun W u=>u.keep (u0.keepNo y1) (by rw[Ints.block_add];unfold One;omega)
 have z2:∀W,Upd (One (w.heap.size+2)) wb W->W.cell? (aa.add t)=some (Qi (ids.getD t 0)):=fun W u=>u.keep (u0.keepNo y2) (by rw[Ints.block_add];unfold One;omega)
 have z3:∀W,Upd (One (w.heap.size+2)) wb W->W.cell? (ab.add lb)=some (Qi (keys.getD lb 0)):=fun W u=>u.keep (u0.keepNo y3) (by rw[Ints.block_add];unfold One;omega)
 clear y1 y2 y3;have c0:∀W,Upd (One (w.heap.size+2)) wb W->W.cell? ⟨w.heap.size,0,none⟩=some (.slice (some aa) ids.length ca):=fun W u=>by have:=(bN.upd u nN).cell 0;simpa using this
 have c1:∀W,Upd (One (w.heap.size+2)) wb W->W.cell? ⟨w.heap.size,1,none⟩=some (.slice (some ab) keys.length cb):=fun W u=>by have:=(bN.upd u nN).cell 1;simpa using this
 have g0:∀W,Upd (One (w.heap.size+2)) wb W->W.cell? ⟨w.heap.size+1,0,none⟩=some (Qi (f:Int)):=fun W u=>by have:=(bA.upd u nA).cell 0;simpa using this
 have g1:∀W,Upd (One (w.heap.size+2)) wb W->W.cell? ⟨w.heap.size+1,1,none⟩=some (Qi (t:Int)):=fun W u=>by have:=(bA.upd u nA).cell 1;simpa using this
 have g2:∀W,Upd (One (w.heap.size+2)) wb W->W.cell? ⟨w.heap.size+1,2,none⟩=some (Qi ak):=fun W u=>by have:=(bA.upd u nA).cell 2;simpa using this
 have g3:∀W,Upd (One (w.heap.size+2)) wb W->W.cell? ⟨w.heap.size+1,3,none⟩=some (Qi (lb:Int)):=fun W u=>by have:=(bA.upd u nA).cell 3;simpa using this
 have i1:(0:Int)<=(f:Int):=Qn _;have i2:(0:Int)<=(t:Int):=Qn _;have i3:(0:Int)<=(lb:Int):=Qn _;have HV:ZdP ids keys ⟨f,t,ak,lb⟩=⟨ids.getD f 0,ids.getD t 0,ak,keys.getD lb 0⟩:=rfl;rw[HV];generalize ids.getD f 0=vf at*;generalize ids.getD t 0=vt at*;generalize keys.getD lb 0=vl at*;have U0:=Qh u0;have BE:=Qh bE;unfold HArc.cells Edge.cells;simp only;clear hA hB u0 bN bA bE e1 e2 e3 h1 h3 h5 HV hf ht oD;go_enter Tryz.func173,Tryz.ntmps173;go_wp2_with fail;clear ag;have HE:=Qh BE.out;clear r0 r1 r2 r3 f0 f1 f2 f3;refine wpS (fun w'=>Upd (One (w.heap.size+2)) wb w') ?_ fun jH=>?_
 ·(first|exact(Il _ _).drew|exact jH.trans hq)
 (iterate 21 refine wpF ?_);refine wpZ 21 rfl fun K hK=>?_
 (first
  |(refine Zc3 rfl rfl (g:=w.heap.size+2) (cells:=[Qi vf,Qi vt,Qi ak,Qi vl]) rfl rfl (show Blk _ _ 58 [Qi 0,Qi 0,Qi 0,Qi 0] from HE.out) (by kernel_rfl) rfl rfl ?_;intro w5 cw hu5;have HE:=Qh cw;have hq:Upd (One (w.heap.size+2)) _ _:=hu5;clear cw hu5))
 refine hK.out _ _ ?_ fun jH=>?_
 ·(first|exact(Il _ _).drew|exact jH.trans hq)
 try simp only[Qa]
 refine wpD (Ii ?_);go_wp2;refine bodyPost_ret (results_cell_row (p:=4) rfl _ _ _ _ _ _ _ rfl HE.out Tryz.underlying58 rfl (by kernel_rfl)) rfl ⟨rfl,?_⟩;exact U0.out.then_ jH fun k e=> .inr (by unfold One at e;omega)
/- Closed walks,plain:the document's answer,and that the search by ranks tells the same. -/
def Zhs:List Edge->List Edge->List Edge
 |acc,[]=>acc
 |acc,e::l=>Zhs (Zf1 e acc) l
def Zge:Iv->List Edge->List Int
 |acc,[]=>acc
 |acc,e::l=>Zge (Z3 e.t (Z3 e.f acc)) l
def Zak(must:Int):Bool:=Zy must 1||(Zy must 2||Zy must 3)
def Zco(l:List Edge)(mask:Int):List Edge:=Zhs [] (l.filter fun e=>Zy mask e.k)
def ZjY(q:List Edge)(must:Int):Nat×Int:=Zeq (ZeQ must (Zak must) q) (2*(Zge [] q).length) (Zge [] q) (0,0)
def ZaQ(l:List Edge)(mask must:Int):List Edge:=
 if (ZjY (Zco l mask) must).1=0 then [] else ZbE must (Zco l mask) (Zae must (Zco l mask) (ZjY (Zco l mask) must).2) (ZjY (Zco l mask) must).1 (ZjY (Zco l mask) must).2 (Zak must)
theorem Zj9{a b:Edge}(h:a.arc=b.arc):a=b:=by rw[<-Zgq a,<-Zgq b,h]
theorem ZhD{l m:List Edge}(h:l.map Edge.arc=m.map Edge.arc):l=m:=by
 have:=congrArg (List.map HArc.edge) h;rw[List.map_map,List.map_map]at this
 have e:∀x:List Edge,x.map (HArc.edge ∘ Edge.arc)=x:=fun x=>by
  conv=>rhs;rw[<-List.map_id x]
  exact List.map_congr_left fun _ _=>rfl
 rwa [e,e]at this
theorem mem_arcs{l:List Edge}{e:Edge}:e.arc∈l.map Edge.arc↔e∈l:=by
 rw[Ih];exact⟨fun⟨x,hx,h⟩=>Zj9 h▸hx,fun h=>⟨e,h,rfl⟩⟩
theorem ZqP(a b:Edge)(l:List Edge):b∈Zf1 a l↔b=a∨b∈l:=by
 rw[<-mem_arcs,ZgZ,ZbI,mem_arcs];exact⟨fun h=>h.imp Zj9 id,fun h=>h.imp (fun e=>by rw[e]) id⟩
theorem ZmL(a:Edge)(l:List Edge)(h:l.Pairwise fun a b=>ltE a b=true):(Zf1 a l).Pairwise fun a b=>ltE a b=true:=by
 have h1:Zad (l.map Edge.arc):=List.pairwise_map.2 (h.imp fun {x y} e=>by rw[<-ZeN];exact e);have h2:=Zd7 a.arc _ h1;rw[<-ZgZ]at h2;exact(List.pairwise_map.1 h2).imp fun {x y} e=>by rw[ZeN];exact e
theorem ZkB(b:Edge):∀(l acc:List Edge),b∈Zhs acc l↔b∈acc∨b∈l
 |[],acc=>by simp[Zhs]
 |e::l,acc=>by
  show b∈Zhs (Zf1 e acc) l↔_
  rw[ZkB b l,ZqP,Ie]
  constructor
  ·rintro((h|h)|h)
   ·exact .inr (.inl h)
   ·exact .inl h
   ·exact .inr (.inr h)
  ·rintro(h|h|h)
   ·exact .inl (.inr h)
   ·exact .inl (.inl h)
   ·exact .inr h
theorem Zg0:∀(l acc:List Edge),(acc.Pairwise fun a b=>ltE a b=true)->(Zhs acc l).Pairwise fun a b=>ltE a b=true
 |[],_,h=>h
 |e::l,acc,h=>Zg0 l _ (ZmL e acc h)
theorem Zmf(x:Int):∀(l:List Edge) (acc:Iv),x∈Zge acc l↔x∈acc∨∃e∈l,x=e.f∨x=e.t
 |[],acc=>by simp[Zge]
 |e::l,acc=>by
  show x∈Zge (Z3 e.t (Z3 e.f acc)) l↔_
  rw[Zmf x l,Za1,Za1]
  constructor
  ·rintro((h|h|h)|⟨y,hy,h⟩)
   ·exact .inr ⟨e,Gv,.inr h⟩
   ·exact .inr ⟨e,Gv,.inl h⟩
   ·exact .inl h
   ·exact .inr ⟨y,Gk _ hy,h⟩
  ·rintro(h|⟨y,hy,h⟩)
   ·exact .inl (.inr (.inr h))
   ·rcases Ie.1 hy with rfl|hy
    ·rcases h with h|h
     ·exact .inl (.inr (.inl h))
     ·exact .inl (.inl h)
    ·exact .inr ⟨y,hy,h⟩
theorem ZjV:∀(l:List Edge) (acc:Iv),acc.Pairwise (·<·)->(Zge acc l).Pairwise (·<·)
 |[],_,h=>h
 |e::l,acc,h=>ZjV l _ (ZdS _ _ (ZdS _ _ h))
theorem mem_docQ{l:List Edge}{mask:Int}{e:Edge}:e∈Zco l mask↔e∈l∧Zy mask e.k=true:=by
 unfold Zco;rw[ZkB,Hy];simp
theorem Zbp{mask k:Int}(h:Zy mask k=true):1<=k∧k<=3∧Zf mask k=true:=by
 unfold Zy at h;rw[Hj,Hj,Gw,Gw]at h;exact⟨h.1,h.2.1,h.2.2⟩
theorem Zi5(l:List Edge):∃lo:Int,∀e∈l,lo<=e.f:=by
 induction l with
 |nil=>exact⟨0,fun e he=>by cases he⟩
 |cons a l ih=>
  obtain⟨lo,h⟩:=ih;refine⟨min lo a.f,fun e he=>?_⟩;rcases Ie.1 he with rfl|he
  ·omega
  ·have:=h e he;omega
theorem Short.mem{D D':List HArc}{must:Int}{need:Bool}{v:Int}{c:List HArc}(h:Short D must need v c)(hD:∀a,a∈D↔a∈D'):Short D' must need v c:=
 h.less (fun a ha=>(hD a).2 ha) (fun a ha=>(hD a).1 (ZaZ h.w a ha))
theorem NoWay.mem{D D':List HArc}{must:Int}{need:Bool}(h:NoWay D must need)(hD:∀a,a∈D'->a∈D):NoWay D' must need:=
 fun u c' n1 n2 n3=>h u c' n1 (Zf5 hD (Int.le_refl _) n2) n3
section
variable {l:List Edge} {mask must:Int}
theorem Zk1(a:HArc):a∈(Zco l mask).map Edge.arc↔a∈(l.filter fun e=>Zy mask e.k).map Edge.arc:=by
 rw[<-Ztq a,mem_arcs,mem_arcs,mem_docQ,Hy]
theorem Zjn{v:Int}{c:List HArc}(h:Short ((l.filter fun e=>Zy mask e.k).map Edge.arc) must (Zak must) v c):(ZaQ l mask must).map Edge.arc=c:=by
 have h2:=h.mem (fun a=>(Zk1 (l:=l) (mask:=mask) a).symm);obtain⟨lo,aY⟩:=Zi5 (Zco l mask);have hk:∀e∈Zco l mask,1<=e.k∧e.k<=3:=fun e he=>⟨(Zbp (mem_docQ.1 he).2).1,(Zbp (mem_docQ.1 he).2).2.1⟩
 have hF:=Zni (ids:=Zge [] (Zco l mask)) (l:=Zco l mask) (most:=2*(Zge [] (Zco l mask)).length) (Zg0 _ _ List.Pairwise.nil) aY hk (ZjV _ _ List.Pairwise.nil) (fun e he=>(Zmf _ _ _).2 (.inr ⟨e,he,.inl rfl⟩)) (by omega) h2;have hb:ZjY (Zco l mask) must=(c.length,v):=hF.1;have hc:¬c.length=0:=fun e=>h.ne (Gd e)
 unfold ZaQ;rw[hb,if_neg hc];exact hF.2
theorem Zk0(h:NoWay ((l.filter fun e=>Zy mask e.k).map Edge.arc) must (Zak must)):ZaQ l mask must=[]:=by
 have h2:=h.mem (fun a ha=>(Zk1 (l:=l) (mask:=mask) a).1 ha);obtain⟨lo,aY⟩:=Zi5 (Zco l mask);have hk:∀e∈Zco l mask,1<=e.k∧e.k<=3:=fun e he=>⟨(Zbp (mem_docQ.1 he).2).1,(Zbp (mem_docQ.1 he).2).2.1⟩
 have hb:(ZjY (Zco l mask) must).1=0:=ZoR aY hk (ZjV _ _ List.Pairwise.nil) _ h2;unfold ZaQ;rw[if_pos hb]
end
def Zi(l:List Edge)(mask:Int):List Edge:=l.filter fun e=>Zy mask e.k
def Zcn:List Edge->List Int
 |[]=>[]
 |e::l=>e.f::e.t::Zcn l
theorem Zh2(x:Int):∀l:List Edge,x∈Zcn l↔∃e∈l,x=e.f∨x=e.t
 |[]=>by simp[Zcn]
 |e::l=>by
  show x∈e.f::e.t::Zcn l↔_
  rw[Ie,Ie,Zh2 x l]
  constructor
  ·rintro(h|h|⟨y,hy,h⟩)
   ·exact⟨e,Gv,.inl h⟩
   ·exact⟨e,Gv,.inr h⟩
   ·exact⟨y,Gk _ hy,h⟩
  ·rintro⟨y,hy,h⟩;rcases Ie.1 hy with rfl|hy
   ·rcases h with h|h
    ·exact .inl h
    ·exact .inr (.inl h)
   ·exact .inr (.inr ⟨y,hy,h⟩)
theorem Zh9:∀l:List Edge,(Zcn l).length=2*l.length
 |[]=>rfl
 |e::l=>by
  show(Zcn l).length+1+1=_
  rw[Zh9 l];simp only[G1];omega
def ZaP(D:List Edge):Iv:=ZJ (Zcn D)
def ZbC(D:List Edge):Iv:=ZJ (D.map Edge.key)
def ZcZ(ids keys:Iv)(N:Nat):List HArc->List Edge->List HArc
 |q,[]=>q
 |q,e::l=>ZcZ ids keys N (Zcq N q (toR ids keys e.arc)) l
theorem ZkE{ids keys:Iv}{N:Nat}(b:HArc):∀(l:List Edge) (q:List HArc),(∀e∈l,Zo N (toR ids keys e.arc)=true)->(b∈ZcZ ids keys N q l↔b∈q∨∃e∈l,b=toR ids keys e.arc)
 |[],q,_=>by simp[ZcZ]
 |e::l,q,hr=>by
  have h1:b∈Zcq N q (toR ids keys e.arc)↔b=toR ids keys e.arc∨b∈q:=by
   unfold Zcq;rw[if_pos (hr e Gv)]
   split
   ·rename_i hm
    exact⟨.inr,fun h=>h.elim (fun e=>by rw[e];exact hm) id⟩
   ·exact ZbI _ _ _
  show b∈ZcZ ids keys N (Zcq N q (toR ids keys e.arc)) l↔_
  rw[ZkE b l _ (fun x hx=>hr x (Gk _ hx)),h1]
  constructor
  ·rintro((h|h)|⟨y,hy,h⟩)
   ·exact .inr ⟨e,Gv,h⟩
   ·exact .inl h
   ·exact .inr ⟨y,Gk _ hy,h⟩
  ·rintro(h|⟨y,hy,h⟩)
   ·exact .inl (.inr h)
   ·rcases Ie.1 hy with rfl|hy
    ·exact .inl (.inl h)
    ·exact .inr ⟨y,hy,h⟩
section
variable {D:List Edge}
theorem Zia{e:Edge}(he:e∈D):e.f∈ZaP D∧e.t∈ZaP D:=⟨(ZdX _ _).2 ((Zh2 _ _).2 ⟨e,he,.inl rfl⟩),(ZdX _ _).2 ((Zh2 _ _).2 ⟨e,he,.inr rfl⟩)⟩
theorem ZgT{e:Edge}(he:e∈D):e.key∈ZbC D:=(ZdX _ _).2 (Ih.2 ⟨e,he,rfl⟩)
theorem ZgC(hk:∀e∈D,1<=e.k∧e.k<=3)(hl:D.length<=100000){e:Edge}(he:e∈D):Zo (ZaP D).length (toR (ZaP D) (ZbC D) e.arc)=true:=by
 rw[ZQ];have h1:=Zia he;have h2:=ZgT he;have f1:=Zeo (ZaP D) e.f;have f2:=Zeo (ZaP D) e.t;have f3:=Zeo (ZbC D) e.key;have g1:=(ZcD (ZcN (Zcn D)) h1.1).1;have g2:=(ZcD (ZcN (Zcn D)) h1.2).1;have g3:=(ZcD (ZcN (D.map Edge.key)) h2).1;have k:=hk e he
 have gC:(ZbC D).length<=D.length:=by
  have:=ZeH (D.map Edge.key)
  rwa [Hw]at this
 exact⟨f1.1,g1,f2.1,g2,k.1,k.2,f3.1,by
  have g3':rk (ZbC D) e.key<((ZbC D).length:Int):=g3
  show rk (ZbC D) e.key<=1048575
  omega⟩
theorem Zt2(hk:∀e∈D,1<=e.k∧e.k<=3)(hl:D.length<=100000):Rk (D.map Edge.arc) (ZaP D) (ZbC D) (ZcZ (ZaP D) (ZbC D) (ZaP D).length [] D):=by
 refine⟨ZcN _,ZcN _,fun a ha=>?_,fun a ha=>?_,fun b=>?_⟩
 ·obtain⟨e,he,rfl⟩:=Ih.1 ha;exact Zia he
 ·obtain⟨e,he,rfl⟩:=Ih.1 ha;exact ZgT he
 ·rw[ZkE b D [] (fun e he=>ZgC hk hl he)]
  constructor
  ·rintro(h|⟨e,he,h⟩)
   ·cases h
   ·exact⟨e.arc,Ih.2 ⟨e,he,rfl⟩,h⟩
  ·rintro⟨a,ha,h⟩;obtain⟨e,he,rfl⟩:=Ih.1 ha;exact .inr ⟨e,he,h⟩
end
theorem Zg9(x:Int)(j:Nat)(hj:j=1∨j=2∨j=3):Zf (bits .and .i64 x 14) (j:Int)=Zf x (j:Int):=by
 rw[Zd2 x 14 j hj];have:Zf 14 (j:Int)=true:=by rcases hj with rfl|rfl|rfl<;>rfl
 rw[this,Bool.and_true]
theorem ZrJ(x k:Int):Zy (bits .and .i64 x 14) k=Zy x k:=by
 unfold Zy
 by_cases h1:1<=k
 ·by_cases h2:k<=3
  ·obtain⟨j,rfl,hj⟩:=Zdk h1 h2;rw[Zg9 x j hj]
  ·rw[Qf h2];simp
 ·rw[Qf h1];simp
theorem ZwG(mask:Int)(e:Edge):Za7 (bits .and .i64 mask 14) e= !Zy mask e.k:=by
 rw[<-ZrJ mask e.k];unfold Za7 Zy
 by_cases h1:e.k<1
 ·rw[Qt h1,Qf (show¬1<=e.k by omega)];rfl
 ·rw[Qf h1,Qt (show 1<=e.k by omega)]
  by_cases h2:3<e.k
  ·rw[Qt h2,Qf (show¬e.k<=3 by omega)];rfl
  ·rw[Qf h2,Qt (show e.k<=3 by omega)];simp
theorem ZtN(x:Int)(y:Nat)(hy:y<=1000):bits .and .i64 x (y:Int)=(((x%18446744073709551616).toNat &&& y:Nat):Int):=by
 change IntKind.i64.wrap (((BitVec.ofInt 64 x &&& BitVec.ofInt 64 (y:Int)).toNat:Nat):Int)=_;have h1:(BitVec.ofInt 64 x).toNat=(x%18446744073709551616).toNat:=by rw[BitVec.toNat_ofInt];rfl
 have h2:(BitVec.ofInt 64 (y:Int)).toNat=y:=by rw[BitVec.toNat_ofInt];omega
 rw[BitVec.toNat_and,h1,h2];have h3:(x%18446744073709551616).toNat &&& y<=y:=Nat.and_le_right;exact IntWalk.i64_in _ (by omega)
theorem ZqH(must:Int):(bits .and .i64 must 14 != 0)=Zak must:=by
 have h1:=Zg9 must 1 (.inl rfl);have h2:=Zg9 must 2 (.inr (.inl rfl));have h3:=Zg9 must 3 (.inr (.inr rfl));have hn:Zak must=(Zf must ((1:Nat):Int)||(Zf must ((2:Nat):Int)||Zf must ((3:Nat):Int))):=rfl;rw[hn,<-h1,<-h2,<-h3];have h:=ZtN must 14 (by decide);have h':bits .and .i64 must 14=((((must%18446744073709551616).toNat &&& 14:Nat)):Int):=h;rw[h'];generalize (must%18446744073709551616).toNat=n
 have e1:∀j:Nat,Zf (((n &&& 14:Nat)):Int) (j:Int)=(n &&& 14).testBit j:=by
  intro j;unfold Zf;rw[Nat.testBit_eq_decide_div_mod_eq,decide_eq_decide];rw[show((j:Int).toNat)=j from Int.toNat_natCast j]
  have:(((n &&& 14:Nat):Int)/2 ^ j)%2=(((n &&& 14)/2 ^ j%2:Nat):Int):=by
   norm_cast
  rw[this];omega
 rw[e1,e1,e1]
 by_cases hz:n &&& 14=0
 ·rw[hz];rfl
 ·have hb:((((n &&& 14:Nat)):Int) != 0)=true:=by rw[bne_iff_ne];omega
  rw[hb];refine Eq.symm ?_;refine Classical.byContradiction fun hc=>hz ?_
  have hc:((n &&& 14).testBit 1||((n &&& 14).testBit 2||(n &&& 14).testBit 3))=false:=by simpa using hc
  rw[Bool.or_eq_false_iff,Bool.or_eq_false_iff]at hc;refine Nat.eq_of_testBit_eq fun i=>?_
  rw[Nat.zero_testBit,Nat.testBit_and]
  by_cases hi:i=1∨i=2∨i=3
  ·rw[<-Nat.testBit_and];rcases hi with rfl|rfl|rfl
   ·exact hc.1
   ·exact hc.2.1
   ·exact hc.2.2
  ·have:Nat.testBit 14 i=false:=by
    match i,hi with
    |0,_=>rfl
    |1,h=>exact absurd (.inl rfl) h
    |2,h=>exact absurd (.inr (.inl rfl)) h
    |3,h=>exact absurd (.inr (.inr rfl)) h
    |i+4,_=>
     refine Nat.testBit_lt_two_pow ?_;have:2 ^ (i+4)=2 ^ i*16:=by rw[Nat.pow_add]
     have:=Nat.two_pow_pos i;omega
   rw[this,Bool.and_false]
theorem Zus{l:List Edge}{mask must:Int}(hl:l.length<=100000){q:List HArc}(ids keys:Iv)(cQ:ids=ZaP (Zi l mask))(dr:keys=ZbC (Zi l mask))(hq:q=ZcZ ids keys ids.length [] (Zi l mask))(hs:Zad q)(ks:Int->Int)(ws:Int->List HArc)
  (hk:∀i:Int,0<=i->i<(ids.length:Int)->ks i=Zag (ofA (bits .and .i64 mask 14) q) (bits .and .i64 must 14) i (Zab ids.length q (bits .and .i64 mask 14) i) (ZA ids.length q (bits .and .i64 mask 14) (bits .and .i64 must 14) i) (Zak must))
  (hk2:∀i:Int,0<=i->(ids.length:Int)<=i->ks i=0) (hk3:∀i:Int,i<0->ks i=0)
  (hw:∀i:Int,0<=i->i<(ids.length:Int)->ws i=ZO (ofA (bits .and .i64 mask 14) q) (bits .and .i64 must 14) i (Zab ids.length q (bits .and .i64 mask 14) i) (ZA ids.length q (bits .and .i64 mask 14) (bits .and .i64 must 14) i) (ks i).toNat i (Zak must)):
  ZaQ l mask must=(ZT ks ws ids.length).map (ZdP ids keys)∧∀a∈ZT ks ws ids.length,Zo ids.length a=true∧a.label<(keys.length:Int):=by
 have lN:∀e∈Zi l mask,1<=e.k∧e.k<=3:=fun e he=>by
  have:=Zbp (Hy.1 he).2;exact⟨this.1,this.2.1⟩
 have se:(Zi l mask).length<=100000:=Nat.le_trans (Gj _ _) hl;have hR:=Zt2 lN se;rw[<-cQ,<-dr,<-hq]at hR
 have hr:∀a∈q,Zo ids.length a=true:=fun a ha=>by
  obtain⟨b,hb,rfl⟩:=(hR.mq a).1 ha;obtain⟨e,he,rfl⟩:=Ih.1 hb;rw[cQ,dr];exact ZgC lN se he
 have oK:∀a∈q,a.label<(keys.length:Int):=fun a ha=>by
  obtain⟨b,hb,rfl⟩:=(hR.mq a).1 ha;exact(ZcD hR.sk (hR.ml b hb)).1
 have dv:ofA (bits .and .i64 mask 14) q=q:=by
  unfold ofA;rw[List.filter_eq_self];intro a ha;obtain⟨b,hb,rfl⟩:=(hR.mq a).1 ha;obtain⟨e,he,rfl⟩:=Ih.1 hb;have h1:=(Hy.1 he).2;rw[<-ZrJ]at h1;exact(Zbp h1).2.2
 have mT:∀a∈(Zi l mask).map Edge.arc,isM (bits .and .i64 must 14) a=isM must a:=fun a ha=>by
  obtain⟨e,he,rfl⟩:=Ih.1 ha;obtain⟨j,hj,jd⟩:=Zdk (lN e he).1 (lN e he).2
  show Zf _ e.k=Zf _ e.k
  rw[hj,Zg9 must j jd]
 have iV:∀c:List HArc,(c.map (unR ids keys))=(c.map (ZdP ids keys)).map Edge.arc:=fun c=>by
  rw[List.map_map];exact List.map_congr_left fun _ _=>rfl
 rcases Zjx hr hs (bits .and .i64 mask 14) (bits .and .i64 must 14) (Zak must) ks ws hk hk2 hk3 hw with ⟨e,h⟩|⟨v,h0,h1,h⟩
 ·rw[dv]at h;rw[e];exact⟨Zk0 ((hR.none h).must mT),fun a ha=>by cases ha⟩
 ·rw[dv]at h;refine⟨?_,fun a ha=>⟨hr a (ZaZ h.w a ha),oK a (ZaZ h.w a ha)⟩⟩;have h2:=Zjn ((hR.short h0 h1 h).must mT);rw[iV]at h2;exact ZhD h2
theorem ZeF(l:List Edge)(mask must:Int)(hl:l.length<=100000):(ZaQ l mask must=[]∧NoWay ((Zi l mask).map Edge.arc) must (Zak must))∨∃v,Short ((Zi l mask).map Edge.arc) must (Zak must) v ((ZaQ l mask must).map Edge.arc):=by
 have lN:∀e∈Zi l mask,1<=e.k∧e.k<=3:=fun e he=>by
  have:=Zbp (Hy.1 he).2;exact⟨this.1,this.2.1⟩
 have se:(Zi l mask).length<=100000:=Nat.le_trans (Gj _ _) hl;have hR:=Zt2 lN se;obtain⟨q,hq⟩:=Qe ((ZcZ (ZaP (Zi l mask)) (ZbC (Zi l mask)) (ZaP (Zi l mask)).length [] (Zi l mask)));rw[hq]at hR
 have hs:Zad q:=by
  rw[<-hq]
  have:∀(m:List Edge) (q:List HArc),Zad q->Zad (ZcZ (ZaP (Zi l mask)) (ZbC (Zi l mask)) (ZaP (Zi l mask)).length q m):=by
   intro m
   induction m with
   |nil=>exact fun q h=>h
   |cons e m ih=>
    intro q h;refine ih _ ?_;unfold Zcq
    split
    ·split
     ·exact h
     ·exact Zd7 _ _ h
    ·exact h
  exact this _ _ List.Pairwise.nil
 have hr:∀a∈q,Zo (ZaP (Zi l mask)).length a=true:=fun a ha=>by
  obtain⟨b,hb,rfl⟩:=(hR.mq a).1 ha;obtain⟨e,he,rfl⟩:=Ih.1 hb;exact ZgC lN se he
 have dv:ofA 14 q=q:=by
  unfold ofA;rw[List.filter_eq_self];intro a ha;obtain⟨b,hb,rfl⟩:=(hR.mq a).1 ha;obtain⟨e,he,rfl⟩:=Ih.1 hb;obtain⟨j,hj,jd⟩:=Zdk (lN e he).1 (lN e he).2
  show Zf 14 e.k=true
  rw[hj];rcases jd with rfl|rfl|rfl<;>rfl
 have hb:=Zjx hr hs 14 must (Zak must) (fun i=>if 0<=i∧i<((ZaP (Zi l mask)).length:Int) then Zag (ofA 14 q) must i (Zab (ZaP (Zi l mask)).length q 14 i) (ZA (ZaP (Zi l mask)).length q 14 must i) (Zak must) else 0)
  (fun i=>ZO (ofA 14 q) must i (Zab (ZaP (Zi l mask)).length q 14 i) (ZA (ZaP (Zi l mask)).length q 14 must i) (if 0<=i∧i<((ZaP (Zi l mask)).length:Int) then Zag (ofA 14 q) must i (Zab (ZaP (Zi l mask)).length q 14 i) (ZA (ZaP (Zi l mask)).length q 14 must i) (Zak must) else 0).toNat i (Zak must))
  (fun i h0 h1=>if_pos ⟨h0,h1⟩) (fun i _ h1=>if_neg (fun e=>by omega)) (fun i h1=>if_neg (fun e=>by omega)) (fun i _ _=>rfl)
 rw[dv]at hb;rcases hb with ⟨_,h⟩|⟨v,h0,h1,h⟩
 ·have h3:=hR.none h;exact .inl ⟨Zk0 h3,h3⟩
 ·have h3:=hR.short h0 h1 h;rw[<-Zjn h3]at h3;exact .inr ⟨_,h3⟩
/- Phenomena,plain:what phen.Round computes is what the document says. -/
def ZtL(q:List HArc)(must:Int)(ac:List HArc):Bool:=ac.any fun a=>decide (Zb8 q a.f.toNat=Zb8 q a.t.toNat)&&((bits .and .i64 must 14==0)||Zy must a.kind)
def Zca(l:List Edge)(mask:Int):Iv:=(Zeg [] [] (Zi l mask)).1
def Zfg(l:List Edge)(mask:Int):List HArc:=(Zeg [] [] (Zi l mask)).2
def Zdm(l:List Edge)(mask:Int):List HArc:=ofA 14 (Zet (Zca l mask).length [] (Zfg l mask))
def ZlK(l:List Edge)(mask must:Int):Bool:=ZtL (Zdm l mask) must (Zfg l mask)
theorem ZfB(l:List Edge)(mask:Int):NumOk (Zca l mask) (Zfg l mask) (Zi l mask):=by
 have:=ZnP (Zi l mask) [] [] [] ⟨List.nodup_nil,rfl,fun e h=>absurd h G6,Nat.le_refl _⟩;exact this
theorem ZpC{ids:Iv}{e:Edge}(hf:e.f∈ids)(ht:e.t∈ids)(h1:1<=e.k)(h2:e.k<=3):Zo ids.length (ZbX ids e)=true:=by
 have a1:=ZdT hf;have a2:=ZdT ht;unfold Zo ZY ZbX;simp only[Hj,Gw];refine⟨⟨by omega,by omega⟩,⟨by omega,by omega⟩,h1,h2,by omega,by omega⟩
theorem ZwD{k:Int}(h1:1<=k)(h2:k<=3):Zf 14 k=true:=by
 rcases(show k=1∨k=2∨k=3 by omega)with rfl|rfl|rfl<;>kernel_rfl
theorem Zfa{l:List Edge}{mask:Int}{e:Edge}(h:e∈Zi l mask):1<=e.k∧e.k<=3:=by
 unfold Zi at h;have:=Zbp (Hy.1 h).2;exact⟨this.1,this.2.1⟩
theorem ZmO(l:List Edge)(mask:Int):ZjD (Zca l mask) (Zi l mask) (Zdm l mask):=by
 intro a;have hn:=ZfB l mask;unfold Zdm;rw[mem_ofA,ZkA,hn.arcs]
 constructor
 ·rintro⟨h|⟨h,_⟩,_⟩
  ·cases h
  ·obtain⟨e,he,h2⟩:=Ih.1 h;exact⟨e,he,h2⟩
 ·rintro⟨e,he,rfl⟩;have hk:=Zfa he;have hh:=hn.has e he;exact⟨Or.inr ⟨Ih.2 ⟨e,he,rfl⟩,ZpC hh.1 hh.2 hk.1 hk.2⟩,ZwD hk.1 hk.2⟩
theorem Ztu(l:List Edge)(mask:Int):Zcw (Zca l mask).length (Zdm l mask):=by
 intro a ha;obtain⟨e,he,rfl⟩:=(ZmO l mask a).1 ha;have hh:=(ZfB l mask).has e he;have a1:=ZdT hh.1;have a2:=ZdT hh.2;unfold ZbX;refine⟨?_,?_,?_,?_⟩<;>simp only<;>omega
theorem Zu5(l:List Edge)(mask:Int):(Zca l mask).length<=2*l.length:=by
 have:=(ZfB l mask).len;have h2:(Zi l mask).length<=l.length:=by unfold Zi;exact Gj _ _
 omega
theorem ZtK(l:List Edge)(mask:Int):(Zfg l mask).length<=l.length:=by
 rw[(ZfB l mask).arcs,Hw];unfold Zi;exact Gj _ _
theorem Zqg(l:List Edge)(mask must:Int):ZlK l mask must=Zcg l mask must:=by
 have hn:=ZfB l mask
 have key:∀e∈Zi l mask,decide (Zb8 (Zdm l mask) (ZbX (Zca l mask) e).f.toNat=Zb8 (Zdm l mask) (ZbX (Zca l mask) e).t.toNat)=decide (e.f∈ZeK (Zi l mask) e.t):=by
  intro e he;have h1:=ZsY hn (Ztu l mask) (ZmO l mask) he;rw[<-mem_reachE]at h1;have e1:(ZbX (Zca l mask) e).f.toNat=Zr (Zca l mask) e.f:=by unfold ZbX;simp
  have e2:(ZbX (Zca l mask) e).t.toNat=Zr (Zca l mask) e.t:=by unfold ZbX;simp
  rw[e1,e2];exact decide_eq_decide.2 h1
 unfold ZlK ZtL Zcg;rw[hn.arcs,List.any_map]
 show(Zi l mask).any _=_
 rw[Bool.eq_iff_iff,Ha]
 show _↔(if (bits .and .i64 must 14==0)=true then Zi l mask else (Zi l mask).filter fun e=>Zy must e.k).any (fun e=>decide (e.f∈ZeK (Zi l mask) e.t))=true
 by_cases hm:(bits .and .i64 must 14==0)=true
 ·rw[if_pos hm,Ha]
  constructor
  ·rintro⟨e,he,h⟩;refine⟨e,he,?_⟩;rw[<-key e he];exact(Hj _ _▸h).1
  ·rintro⟨e,he,h⟩;refine⟨e,he,?_⟩;rw[<-key e he]at h
   show(_&&_)=true
   rw[Hj];exact⟨h,by rw[hm];rfl⟩
 ·rw[if_neg hm,Ha]
  constructor
  ·rintro⟨e,he,h⟩;have h':(decide (Zb8 (Zdm l mask) (ZbX (Zca l mask) e).f.toNat=Zb8 (Zdm l mask) (ZbX (Zca l mask) e).t.toNat)&&((bits .and .i64 must 14==0)||Zy must e.k))=true:=h;rw[Hj,Ia]at h';refine⟨e,Hy.2 ⟨he,h'.2.resolve_left hm⟩,?_⟩;rw[<-key e he];exact h'.1
  ·rintro⟨e,he,h⟩;obtain⟨sg,uX⟩:=Hy.1 he;refine⟨e,sg,?_⟩;rw[<-key e sg]at h
   show(decide (Zb8 (Zdm l mask) (ZbX (Zca l mask) e).f.toNat=Zb8 (Zdm l mask) (ZbX (Zca l mask) e).t.toNat)&&((bits .and .i64 must 14==0)||Zy must e.k))=true
   rw[Hj,Ia];exact⟨h,Or.inr uX⟩
/- Phenomena,plain:there is a closed walk just if the first of the shortest is one. -/
theorem ZjJ{D:List Edge}{lo:Int}:∀{c:List HArc} {x y:Int},okW (D.map Edge.arc) lo x c y->RchE D x y
 |[],x,y,h=>by
  have:x=y:=h;subst this;exact RchE.refl x
 |a::c,x,y,h=>by
  obtain⟨h1,h2,_,h4⟩:=h;obtain⟨e,he,rfl⟩:=Ih.1 h1;exact RchE.trans ((RchE.refl x).step he h2) (ZjJ h4)
theorem ZjK{p:List HArc}{lo:Int}{a:HArc}:∀{c1 c2:List HArc} {x y:Int},okW p lo x (c1++a::c2) y->okW p lo x c1 a.f∧okW p lo a.t c2 y
 |[],c2,x,y,h=>by
  obtain⟨h1,h2,h3,h4⟩:=h;exact⟨h2.symm,h4⟩
 |b::c1,c2,x,y,h=>by
  obtain⟨h1,h2,h3,h4⟩:=h;obtain⟨h5,h6⟩:=ZjK h4;exact⟨⟨h1,h2,h3,h5⟩,h6⟩
theorem ZuP{D:List Edge}{lo:Int}(aY:∀e∈D,lo<=e.f){x y:Int}(h:RchE D x y):∃c,okW (D.map Edge.arc) lo x c y:=by
 induction h with
 |refl=>exact⟨[],rfl⟩
 |step h1 h2 h3 ih=>
  rename_i b e
  obtain⟨c,hc⟩:=ih;exact⟨c++[e.arc],ZcV hc ⟨Ih.2 ⟨e,h2,rfl⟩,h3,by rw[<-h3];exact aY e h2,rfl⟩⟩
theorem ZnL{p:List HArc}{lo u:Int}:∀{c:List HArc} {x y:Int},okW p lo x c y->(∀a∈c,u<=a.f)->okW p u x c y
 |[],_,_,h,_=>h
 |a::c,x,y,h,hu=>by
  obtain⟨h1,h2,_,h4⟩:=h;exact⟨h1,h2,by rw[<-h2];exact hu a (Gv ..),ZnL h4 fun b hb=>hu b (Gk _ hb)⟩
theorem Zpx{p:List HArc}{lo v:Int}{c:List HArc}(hne:c≠[])(h:okW p lo v c v):∃u c',c'≠[]∧okW p u u c' u∧∀a,a∈c'↔a∈c:=by
 obtain⟨a,ha,dB⟩:=Ze8 hne;obtain⟨c1,c2,rfl⟩:=List.append_of_mem ha;obtain⟨h1,h2⟩:=ZjK h;have pL:a∈p:=ZaZ h a (by simp);have h3:okW p lo a.t (c2++c1) a.f:=ZcV h2 h1
 have h4:=ZnL (u:=a.f) h3 fun b hb=>dB b (by
  rcases Ib.1 hb with hb|hb
  ·exact Gh _ (Gk _ hb)
  ·exact Gp _ hb)
 refine⟨a.f,a::(c2++c1),by simp,⟨pL,rfl,Int.le_refl _,h4⟩,fun b=>?_⟩;simp only[Ie,Ib]
 constructor
 ·rintro(h|h|h)
  ·exact Or.inr (Or.inl h)
  ·exact Or.inr (Or.inr h)
  ·exact Or.inl h
 ·rintro(h|h|h)
  ·exact Or.inr (Or.inr h)
  ·exact Or.inl h
  ·exact Or.inr (Or.inl h)
theorem Zmt{l:List Edge}{mask must:Int}{e:Edge}(h:e∈Zi l mask):Zy must e.k=isM must e.arc:=ZeY (Zfa h).1 (Zfa h).2
theorem Zqf(l:List Edge)(mask must:Int)(hl:l.length<=100000):Zcg l mask must=true↔ZaQ l mask must≠[]:=by
 have iU:=ZqH must
 have CQ:Zcg l mask must=true↔∃e∈Zi l mask,(Zak must=true->isM must e.arc=true)∧RchE (Zi l mask) e.t e.f:=by
  show(if (bits .and .i64 must 14==0)=true then Zi l mask else (Zi l mask).filter fun e=>Zy must e.k).any (fun e=>decide (e.f∈ZeK (Zi l mask) e.t))=true↔_
  by_cases hm:(bits .and .i64 must 14==0)=true
  ·have hn:Zak must=false:=by rw[<-iU,bne,hm];rfl
   rw[if_pos hm,Ha]
   constructor
   ·rintro⟨e,he,h⟩;exact⟨e,he,fun h2=>absurd (hn.symm.trans h2) (by decide),mem_reachE.1 (of_decide_eq_true h)⟩
   ·rintro⟨e,he,_,h⟩;exact⟨e,he,Qt (mem_reachE.2 h)⟩
  ·have hn:Zak must=true:=by rw[<-iU,bne];simpa using hm
   rw[if_neg hm,Ha]
   constructor
   ·rintro⟨e,he,h⟩;obtain⟨sg,uX⟩:=Hy.1 he;exact⟨e,sg,fun _=>by rw[<-Zmt sg];exact uX,mem_reachE.1 (of_decide_eq_true h)⟩
   ·rintro⟨e,he,h1,h2⟩;exact⟨e,Hy.2 ⟨he,by rw[Zmt he];exact h1 hn⟩,Qt (mem_reachE.2 h2)⟩
 rw[CQ]
 constructor
 ·rintro⟨e,he,hm,hr⟩ hd;rcases ZeF l mask must hl with ⟨_,hno⟩|⟨v,hs⟩
  ·obtain⟨lo,aY⟩:=Zi5 (Zi l mask);obtain⟨c,hc⟩:=ZuP aY hr;have h2:okW ((Zi l mask).map Edge.arc) lo e.f (e.arc::c) e.f:=⟨Ih.2 ⟨e,he,rfl⟩,rfl,aY e he,hc⟩;obtain⟨u,c',h3,h4,h5⟩:=Zpx (by simp) h2;refine hno u c' h3 h4 fun hn=>?_
   unfold Zq;exact Ha.2 ⟨e.arc,(h5 _).2 (Gv ..),hm hn⟩
  ·exact hs.ne (by rw[hd];rfl)
 ·intro hd;rcases ZeF l mask must hl with ⟨h,_⟩|⟨v,hs⟩
  ·exact absurd h hd
  ·obtain⟨a,ha,hm⟩:∃a∈(ZaQ l mask must).map Edge.arc,(Zak must=true->isM must a=true):=by
    by_cases hn:Zak must=true
    ·have:=hs.m hn;unfold Zq at this;obtain⟨a,ha,h⟩:=Ha.1 this;exact⟨a,ha,fun _=>h⟩
    ·obtain⟨a,t,e⟩:=List.exists_cons_of_ne_nil hs.ne;exact⟨a,by rw[e];exact Gv ..,fun h=>absurd h hn⟩
   obtain⟨c1,c2,e⟩:=List.append_of_mem ha;have hw:=hs.w;rw[e]at hw;have pL:=ZaZ hw a (by simp);obtain⟨b,hb,rfl⟩:=Ih.1 pL;obtain⟨h1,h2⟩:=ZjK hw;exact⟨b,hb,hm,RchE.trans (ZjJ h2) (ZjJ h1)⟩
