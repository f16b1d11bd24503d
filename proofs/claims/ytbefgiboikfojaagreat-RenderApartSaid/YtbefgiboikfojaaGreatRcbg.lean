/- Closed walks, plain: ids and their ranks; what the first of the shortest is. -/
import Derived.Test.YtbefgiboikfojaaGreatRcbf
namespace Go.Proofs.YtbefgiboikfojaaGreat
open Go.RowKit
set_option linter.unusedVariables false
set_option linter.unusedSimpArgs false
set_option maxRecDepth 100000
set_option maxHeartbeats 4000000
def rk:Gv->Int->Int
 |[],_=>0
 |a::s,x=>if a<x then rk s x+1 else 0
theorem Zeo:∀(s:Gv) (x:Int),0<=rk s x∧rk s x<=(s.length:Int)
 |[],x=>by simp[rk]
 |a::s,x=>by
  have:=Zeo s x;unfold rk;simp only[Fs]
  split<;>omega
theorem Znf:∀{s:Gv} {x:Int},(∀y∈s,x<=y)->rk s x=0
 |[],_,_=>rfl
 |a::s,x,h=>by
  unfold rk;rw[if_neg (by have:=h a Fc;omega)]
theorem Zhh:∀{s:Gv} {x y:Int},s.Pairwise (·<·)->x∈s->x<y->rk s x<rk s y
 |[],x,y,_,h,_=>by cases h
 |a::s,x,y,hs,h,hxy=>by
  rw[Fd]at hs;rcases F9.1 h with rfl|h
  ·have e1:rk (x::s) x=0:=Znf fun z hz=>by
    rcases F9.1 hz with rfl|hz
    ·exact Int.le_refl _
    ·exact Int.le_of_lt (hs.1 z hz)
   rw[e1];unfold rk;rw[if_pos hxy];have:=Zeo s y;omega
  ·have h1:=hs.1 x h;have h2:=Zhh hs.2 h hxy;unfold rk;rw[if_pos h1,if_pos (by omega)];omega
theorem Zva{s:Gv}{x y:Int}(hs:s.Pairwise (·<·))(hx:x∈s)(h:x<=y):rk s x<=rk s y:=by
 rcases Classical.em (x=y)with rfl|e
 ·exact Int.le_refl _
 ·have:=Zhh hs hx (show x<y by omega);omega
theorem Zcz:∀{s:Gv} {x:Int},s.Pairwise (·<·)->x∈s->rk s x<(s.length:Int)∧s.getD (rk s x).toNat 0=x
 |[],x,_,h=>by cases h
 |a::s,x,hs,h=>by
  rw[Fd]at hs;rcases F9.1 h with rfl|h
  ·have e1:rk (x::s) x=0:=Znf fun z hz=>by
    rcases F9.1 hz with rfl|hz
    ·exact Int.le_refl _
    ·exact Int.le_of_lt (hs.1 z hz)
   rw[e1];simp
  ·have h1:=hs.1 x h;have h2:=Zcz hs.2 h;have h3:=Zeo s x;unfold rk;rw[if_pos h1];refine⟨by simp only[Fs];omega,?_⟩;rw[show(rk s x+1).toNat=(rk s x).toNat+1 by omega,List.getD_cons_succ];exact h2.2
theorem Zmf{s:Gv}{i:Int}(h0:0<=i)(h1:i<(s.length:Int)):s.getD i.toNat 0∈s:=by
 rw[List.getD_eq_getElem?_getD,Qg (show i.toNat<s.length by omega)];exact Fr _
theorem ZjC{s:Gv}{i:Int}(hs:s.Pairwise (·<·))(h0:0<=i)(h1:i<(s.length:Int)):rk s (s.getD i.toNat 0)=i:=by
 have hm:=Zmf h0 h1;have h2:=Zcz hs hm;have h3:=Zeo s (s.getD i.toNat 0);have hp:=List.pairwise_iff_getElem.1 hs;rw[List.getD_eq_getElem?_getD,List.getD_eq_getElem?_getD]at h2;rw[List.getD_eq_getElem?_getD]at h3 ⊢;have hi:i.toNat<s.length:=by omega
 rw[Qg hi]at h2 h3 ⊢;simp only[Option.getD_some]at h2 h3 ⊢;have hj:(rk s s[i.toNat]).toNat<s.length:=by omega
 rw[Qg hj]at h2;simp only[Option.getD_some]at h2;rcases Nat.lt_trichotomy (rk s s[i.toNat]).toNat i.toNat with e|e|e
 ·have:=hp _ _ hj hi e;omega
 ·omega
 ·have:=hp _ _ hi hj e;omega
theorem Znu{s:Gv}{i j:Int}(hs:s.Pairwise (·<·))(h0:0<=i)(h1:j<(s.length:Int))(h:i<=j):s.getD i.toNat 0<=s.getD j.toNat 0:=by
 rcases Classical.em (i=j)with rfl|e
 ·exact Int.le_refl _
 ·refine Classical.byContradiction fun hc=>?_
  have:=Zhh hs (Zmf (s:=s) (i:=j) (by omega) h1) (show s.getD j.toNat 0<s.getD i.toNat 0 by omega);rw[ZjC hs h0 (by omega),ZjC hs (by omega) h1]at this;omega
def toR(ids keys:Gv)(a:HArc):HArc:=⟨rk ids a.f,rk ids a.t,a.kind,rk keys a.label⟩
def unR(ids keys:Gv)(a:HArc):HArc:=⟨ids.getD a.f.toNat 0,ids.getD a.t.toNat 0,a.kind,keys.getD a.label.toNat 0⟩
structure Rk (D:List HArc) (ids keys:List Int) (q:List HArc):Prop where
 si:ids.Pairwise (·<·)
 sk:keys.Pairwise (·<·)
 mi:∀a∈D,a.f∈ids∧a.t∈ids
 ml:∀a∈D,a.label∈keys
 mq:∀b,b∈q↔∃a∈D,b=toR ids keys a
section
variable {D:List HArc} {ids keys:Gv} {q:List HArc}
theorem Rk.un(h:Rk D ids keys q){a:HArc}(ha:a∈D):unR ids keys (toR ids keys a)=a:=by
 obtain⟨h1,h2⟩:=h.mi a ha;have h3:=h.ml a ha;obtain⟨af,at',ak,al⟩:=a;simp only at h1 h2 h3;unfold unR toR;simp only[(Zcz h.si h1).2,(Zcz h.si h2).2,(Zcz h.sk h3).2]
theorem Rk.to(h:Rk D ids keys q){b:HArc}(hb:b∈q):unR ids keys b∈D∧toR ids keys (unR ids keys b)=b:=by
 obtain⟨a,ha,rfl⟩:=(h.mq b).1 hb;rw[h.un ha];exact⟨ha,rfl⟩
theorem Rk.less(h:Rk D ids keys q){a b:HArc}(ha:a∈D)(hb:b∈D):Zbb a b=true->Zbb (toR ids keys a) (toR ids keys b)=true:=by
 have a1:=h.mi a ha;have b1:=h.mi b hb;have a2:=h.ml a ha;have b2:=h.ml b hb;rw[Zdm,Zdm];unfold toR;simp only;rintro(e|⟨e1,e|⟨e2,e|⟨e3,e⟩⟩⟩)
 ·exact .inl (Zhh h.si a1.1 e)
 ·exact .inr ⟨by rw[e1],.inl e⟩
 ·exact .inr ⟨by rw[e1],.inr ⟨e2,.inl (Zhh h.sk a2 e)⟩⟩
 ·exact .inr ⟨by rw[e1],.inr ⟨e2,.inr ⟨by rw[e3],Zhh h.si a1.2 e⟩⟩⟩
theorem Rk.less_un(h:Rk D ids keys q){a b:HArc}(ha:a∈q)(hb:b∈q)(hl:Zbb a b=true):Zbb (unR ids keys a) (unR ids keys b)=true:=by
 have qD:=h.to ha;have d9:=h.to hb;refine Classical.byContradiction fun hc=>?_
 rcases Classical.em (unR ids keys a=unR ids keys b)with e|e
 ·have:a=b:=by rw[<-qD.2,<-d9.2,e]
  rw[this]at hl;exact ZcC b hl
 ·have:=h.less d9.1 qD.1 (ZkA _ _ hc e);rw[qD.2,d9.2]at this;exact ZcC a (Zd1 a b a hl this)
theorem Rk.lex_un(h:Rk D ids keys q):∀{l m:List HArc},(∀a∈l,a∈q)->(∀a∈m,a∈q)->Zf0 l m->Zf0 (l.map (unR ids keys)) (m.map (unR ids keys))
 |[],m,_,_,hl=>by cases m<;>exact hl.elim
 |a::l,[],_,_,hl=>hl.elim
 |a::l,b::m,ha,hb,hl=>by
  rcases hl with e|⟨e,hl⟩
  ·exact .inl (h.less_un (ha a Fc) (hb b Fc) e)
  ·exact .inr ⟨by rw[e],h.lex_un (fun x hx=>ha x (E7 _ hx)) (fun x hx=>hb x (E7 _ hx)) hl⟩
theorem Rk.up(h:Rk D ids keys q){least v:Int}(hl:least∈ids):∀{l:List HArc} {u:Int},okW D least u l v->u∈ids->okW q (rk ids least) (rk ids u) (l.map (toR ids keys)) (rk ids v)
 |[],u,hw,_=>by
  have hw:u=v:=hw;rw[hw];exact rfl
 |a::l,u,hw,hu=>by
  obtain⟨ha,ez,BU,hw⟩:=hw;exact⟨(h.mq _).2 ⟨a,ha,rfl⟩,by unfold toR;simp only;rw[ez],Zva h.si hl BU,h.up hl hw (h.mi a ha).2⟩
theorem Rk.down(h:Rk D ids keys q){i k:Int}(hi:0<=i):∀{l:List HArc} {j:Int},okW q i j l k->0<=j->j<(ids.length:Int)->okW D (ids.getD i.toNat 0) (ids.getD j.toNat 0) (l.map (unR ids keys)) (ids.getD k.toNat 0)
 |[],j,hw,_,_=>by
  have hw:j=k:=hw;rw[hw];exact rfl
 |a::l,j,hw,h0,h1=>by
  obtain⟨ha,ez,hij,hw⟩:=hw;have qD:=h.to ha;obtain⟨b,hb,e⟩:=(h.mq a).1 ha;have ht:a.t=rk ids b.t:=by rw[e];rfl
  have h2:=Zeo ids b.t;have h3:=Zcz h.si (h.mi b hb).2;refine⟨qD.1,by show ids.getD a.f.toNat 0=_;rw[ez],Znu h.si hi h1 hij,?_⟩;exact h.down hi hw (by omega) (by omega)
end
theorem Zih{f:HArc->HArc}(hf:∀a,(f a).kind=a.kind)(must:Int)(l:List HArc):Zr must (l.map f)=Zr must l:=by
 unfold Zr;rw[List.any_map]
 congr 1
 funext a
 show isM must (f a)=isM must a
 unfold isM;rw[hf]
structure Short (D:List HArc) (must:Int) (need:Bool) (v:Int) (c:List HArc):Prop where
 ne:c≠[]
 w:okW D v v c v
 m:need=true->Zr must c=true
 le:∀u c',c'≠[]->okW D u u c' u->(need=true->Zr must c'=true)->c.length<=c'.length∧(c.length=c'.length->v<=u∧(v=u->c'=c∨Zf0 c c'))
def NoWay(D:List HArc)(must:Int)(need:Bool):Prop:=∀u c',c'≠[]->okW D u u c' u->(need=true->Zr must c'=true)->False
theorem Zh9:∀{l m:List HArc},Zf0 l m->Zf0 m l->False
 |[],m,h,_=>by cases m<;>exact h.elim
 |a::l,[],h,_=>h.elim
 |a::l,b::m,h,k=>by
  rcases h with h|⟨e,h⟩
  ·rcases k with k|⟨e,k⟩
   ·exact ZcC a (Zd1 a b a h k)
   ·rw[e]at h;exact ZcC a h
  ·rcases k with k|⟨e2,k⟩
   ·rw[e]at k;exact ZcC b k
   ·exact Zh9 h k
theorem Short.same{D:List HArc}{must:Int}{need:Bool}{v u:Int}{c d:List HArc}(h:Short D must need v c)(k:Short D must need u d):v=u∧c=d:=by
 have h1:=h.le u d k.ne k.w k.m;have k1:=k.le v c h.ne h.w h.m;have hl:c.length=d.length:=by omega
 have h2:=h1.2 hl;have k2:=k1.2 hl.symm;have hv:v=u:=by omega
 refine⟨hv,?_⟩;rcases h2.2 hv with e|e
 ·exact e.symm
 ·rcases k2.2 hv.symm with e2|e2
  ·exact e2
  ·exact(Zh9 e e2).elim
theorem Short.some{D:List HArc}{must:Int}{need:Bool}{v:Int}{c:List HArc}(h:Short D must need v c)(k:NoWay D must need):False:=k v c h.ne h.w h.m
theorem Short.simple{D:List HArc}{must:Int}{need:Bool}{v:Int}{c:List HArc}(h:Short D must need v c):c.Pairwise fun a b=>a.f≠b.f:=
 ZnI h.w h.m (fun c' h1 h2 h3=>(h.le v c' h1 h2 h3).1) (fun u c' h1 h2 h3=>(h.le u c' h1 h2 h3).1)
theorem Rk.short{D:List HArc}{ids keys:Gv}{q:List HArc}(h:Rk D ids keys q){must:Int}{need:Bool}{i:Int}{c:List HArc}(hi:0<=i)(h1:i<(ids.length:Int))(k:Short q must need i c):
  Short D must need (ids.getD i.toNat 0) (c.map (unR ids keys)):=by
 have hM:=fun l=>Zih (f:=unR ids keys) (fun _=>rfl) must l
 have pC:=fun l=>Zih (f:=toR ids keys) (fun _=>rfl) must l
 refine⟨by have:=k.ne;simpa using this,h.down hi k.w hi h1,fun e=>by rw[hM];exact k.m e,fun u c' n1 n2 n3=>?_⟩
 have hu:u∈ids:=by
  cases c' with
  |nil=>exact absurd rfl n1
  |cons a l=>rw[<-n2.2.1];exact(h.mi a n2.1).1
 have k1:=k.le (rk ids u) (c'.map (toR ids keys)) (by simpa using n1) (h.up hu n2 hu) (fun e=>by rw[pC];exact n3 e);rw[F6]at k1 ⊢;refine⟨k1.1,fun e=>?_⟩;have k2:=k1.2 e;have hr:=Zcz h.si hu;have x8:=Zeo ids u;refine⟨?_,fun e2=>?_⟩
 ·have:=Znu h.si hi hr.1 k2.1;rw[hr.2]at this;exact this
 ·have e3:i=rk ids u:=by rw[<-e2,ZjC h.si hi h1]
  have fG:(c'.map (toR ids keys)).map (unR ids keys)=c':=by
   rw[List.map_map]
   conv=>rhs;rw[<-List.map_id c']
   exact List.map_congr_left fun a ha=>h.un (Zbk n2 a ha)
  rcases k2.2 e3 with e4|e4
  ·left
   rw[<-e4,fG]
  ·right
   have:=h.lex_un (Zbk k.w) (fun a ha=>by
    obtain⟨b,hb,rfl⟩:=Gc.1 ha;exact(h.mq _).2 ⟨b,Zbk n2 b hb,rfl⟩) e4
   rw[fG]at this;exact this
theorem Rk.none{D:List HArc}{ids keys:Gv}{q:List HArc}(h:Rk D ids keys q){must:Int}{need:Bool}(k:NoWay q must need):NoWay D must need:=by
 intro u c' n1 n2 n3
 have hu:u∈ids:=by
  cases c' with
  |nil=>exact absurd rfl n1
  |cons a l=>rw[<-n2.2.1];exact(h.mi a n2.1).1
 exact k (rk ids u) (c'.map (toR ids keys)) (by simpa using n1) (h.up hu n2 hu) (fun e=>by rw[Zih (f:=toR ids keys) (fun _=>rfl)];exact n3 e)
theorem Zjq{N:Nat}{q:List HArc}(hr:∀a∈q,Zs N a=true)(hs:Zai q)(mask must:Int)(need:Bool)(ks:Int->Int)(ws:Int->List HArc)
  (hk:∀i:Int,0<=i->i<(N:Int)->ks i=Zal (ofA mask q) must i (Zag N q mask i) (Zy N q mask must i) need)
  (hk2:∀i:Int,0<=i->(N:Int)<=i->ks i=0) (iR:∀i:Int,i<0->ks i=0)
  (hw:∀i:Int,0<=i->i<(N:Int)->ws i=ZN (ofA mask q) must i (Zag N q mask i) (Zy N q mask must i) (ks i).toNat i need):
  (ZV ks ws N=[]∧NoWay (ofA mask q) must need)∨∃v,0<=v∧v<(N:Int)∧Short (ofA mask q) must need v (ZV ks ws N):=by
 have lr:∀i:Int,0<=i->i<(N:Int)->LoopD (ofA mask q) must i (Zag N q mask i) (Zy N q mask must i):=fun i h0 h1=>ZfZ hr mask must i h0 h1
 have qh:Zai (ofA mask q):=hs.filter _
 have lH:∀i:Int,0<ks i->(0<=i∧i<(N:Int))∧okW (ofA mask q) i i (ws i) i∧((ws i).length:Int)=ks i∧(need=true->Zr must (ws i)=true)∧∀l,okW (ofA mask q) i i l i->(l.length:Int)=ks i->(need=true->Zr must l=true)->l=ws i∨Zf0 (ws i) l:=by
  intro i h0
  have h1:0<=i:=by
   refine Classical.byContradiction fun hc=>?_
   rw[iR i (by omega)]at h0;omega
  have h2:i<(N:Int):=by
   refine Classical.byContradiction fun hc=>?_
   rw[hk2 i h1 (by omega)]at h0;omega
  have hL:=lr i h1 h2;have h3:=hk i h1 h2;obtain⟨c,c1,c2,c3,c4⟩:=Zlt hL need (by rw[<-h3];exact h0)
  have cI:=ZfF qh hL (Zqv hr mask must i h1 h2) (Zm5 hr mask must i h1 h2) (ks i).toNat i need (Int.le_refl _) ⟨c,c2,by omega,c4⟩ (fun l l1 l2 l3=>by
   have:=(ZhW hL need l1 l2 l3).2;omega)
  rw[<-hw i h1 h2]at cI;exact⟨⟨h1,h2⟩,cI.1,by have:=cI.2.1;omega,cI.2.2.1,fun l l1 l2 l3=>cI.2.2.2 l l1 (by omega) l3⟩
 have cO:∀u c',c'≠[]->okW (ofA mask q) u u c' u->(need=true->Zr must c'=true)->0<=u∧u<(N:Int)∧0<ks u∧ks u<=(c'.length:Int):=by
  intro u c' n1 n2 n3
  have hu:0<=u∧u<(N:Int):=by
   cases c' with
   |nil=>exact absurd rfl n1
   |cons a l=>
    have:=(Z0 _ _).1 (hr a (mem_ofA.1 n2.1).1);rw[<-n2.2.1];exact⟨this.1,this.2.1⟩
  have:=ZhW (lr u hu.1 hu.2) need n1 n2 n3;rw[<-hk u hu.1 hu.2]at this;exact⟨hu.1,hu.2,this.1,this.2⟩
 rcases Zjr ks ws (fun i h0=>(lH i h0).2.2.1) N with ⟨e,h⟩|⟨i,hi,h0,e,h1,h2⟩
 ·refine .inl ⟨e,fun u c' n1 n2 n3=>?_⟩;have:=cO u c' n1 n2 n3;obtain⟨n,rfl⟩:∃n:Nat,u=(n:Int):=⟨u.toNat,by omega⟩;exact h n (by omega) this.2.2.1
 ·obtain⟨k1,k2,k3,k4,k5⟩:=lH (i:Int) h0;refine .inr ⟨(i:Int),by omega,by omega,?_⟩;rw[e];refine⟨fun e=>by rw[e]at k3;simp at k3;omega,k2,k4,fun u c' n1 n2 n3=>?_⟩;obtain⟨u1,u2,u3,u4⟩:=cO u c' n1 n2 n3;obtain⟨n,rfl⟩:∃n:Nat,u=(n:Int):=⟨u.toNat,by omega⟩;have h3:=h1 n (by omega) u3;refine⟨by omega,fun hl=>⟨?_,fun hv=>?_⟩⟩
  ·refine Classical.byContradiction fun hc=>?_
   exact h2 n (by omega) ⟨u3,by omega⟩
  ·have hv2:i=n:=by omega
   subst hv2;exact k5 c' n2 (by omega) n3
theorem Short.more{D D':List HArc}{must:Int}{need:Bool}{v u:Int}{c d:List HArc}(h:Short D must need v c)(hD:∀a∈D,a∈D')(k:Short D' must need u d):d.length<=c.length:=
 (k.le v c h.ne (ZeF hD (Int.le_refl _) h.w) h.m).1
theorem ZiT{p p':List HArc}{least:Int}:∀{l:List HArc} {u v:Int},okW p least u l v->(∀a∈l,a∈p')->okW p' least u l v
 |[],u,v,h,_=>h
 |a::l,u,v,h,hp=>⟨hp a Fc,h.2.1,h.2.2.1,ZiT h.2.2.2 (fun x hx=>hp x (E7 _ hx))⟩
theorem Short.less{D D':List HArc}{must:Int}{need:Bool}{v:Int}{c:List HArc}(h:Short D must need v c)(hD:∀a∈D',a∈D)(hc:∀a∈c,a∈D'):Short D' must need v c:=
 ⟨h.ne,ZiT h.w hc,h.m,fun u c' n1 n2 n3=>h.le u c' n1 (ZeF hD (Int.le_refl _) n2) n3⟩
theorem Short.must{D:List HArc}{must must':Int}{need:Bool}{v:Int}{c:List HArc}(h:Short D must need v c)(hm:∀a∈D,isM must a=isM must' a):Short D must' need v c:=by
 have hh:∀l:List HArc,(∀a∈l,a∈D)->Zr must l=Zr must' l:=by
  intro l hl;unfold Zr
  induction l with
  |nil=>rfl
  |cons a l ih=>rw[List.any_cons,List.any_cons,hm a (hl a Fc),ih (fun x hx=>hl x (E7 _ hx))]
 exact⟨h.ne,h.w,fun e=>by rw[<-hh c (Zbk h.w)];exact h.m e,fun u c' n1 n2 n3=>h.le u c' n1 n2 (fun e=>by rw[hh c' (Zbk n2)];exact n3 e)⟩
theorem NoWay.must{D:List HArc}{must must':Int}{need:Bool}(h:NoWay D must need)(hm:∀a∈D,isM must a=isM must' a):NoWay D must' need:=by
 have hh:∀l:List HArc,(∀a∈l,a∈D)->Zr must l=Zr must' l:=by
  intro l hl;unfold Zr
  induction l with
  |nil=>rfl
  |cons a l ih=>rw[List.any_cons,List.any_cons,hm a (hl a Fc),ih (fun x hx=>hl x (E7 _ hx))]
 exact fun u c' n1 n2 n3=>h u c' n1 n2 (fun e=>by rw[hh c' (Zbk n2)];exact n3 e)
/- Closed walks,plain:the document's search tells the same. -/
def Zl(mask k:Int):Bool:=decide (1<=k)&&(decide (k<=3)&&Zj mask k)
def Edge.arc(e:Edge):HArc:=⟨e.f,e.t,e.k,e.key⟩
def HArc.edge(a:HArc):Edge:=⟨a.f,a.t,a.kind,a.label⟩
theorem Zgj(e:Edge):e.arc.edge=e:=rfl
theorem ZrQ(a:HArc):a.edge.arc=a:=rfl
def Zc1(must:Int)(pa pn:Gv)(b:Gv)(e:Edge):Gv:=
 if decide (e.t∈pn)=true then Zg e.f (if (decide (e.t∈pa)&&Zl must e.k)=true then Zg e.f b else b) else (if (decide (e.t∈pa)&&Zl must e.k)=true then Zg e.f b else b)
def Zc2(pa:Gv)(a:Gv)(e:Edge):Gv:=if decide (e.t∈pa)=true then Zg e.f a else a
def Zas(must:Int)(pa pn:Gv):Gv->Gv->List Edge->Gv×List Int
 |a,b,[]=>(a,b)
 |a,b,e::l=>Zas must pa pn (Zc2 pa a e) (Zc1 must pa pn b e) l
def Zk(must:Int)(l:List Edge)(tgt:Int):Nat->Gv×List Int
 |0=>([tgt],[])
 |n+1=>Zas must (Zk must l tgt n).1 (Zk must l tgt n).2 [] [] l
theorem ZpR(pa a:Gv)(e:Edge)(u:Int):u∈Zc2 pa a e↔u∈a∨(e.t∈pa∧u=e.f):=by
 unfold Zc2
 split
 ·rename_i h
  have h:=of_decide_eq_true h;rw[Zbo]
  constructor
  ·rintro(e|e)
   ·exact .inr ⟨h,e⟩
   ·exact .inl e
  ·rintro(e|⟨_,e⟩)
   ·exact .inr e
   ·exact .inl e
 ·rename_i h
  have h:¬e.t∈pa:=fun e=>h (Qt e)
  exact⟨.inl,fun e=>e.elim id fun e=>absurd e.1 h⟩
theorem ZpQ(must:Int)(pa pn b:Gv)(e:Edge)(u:Int):u∈Zc1 must pa pn b e↔u∈b∨(u=e.f∧((e.t∈pa∧Zl must e.k=true)∨e.t∈pn)):=by
 have h1:∀x:Gv,(u∈(if (decide (e.t∈pa)&&Zl must e.k)=true then Zg e.f x else x))↔u∈x∨(u=e.f∧(e.t∈pa∧Zl must e.k=true)):=by
  intro x
  split
  ·rename_i h
   rw[Fp,Ff]at h;rw[Zbo]
   constructor
   ·rintro(e|e)
    ·exact .inr ⟨e,h⟩
    ·exact .inl e
   ·rintro(e|⟨e,_⟩)
    ·exact .inr e
    ·exact .inl e
  ·rename_i h
   rw[Fp,Ff]at h;exact⟨.inl,fun e=>e.elim id fun e=>absurd e.2 h⟩
 unfold Zc1
 split
 ·rename_i h
  have h:=of_decide_eq_true h;rw[Zbo,h1]
  constructor
  ·rintro(e|e|e)
   ·exact .inr ⟨e,.inr h⟩
   ·exact .inl e
   ·exact .inr ⟨e.1,.inl e.2⟩
  ·rintro(e|⟨e,k|k⟩)
   ·exact .inr (.inl e)
   ·exact .inl e
   ·exact .inl e
 ·rename_i h
  have h:¬e.t∈pn:=fun e=>h (Qt e)
  rw[h1]
  constructor
  ·rintro(e|e)
   ·exact .inl e
   ·exact .inr ⟨e.1,.inl e.2⟩
  ·rintro(e|⟨e,k|k⟩)
   ·exact .inl e
   ·exact .inr ⟨e,k⟩
   ·exact absurd k h
theorem Zi1(must:Int)(pa pn:Gv)(u:Int):∀(l:List Edge) (a b:Gv),u∈(Zas must pa pn a b l).1↔u∈a∨∃e∈l,e.t∈pa∧u=e.f
 |[],a,b=>by simp[Zas]
 |e::l,a,b=>by
  show u∈(Zas must pa pn (Zc2 pa a e) (Zc1 must pa pn b e) l).1↔_
  rw[Zi1 must pa pn u l,ZpR]
  constructor
  ·rintro((h|h)|⟨x,hx,h⟩)
   ·exact .inl h
   ·exact .inr ⟨e,Fc,h⟩
   ·exact .inr ⟨x,E7 _ hx,h⟩
  ·rintro(h|⟨x,hx,h⟩)
   ·exact .inl (.inl h)
   ·rcases F9.1 hx with rfl|hx
    ·exact .inl (.inr h)
    ·exact .inr ⟨x,hx,h⟩
theorem Zi0(must:Int)(pa pn:Gv)(u:Int):∀(l:List Edge) (a b:Gv),u∈(Zas must pa pn a b l).2↔u∈b∨∃e∈l,u=e.f∧((e.t∈pa∧Zl must e.k=true)∨e.t∈pn)
 |[],a,b=>by simp[Zas]
 |e::l,a,b=>by
  show u∈(Zas must pa pn (Zc2 pa a e) (Zc1 must pa pn b e) l).2↔_
  rw[Zi0 must pa pn u l,ZpQ]
  constructor
  ·rintro((h|h)|⟨x,hx,h⟩)
   ·exact .inl h
   ·exact .inr ⟨e,Fc,h⟩
   ·exact .inr ⟨x,E7 _ hx,h⟩
  ·rintro(h|⟨x,hx,h⟩)
   ·exact .inl (.inl h)
   ·rcases F9.1 hx with rfl|hx
    ·exact .inl (.inr h)
    ·exact .inr ⟨x,hx,h⟩
section
variable {l:List Edge} {must lo:Int}
theorem Zdk(aM:∀e∈l,lo<=e.f)(tgt:Int):∀(n:Nat) (u:Int),u∈(Zk must l tgt n).1↔∃c,okW (l.map Edge.arc) lo u c tgt∧c.length=n
 |0,u=>by
  show u∈[tgt]↔_
  rw[Fa]
  constructor
  ·intro e;exact⟨[],e,rfl⟩
  ·rintro⟨c,h,hl⟩;have:c=[]:=Et hl;subst this;exact h
 |n+1,u=>by
  show u∈(Zas must (Zk must l tgt n).1 (Zk must l tgt n).2 [] [] l).1↔_
  rw[Zi1]
  constructor
  ·rintro(h|⟨e,he,h1,h2⟩)
   ·cases h
   ·obtain⟨c,k1,k2⟩:=(Zdk aM tgt n e.t).1 h1;exact⟨e.arc::c,⟨Gc.2 ⟨e,he,rfl⟩,h2.symm,by rw[h2];exact aM e he,k1⟩,by simp[k2]⟩
  ·rintro⟨c,k1,k2⟩
   cases c with
   |nil=>simp at k2
   |cons a c=>
    obtain⟨ha,ez,_,k1⟩:=k1;obtain⟨e,he,rfl⟩:=Gc.1 ha;exact .inr ⟨e,he,(Zdk aM tgt n e.t).2 ⟨c,k1,by simpa using k2⟩,ez.symm⟩
theorem Zgg{e:Edge}(h1:1<=e.k)(h2:e.k<=3):Zl must e.k=isM must e.arc:=by
 unfold Zl isM;rw[Qt h1,Qt h2];rfl
theorem Ze3(aM:∀e∈l,lo<=e.f)(hk:∀e∈l,1<=e.k∧e.k<=3)(tgt:Int):∀(n:Nat) (u:Int),u∈(Zk must l tgt n).2↔∃c,okW (l.map Edge.arc) lo u c tgt∧c.length=n∧Zr must c=true
 |0,u=>by
  show u∈[]↔_
  constructor
  ·intro e
   cases e
  ·rintro⟨c,h,hl,hm⟩;have:c=[]:=Et hl;subst this
   cases hm
 |n+1,u=>by
  show u∈(Zas must (Zk must l tgt n).1 (Zk must l tgt n).2 [] [] l).2↔_
  rw[Zi0]
  constructor
  ·rintro(h|⟨e,he,h2,⟨h1,h3⟩|h1⟩)
   ·cases h
   ·obtain⟨c,k1,k2⟩:=(Zdk aM tgt n e.t).1 h1;rw[Zgg (hk e he).1 (hk e he).2]at h3;exact⟨e.arc::c,⟨Gc.2 ⟨e,he,rfl⟩,h2.symm,by rw[h2];exact aM e he,k1⟩,by simp[k2],by rw[ZbF,h3];rfl⟩
   ·obtain⟨c,k1,k2,k3⟩:=(Ze3 aM hk tgt n e.t).1 h1;exact⟨e.arc::c,⟨Gc.2 ⟨e,he,rfl⟩,h2.symm,by rw[h2];exact aM e he,k1⟩,by simp[k2],by rw[ZbF,k3];simp⟩
  ·rintro⟨c,k1,k2,k3⟩
   cases c with
   |nil=>simp at k2
   |cons a c=>
    obtain⟨ha,ez,_,k1⟩:=k1;obtain⟨e,he,rfl⟩:=Gc.1 ha;refine .inr ⟨e,he,ez.symm,?_⟩;rw[ZbF,F3]at k3;rcases k3 with k3|k3
    ·exact .inl ⟨(Zdk aM tgt n e.t).2 ⟨c,k1,by simpa using k2⟩,by rw[Zgg (hk e he).1 (hk e he).2];exact k3⟩
    ·exact .inr ((Ze3 aM hk tgt n e.t).2 ⟨c,k1,by simpa using k2,k3⟩)
end
def isR(must:Int)(pa pn:Gv)(aq:Int)(need:Bool)(e:Edge):Bool:=
 e.f==aq&&(if (need&& !Zl must e.k)=true then decide (e.t∈pn) else decide (e.t∈pa))
def ZF(must:Int)(l:List Edge)(rows:Nat->Gv×Gv):Nat->Int->Bool->List Edge
 |0,_,_=>[]
 |n+1,aq,need=>match l.find? (isR must (rows n).1 (rows n).2 aq need)with
  |some e=>e::ZF must l rows n e.t (need&& !Zl must e.k)
  |none=>ZF must l rows n aq need
theorem ZeH(a b:Edge):ltE a b=Zbb a.arc b.arc:=by
 unfold ltE Zbb Edge.arc;simp only[ne_eq]
 by_cases h1:a.f=b.f
 ·rw[if_neg (by simpa using h1),if_pos h1]
  by_cases h2:a.k=b.k
  ·rw[if_neg (by simpa using h2),if_pos h2]
   by_cases h3:a.key=b.key
   ·rw[if_neg (by simpa using h3),if_pos h3]
   ·rw[if_pos h3,if_neg h3]
  ·rw[if_pos h2,if_neg h2]
 ·rw[if_pos h1,if_neg h1]
theorem ZhK{l:List Edge}{must lo:Int}(hs:l.Pairwise fun a b=>ltE a b=true)(aM:∀e∈l,lo<=e.f)(hk:∀e∈l,1<=e.k∧e.k<=3)(tgt:Int):
  ∀(n:Nat) (aq:Int) (need:Bool),(∃c,okW (l.map Edge.arc) lo aq c tgt∧c.length=n∧(need=true->Zr must c=true))->
   okW (l.map Edge.arc) lo aq ((ZF must l (Zk must l tgt) n aq need).map Edge.arc) tgt∧(ZF must l (Zk must l tgt) n aq need).length=n∧(need=true->Zr must ((ZF must l (Zk must l tgt) n aq need).map Edge.arc)=true)∧
    ∀c,okW (l.map Edge.arc) lo aq c tgt->c.length=n->(need=true->Zr must c=true)->c=(ZF must l (Zk must l tgt) n aq need).map Edge.arc∨Zf0 ((ZF must l (Zk must l tgt) n aq need).map Edge.arc) c
 |0,aq,need,⟨c,k1,k2,k3⟩=>by
  have:c=[]:=Et k2;subst this;exact⟨k1,rfl,k3,fun l _ h2 _=> .inl (Et h2)⟩
 |n+1,aq,need,⟨c,k1,k2,k3⟩=>by
  have tailM:∀(e:Edge) (l:List HArc),(need=true->(isM must e.arc||Zr must l)=true)->((need&& !isM must e.arc)=true->Zr must l=true):=by
   intro e l hm hn;rw[Fp]at hn;have h1:=hm hn.1;have h2:isM must e.arc=false:=by simpa using hn.2
   rw[h2,Bool.false_or]at h1;exact h1
  have gO:∀(e:Edge) (l:List HArc),((need&& !isM must e.arc)=true->Zr must l=true)->(need=true->(isM must e.arc||Zr must l)=true):=by
   intro e l hm hn
   by_cases h:isM must e.arc=true
   ·rw[h];rfl
   ·have e2:isM must e.arc=false:=by simpa using h
    rw[hm (by rw[hn,e2];rfl)];simp
  have good:∀(e:Edge),e∈l->(isR must (Zk must l tgt n).1 (Zk must l tgt n).2 aq need e=true↔e.f=aq∧∃m,okW (l.map Edge.arc) lo e.t m tgt∧m.length=n∧(need=true->(isM must e.arc||Zr must m)=true)):=by
   intro e he;unfold isR;rw[Fp,beq_iff_eq,Zgg (hk e he).1 (hk e he).2];refine and_congr_right fun _=>?_
   split
   ·rename_i hn
    rw[Ff,Ze3 aM hk]
    constructor
    ·rintro⟨m,m1,m2,m3⟩;exact⟨m,m1,m2,fun _=>by rw[m3];simp⟩
    ·rintro⟨m,m1,m2,m3⟩;exact⟨m,m1,m2,tailM e m m3 hn⟩
   ·rename_i hn
    rw[Ff,Zdk aM]
    constructor
    ·rintro⟨m,m1,m2⟩;refine⟨m,m1,m2,fun e2=>?_⟩;rw[e2,Bool.true_and]at hn;have:isM must e.arc=true:=by simpa using hn
     rw[this];rfl
    ·rintro⟨m,m1,m2,_⟩;exact⟨m,m1,m2⟩
  cases c with
  |nil=>simp at k2
  |cons a0 c0=>
   obtain⟨AL,uM,_,k1⟩:=k1;obtain⟨e0,gI,rfl⟩:=Gc.1 AL;have g0:=(good e0 gI).2 ⟨uM,c0,k1,by simpa using k2,k3⟩
   obtain⟨e,rl⟩:∃e,l.find? (isR must (Zk must l tgt n).1 (Zk must l tgt n).2 aq need)=some e:=by
    rw[<-Option.isSome_iff_exists,List.find?_isSome];exact⟨e0,gI,g0⟩
   have bh:=List.mem_of_find?_eq_some rl;obtain⟨pN,m,m1,m2,m3⟩:=(good e bh).1 (List.find?_some rl)
   have qd:ZF must l (Zk must l tgt) (n+1) aq need=e::ZF must l (Zk must l tgt) n e.t (need&& !Zl must e.k):=by
    show(match l.find? (isR must (Zk must l tgt n).1 (Zk must l tgt n).2 aq need)with|some e=>e::ZF must l (Zk must l tgt) n e.t (need&& !Zl must e.k)|none=>ZF must l (Zk must l tgt) n aq need)=_
    rw[rl]
   rw[Zgg (hk e bh).1 (hk e bh).2]at qd;have ih:=ZhK hs aM hk tgt n e.t (need&& !isM must e.arc) ⟨m,m1,m2,tailM e m m3⟩;rw[qd,Gb];refine⟨⟨Gc.2 ⟨e,bh,rfl⟩,pN,by rw[<-pN];exact aM e bh,ih.1⟩,by simp[ih.2.1],fun hn=>by rw[ZbF];exact gO e _ ih.2.2.1 hn,fun c hw hl hm=>?_⟩
   cases c with
   |nil=>simp at hl
   |cons b c=>
    obtain⟨hb,wJ,_,hw⟩:=hw;obtain⟨x,hx,rfl⟩:=Gc.1 hb
    by_cases hxe:x=e
    ·subst hxe;rcases ih.2.2.2 c hw (by simpa using hl) (tailM x c hm)with h|h
     ·exact .inl (by rw[h])
     ·exact .inr (.inr ⟨rfl,h⟩)
    ·refine .inr (.inl ?_);have gx:=(good x hx).2 ⟨wJ,c,hw,by simpa using hl,hm⟩;obtain⟨l8,l9,h1,h2⟩:=(List.find?_eq_some_iff_append.1 rl).2;rw[h1]at hx hs;rw[<-ZeH];rcases Fu.1 hx with hx|hx
     ·have:=h2 x hx;rw[gx]at this
      cases this
     ·rcases F9.1 hx with hx|hx
      ·exact absurd hx hxe
      ·exact(Fd.1 (E5.1 hs).2.1).1 x hx
def inR(hit:Nat->Bool)(most:Nat)(id:Int):Nat->Nat->Nat×Int->Nat×Int
 |0,_,s=>s
 |g+1,i,s=>if (decide (i<=most)&&(s.1==0||decide (i<s.1)))=true then inR hit most id g (i+1) (if hit i=true then (i,id) else s) else s
def Zct(hit:Int->Nat->Bool)(most:Nat):Gv->Nat×Int->Nat×Int
 |[],s=>s
 |id::l,s=>Zct hit most l (inR (hit id) most id most 1 s)
theorem ZrC{hit:Nat->Bool}{most:Nat}{id:Int}:∀(g i:Nat) (s:Nat×Int),s.1≠0->s.1<=i->inR hit most id g i s=s
 |0,_,_,_,_=>rfl
 |g+1,i,s,h1,h2=>by
  unfold inR;rw[if_neg];rw[Fp,F3,beq_iff_eq,Ff,Ff];omega
theorem Zl9{hit:Nat->Bool}{most:Nat}{id:Int}:∀(g i:Nat) (s:Nat×Int),1<=i->g+i=most+1->
  (inR hit most id g i s=s∧∀j,i<=j->j<=most->(s.1=0∨j<s.1)->hit j=false)∨
   (∃k,i<=k∧k<=most∧(s.1=0∨k<s.1)∧hit k=true∧inR hit most id g i s=(k,id)∧∀j,i<=j->j<k->hit j=false)
 |0,i,s,_,hg=> .inl ⟨rfl,fun j h1 h2 _=>by omega⟩
 |g+1,i,s,hi,hg=>by
  unfold inR
  by_cases hc:(decide (i<=most)&&(s.1==0||decide (i<s.1)))=true
  ·rw[if_pos hc];rw[Fp,F3,beq_iff_eq,Ff,Ff]at hc
   by_cases hh:hit i=true
   ·rw[if_pos hh];exact .inr ⟨i,Nat.le_refl _,hc.1,hc.2,hh,ZrC g (i+1) (i,id) (by show i≠0;omega) (by show i<=i+1;omega),fun j h1 h2=>by omega⟩
   ·rw[if_neg hh];have hf:hit i=false:=by simpa using hh
    rcases Zl9 (hit:=hit) (most:=most) (id:=id) g (i+1) s (by omega) (by omega)with ⟨e,h⟩|⟨k,k1,k2,k3,k4,k5,k6⟩
    ·refine .inl ⟨e,fun j h1 h2 h3=>?_⟩;rcases Nat.eq_or_lt_of_le h1 with e1|e1
     ·rw[<-e1];exact hf
     ·exact h j e1 h2 h3
    ·refine .inr ⟨k,by omega,k2,k3,k4,k5,fun j h1 h2=>?_⟩;rcases Nat.eq_or_lt_of_le h1 with e1|e1
     ·rw[<-e1];exact hf
     ·exact k6 j e1 h2
  ·rw[if_neg hc];rw[Fp,F3,beq_iff_eq,Ff,Ff]at hc;refine .inl ⟨rfl,fun j h1 h2 h3=>?_⟩
   exfalso
   apply hc
   omega
def Zjw(hit:Int->Nat->Bool)(most:Nat)(ids:Gv)(s:Nat×Int):Prop:=
 (s.1=0∧∀x∈ids,∀j,1<=j->j<=most->hit x j=false)∨
  (1<=s.1∧s.1<=most∧s.2∈ids∧hit s.2 s.1=true∧∀x∈ids,∀j,1<=j->j<=most->hit x j=true->s.1<=j∧(x<s.2->s.1<j))
theorem Zer{hit:Int->Nat->Bool}{most:Nat}:∀(l ids:Gv) (s:Nat×Int),(ids++l).Pairwise (·<·)->Zjw hit most ids s->Zjw hit most (ids++l) (Zct hit most l s)
 |[],ids,s,_,h=>by rw[Fv];exact h
 |x::l,ids,s,hp,h=>by
  have hlt:∀y∈ids,y<x:=fun y hy=>(E5.1 hp).2.2 y hy x Fc
  have key:Zjw hit most (ids++[x]) (inR (hit x) most x most 1 s):=by
   rcases Zl9 (hit:=hit x) (id:=x) most 1 s (Nat.le_refl _) rfl with ⟨e,k⟩|⟨k,k1,k2,k3,k4,k5,k6⟩
   ·rw[e];rcases h with ⟨h1,h2⟩|⟨h1,h2,h3,h4,h5⟩
    ·refine .inl ⟨h1,fun y hy j j1 j2=>?_⟩;rcases Fu.1 hy with hy|hy
     ·exact h2 y hy j j1 j2
     ·rw[Fa]at hy;subst hy;exact k j j1 j2 (.inl h1)
    ·refine .inr ⟨h1,h2,E9 _ h3,h4,fun y hy j j1 j2 hh=>?_⟩;rcases Fu.1 hy with hy|hy
     ·exact h5 y hy j j1 j2 hh
     ·rw[Fa]at hy;subst hy;have yG:=hlt _ h3;refine⟨?_,fun e2=>by omega⟩;refine Classical.byContradiction fun hc=>?_
      rw[k j j1 j2 (.inr (by omega))]at hh
      cases hh
   ·rw[k5];refine .inr ⟨k1,k2,Ey _ (Fa.2 rfl),k4,fun y hy j j1 j2 hh=>?_⟩;rcases Fu.1 hy with hy|hy
    ·rcases h with ⟨h1,h2⟩|⟨h1,h2,h3,h4,h5⟩
     ·rw[h2 y hy j j1 j2]at hh
      cases hh
     ·have:=(h5 y hy j j1 j2 hh).1
      show k<=j∧(y<x->k<j)
      omega
    ·rw[Fa]at hy;subst hy
     show k<=j∧(y<y->k<j)
     refine⟨?_,fun e2=>by omega⟩;refine Classical.byContradiction fun hc=>?_
     rw[k6 j j1 (by omega)]at hh
     cases hh
  show Zjw hit most (ids++x::l) (Zct hit most l (inR (hit x) most x most 1 s))
  rw[show ids++x::l=(ids++[x])++l by simp];exact Zer l (ids++[x]) _ (by rw[show(ids++[x])++l=ids++x::l by simp];exact hp) key
def Zar(must:Int)(need:Bool)(l:List Edge)(id:Int)(i:Nat):Bool:=
 if need=true then decide (id∈(Zk must l id i).2) else decide (id∈(Zk must l id i).1)
theorem Zig{l:List Edge}{must lo:Int}(aM:∀e∈l,lo<=e.f)(hk:∀e∈l,1<=e.k∧e.k<=3)(need:Bool)(id:Int)(i:Nat):
  Zar must need l id i=true↔∃c,okW (l.map Edge.arc) lo id c id∧c.length=i∧(need=true->Zr must c=true):=by
 unfold Zar
 split
 ·rename_i h
  rw[Ff,Ze3 aM hk];exact⟨fun⟨c,a,b,d⟩=>⟨c,a,b,fun _=>d⟩,fun⟨c,a,b,d⟩=>⟨c,a,b,d h⟩⟩
 ·rename_i h
  rw[Ff,Zdk aM];exact⟨fun⟨c,a,b⟩=>⟨c,a,b,fun e=>absurd e h⟩,fun⟨c,a,b,_⟩=>⟨c,a,b⟩⟩
theorem ZeS{p:List HArc}{must least u:Int}{c:List HArc}(h:okW p least u c u)(hc:c≠[]):∃v c',c'≠[]∧okW p v v c' v∧c'.length=c.length∧Zr must c'=Zr must c∧v<=u∧∀b∈c,v<=b.f:=by
 obtain⟨a,ha,eN⟩:=ZgP hc
 have hu:a.f<=u:=by
  cases c with
  |nil=>exact absurd rfl hc
  |cons b l=>rw[<-h.2.1];exact eN b Fc
 obtain⟨l1,l2,e,h1,h2⟩:=Zh4 h ha;subst e;refine⟨a.f,(a::l2)++l1,by simp,?_,by simp only[Fb,Fs];omega,by rw[Zcn,Zcn,Bool.or_comm],hu,eN⟩;refine Ze0 (Zes h2 h1) fun b hb=>eN b ?_
 rcases Fu.1 hb with hb|hb
 ·exact Ey _ hb
 ·exact E9 _ hb
theorem ZgI:∀{l m:Gv},l.Pairwise (·≠·)->(∀x∈l,x∈m)->l.length<=m.length
 |[],m,_,_=>by simp
 |a::l,m,h,hm=>by
  rw[Fd]at h;have ha:=hm a Fc;have ih:=ZgI (l:=l) (m:=m.erase a) h.2 (fun x hx=>(List.mem_erase_of_ne (fun e=>h.1 x hx e.symm)).2 (hm x (E7 _ hx)));rw[List.length_erase_of_mem ha]at ih;have:=Ew ha;simp only[Fs];omega
theorem ZiN{l:List Edge}{must lo:Int}{need:Bool}{ids:Gv}(aM:∀e∈l,lo<=e.f)(hk:∀e∈l,1<=e.k∧e.k<=3)(hp:ids.Pairwise (·<·))(most:Nat)(h:NoWay (l.map Edge.arc) must need):(Zct (Zar must need l) most ids (0,0)).1=0:=by
 have hF:=Zer (hit:=Zar must need l) (most:=most) ids [] (0,0) hp (.inl ⟨rfl,fun x hx=>by cases hx⟩);rw[Fy]at hF;rcases hF with h1|⟨h1,h2,h3,h4,h5⟩
 ·exact h1.1
 ·exfalso
  obtain⟨c,c1,c2,c3⟩:=(Zig aM hk need _ _).1 h4;have hc:c≠[]:=fun e=>by rw[e]at c2;simp at c2;omega
  obtain⟨v,c',k1,k2,k3,k4,_⟩:=ZeS (must:=must) c1 hc;exact h v c' k1 k2 (fun e=>by rw[k4];exact c3 e)
theorem ZmQ{l:List Edge}{must lo:Int}{need:Bool}{ids:Gv}(hs:l.Pairwise fun a b=>ltE a b=true)(aM:∀e∈l,lo<=e.f)(hk:∀e∈l,1<=e.k∧e.k<=3)(hp:ids.Pairwise (·<·))(cC:∀e∈l,e.f∈ids)
  {most:Nat} (xY:ids.length<=most) {v:Int} {c:List HArc} (h:Short (l.map Edge.arc) must need v c):
  Zct (Zar must need l) most ids (0,0)=(c.length,v)∧(ZF must l (Zk must l v) c.length v need).map Edge.arc=c:=by
 have eo:∀a∈c,a.f∈ids:=fun a ha=>by
  obtain⟨e,he,rfl⟩:=Gc.1 (Zbk h.w a ha);exact cC e he
 have BY:lo<=v:=by
  have hw:=h.w
  cases c with
  |nil=>exact absurd rfl h.ne
  |cons a c=>
   obtain⟨e,he,e2⟩:=Gc.1 hw.1;rw[<-hw.2.1,<-e2];exact aM e he
 have oa:v∈ids:=by
  have hw:=h.w
  cases hc:c with
  |nil=>exact absurd hc h.ne
  |cons a d=>
   rw[hc]at hw;rw[<-hw.2.1];exact eo a (by rw[hc];exact Fc)
 have cO:c.length<=ids.length:=by
  have:=ZgI (l:=c.map HArc.f) (m:=ids) (List.pairwise_map.2 h.simple) (fun x hx=>by
   obtain⟨a,ha,rfl⟩:=Gc.1 hx;exact eo a ha)
  rwa [F6]at this
 have cZ:1<=c.length:=by
  cases hc:c with
  |nil=>exact absurd hc h.ne
  |cons a d=>simp
 have mU:okW (l.map Edge.arc) lo v c v:=ZeF (fun _=>id) BY h.w;have nX:Zar must need l v c.length=true:=(Zig aM hk need v c.length).2 ⟨c,mU,rfl,h.m⟩;have hF:=Zer (hit:=Zar must need l) (most:=most) ids [] (0,0) hp (.inl ⟨rfl,fun x hx=>by cases hx⟩);rw[Fy]at hF
 constructor
 ·rcases hF with ⟨h1,h2⟩|⟨h1,h2,h3,h4,h5⟩
  ·rw[h2 v oa c.length cZ (by omega)]at nX
   cases nX
  ·have h6:=h5 v oa c.length cZ (by omega) nX;obtain⟨d,d1,d2,d3⟩:=(Zig aM hk need _ _).1 h4;have hd:d≠[]:=fun e=>by rw[e]at d2;simp at d2;omega
   obtain⟨u,c',k1,k2,k3,k4,k5,_⟩:=ZeS (must:=must) d1 hd;have h7:=h.le u c' k1 k2 (fun e=>by rw[k4];exact d3 e);have h8:c.length=(Zct (Zar must need l) most ids (0,0)).1:=by omega
   have h9:=(h7.2 (by omega)).1;have jW:¬v<(Zct (Zar must need l) most ids (0,0)).2:=fun e=>by have:=h6.2 e;omega
   have vP:v=(Zct (Zar must need l) most ids (0,0)).2:=by omega
   rw[h8,vP]
 ·obtain⟨r1,r2,r3,r4⟩:=ZhK hs aM hk v c.length v need ⟨c,mU,rfl,h.m⟩;obtain⟨r,hr⟩:=Qe ((ZF must l (Zk must l v) c.length v need).map Edge.arc);rw[hr]at r1 r3 r4 ⊢;have jZ:r.length=c.length:=by rw[<-hr,F6];exact r2
  have zB:r≠[]:=fun e=>by rw[e]at jZ;simp at jZ;omega
  obtain⟨u,c',k1,k2,k3,k4,k5,k6⟩:=ZeS (must:=must) r1 zB;have h7:=h.le u c' k1 k2 (fun e=>by rw[k4];exact r3 e);have h9:=(h7.2 (by omega)).1;have Cx:okW (l.map Edge.arc) v v r v:=Ze0 r1 (fun b hb=>Int.le_trans h9 (k6 b hb));have Cy:=((h.le v r zB Cx r3).2 jZ.symm).2 rfl;rcases Cy with e|e
  ·exact e
  ·rcases r4 c mU rfl h.m with e2|e2
   ·exact e2.symm
   ·exact(Zh9 e e2).elim
/- Phenomena,plain:who is reached by edges,as the document seeks it. -/
inductive RchE (l:List Edge):Int->Int->Prop
 |refl (a:Int):RchE l a a
 |step {a b:Int} {e:Edge}:RchE l a b->e∈l->e.f=b->RchE l a e.t
theorem RchE.trans{l:List Edge}{a b c:Int}(h:RchE l a b)(k:RchE l b c):RchE l a c:=by
 induction k with
 |refl=>exact h
 |step _ h2 h3 ih=>exact ih.step h2 h3
def ZdG:Gv->List Edge->List Int
 |out,[]=>out
 |out,e::m=>ZdG (if e.f∈out∧e.t∉out then out++[e.t] else out) m
def itE(l:List Edge):Nat->Gv->List Int
 |0,out=>out
 |n+1,out=>itE l n (ZdG out l)
def ZaH(l:List Edge)(a:Int):Gv:=itE l (l.length+1) [a]
theorem Ziy:∀(l:List Edge) (out:Gv),out.Nodup->(ZdG out l).Nodup
 |[],_,h=>h
 |e::l,out,h=>by
  unfold ZdG
  apply Ziy
  split
  ·rename_i hc
   exact List.nodup_append.2 ⟨h,by simp,fun x hx y hy=>by rw[Fa.1 hy];exact fun e'=>hc.2 (e'▸hx)⟩
  ·exact h
theorem ZlB(q:List Edge)(P:Int->Prop)(h1:∀e∈q,P e.f->P e.t):∀(l:List Edge) (out:Gv),(∀e∈l,e∈q)->(∀x∈out,P x)->∀x∈ZdG out l,P x
 |[],_,_,h=>h
 |e::l,out,hl,h=>by
  unfold ZdG;refine ZlB q P h1 l _ (fun b hb=>hl b (E7 _ hb)) ?_
  split
  ·rename_i hc
   intro x hx;rcases Fu.1 hx with hx|hx
   ·exact h x hx
   ·rw[Fa.1 hx];exact h1 e (hl e (Fc ..)) (h _ hc.1)
  ·exact h
theorem Znq(l:List Edge)(P:Int->Prop)(h1:∀e∈l,P e.f->P e.t):∀(n:Nat) (out:Gv),(∀x∈out,P x)->∀x∈itE l n out,P x
 |0,_,h=>h
 |n+1,out,h=>Znq l P h1 n _ (ZlB l P h1 l out (fun _ h=>h) h)
theorem ZkG(l:List Edge):∀(n:Nat) (out:Gv),out.Nodup->(itE l n out).Nodup
 |0,_,h=>h
 |n+1,out,h=>ZkG l n _ (Ziy l out h)
theorem ZiE(l:List Edge)(a:Int):(ZaH l a).length<=l.length+1:=by
 unfold ZaH;have h1:=Zgs (itE l (l.length+1) [a]) (a::l.map (·.t)) (ZkG l _ _ (by simp)) (Znq l (fun x=>x∈a::l.map (·.t)) (fun e he _=>E7 _ (Gc.2 ⟨e,he,rfl⟩)) _ _ (fun x hx=>by rw[Fa.1 hx];exact Fc ..))
 rwa [Fs,F6]at h1
def ZgC(l:List Edge)(mask must:Int):Bool:=
 let q:=l.filter fun e=>Zl mask e.k
 let sp:=if (bits .and .i64 must 14==0)=true then q else q.filter fun e=>Zl must e.k
 sp.any fun e=>decide (e.f∈ZaH q e.t)
/- Closed walks,the document's:edges put among others,and those of a mask. -/
def Zi(l:List Edge):Gl:=(l.map Edge.cells).flatten
theorem Zaf(l:List Edge):(Zi l).length=l.length*4:=by
 unfold Zi
 induction l with
 |nil=>rfl
 |cons a l ih=>simp only[Gb,List.flatten_cons,Fb,Fs,ih];simp[Edge.cells];omega
def Zhf(w:Gy)(l:List Edge)(e:Ending)(w':Gy):Prop:=∃A c,e= .returned (.slice A l.length c)∧w'.ownsRow w.heap.size 94 4 (.slice A l.length c) l.length (Zi l)∧Upd No w w'
theorem Zl0(a:Edge):¬ltE a a=true:=by rw[ZeH];exact ZcC _
def ZbC(a:Edge)(done:Bool)(out:List Edge):List Edge->List Edge
 |[]=>if done then out else out++[a]
 |x::l=>ZbC a (done|| !ltE x a) ((if !done&& !ltE x a then out++[a] else out)++(if x=a then [] else [x])) l
def Zca(a:Edge):List Edge->List Edge
 |[]=>[a]
 |x::l=>if ltE x a=true then x::Zca a l else a::(x::l).filter (fun y=> !(y==a))
theorem ZiH(a:Edge):∀(l out:List Edge),ZbC a true out l=out++l.filter fun y=> !(y==a)
 |[],out=>by simp[ZbC]
 |x::l,out=>by
  show ZbC a true ((if !true&& !ltE x a then out++[a] else out)++(if x=a then [] else [x])) l=_
  rw[ZiH a l]
  by_cases h:x=a
  ·subst h;simp
  ·have:(x==a)=false:=by simpa using h
   simp[h]
theorem ZhB(a:Edge):∀(l out:List Edge),ZbC a false out l=out++Zca a l
 |[],out=>by simp[ZbC,Zca]
 |x::l,out=>by
  show ZbC a (false|| !ltE x a) ((if !false&& !ltE x a then out++[a] else out)++(if x=a then [] else [x])) l=_
  unfold Zca
  by_cases h:ltE x a=true
  ·rw[if_pos h,h]
   show ZbC a false (out++(if x=a then [] else [x])) l=_
   rw[if_neg (show¬x=a from fun e=>Zl0 a (e▸h)),ZhB a l];simp
  ·have hf:ltE x a=false:=by simpa using h
   rw[if_neg h,hf]
   show ZbC a true ((out++[a])++(if x=a then [] else [x])) l=_
   rw[ZiH]
   by_cases h2:x=a
   ·subst h2;simp
   ·simp[h2]
theorem Zrd(a:Edge)(l:List Edge):ZbC a false [] l=Zca a l:=by rw[ZhB];rfl
theorem Zvd(F:Gt)(w:Gy)(A:OA)(c:Nat)(l:List Edge)(a:Edge)(h:Walk F w A l)(hl:l.length<=1000000):
  Calls Tryz.prog 130 #[.slice A l.length c,.agg a.cells.toArray] w (Zhf w (ZbC a false [] l)):=by
 have qN:=Zik;have qG:∀(op:BinOp) (x y:Operand) (xs ys:Gj) (w:Gy),(eqGuard op 94 x y (.agg xs) (.agg ys)).run Tryz.prog w= .ok () w:=fun op x y xs ys w=>run_eqGuard_agg w op _ x y xs ys (by kernel_rfl)
 have HA:=Qh h;have UB:=Qh ((Gg No w).alloc (.cells #[Qi a.f,Qi a.t,Qi a.k,Qi a.key] 94));have bB:=Qh (Gh w 94 [Qi a.f,Qi a.t,Qi a.k,Qi a.key]);unfold Edge.cells;clear h;go_enter Tryz.func130,Tryz.ntmps130;go_wp2
 go_loopg [5,6,11] l.length (fun gk s d i wr=>∃(k:Nat) (b:Bool) (A5:OA) (c5:Nat) (xs:List Edge),k+gk=l.length∧i= Qi k∧d= .bool b∧s= .slice A5 xs.length c5∧Hid (ZbC a b xs (l.drop k)=ZbC a false [] l)∧xs.length<=2*k∧
  wr.ownsRow (w.heap.size+1) 94 4 (.slice A5 xs.length c5) xs.length (Zi xs)∧Upd No w wr∧Blk wr w.heap.size 94 [Qi a.f,Qi a.t,Qi a.k,Qi a.key])
 case atStart=>exact⟨0,false,none,0,[],by omega,rfl,rfl,rfl,Qh rfl,by simp,Gf _ _ _ _,UB.out,bB.out⟩
 case round=>
  obtain⟨k,b,A5,c5,xs,aK,rfl,rfl,rfl,hs,hxl,ae,hu,cf⟩:=hrel
  by_cases hlt:k<l.length
  ·obtain⟨ax,rfl,q0,q1,q2,q3⟩:=(HA.out.upd hu Qo).at_ hlt;obtain⟨x,hx⟩:=Qe (l[k]);rw[hx]at q0 q1 q2 q3;have ag:=hs.out;rw[show l.drop k=x::l.drop (k+1) by rw[<-hx];exact Ev hlt]at ag;have ag:ZbC a (b|| !ltE x a) ((if !b&& !ltE x a then xs++[a] else xs)++(if x=a then [] else [x])) (l.drop (k+1))=ZbC a false [] l:=ag;clear hx;have b1:(0:Int)<=(k:Int):=Qn _;have b2:(k:Int)<(l.length:Int):=by omega
   have uA:=(Gg No wr).alloc (.cells #[Qi x.f,Qi x.t,Qi x.k,Qi x.key] 94);have bo:=Gh wr 94 [Qi x.f,Qi x.t,Qi x.k,Qi x.key];have az:=Za ae uA Qo;have tN:=cf.alloc (.cells #[Qi x.f,Qi x.t,Qi x.k,Qi x.key] 94);have gw:=cf.lt;have hzz:=hu.size;have fM:=Qh (show¬Own (.slice A5 xs.length c5) w.heap.size from fun e=>by have:=(az.lt _ e).1;omega);have br:=Qh (show¬Own (.slice A5 xs.length c5) wr.heap.size from fun e=>by have:=(ae.lt _ e).2;omega);have HL:=Qh (Zaf xs);have eQ:=Qh (fun i e=>(ae.lt i e).1);have dG:=Qh (hu.trans uA);have HR:=Qh (fun W=>Zu9 W x a);obtain⟨g0,g1,g2,g3⟩:=bo.c4;obtain⟨d0,d1,d2,d3⟩:=tN.c4;have BX:=Qh bo;have BA:=Qh tN;clear uA bo tN
   cases b
   ·cases hr:ltE x a
    ·rw[hr]at ag HR;simp only[Bool.not_false,Bool.true_and,if_true,Bool.false_or]at ag;unfold Edge.cells at HR;go_wp2_with fail;refine Ck (HR.out _) fun w1 hu1=>?_;have bX1:=BX.out.upd hu1 id;have bA1:=BA.out.upd hu1 id;obtain⟨f0,f1,f2,f3⟩:=bA1.c4;have am:=Za az hu1 Qo;have dj:=hu1.size;simp only[Ge]at dj;have bC:=Qh (dG.out.trans hu1);have lJ:=Qh bX1;have gq:=Qh bA1;clear bX1 bA1 az hu1
     by_cases hxa:x=a
     ·rw[if_pos hxa,Fv]at ag;have hb:(x != a)=false:=by rw[hxa];simp
      have HS:=Qh ag;clear ag hxa;go_wp2_with (at_builtin;refine ZX rfl rfl ZQ (v:= .slice A5 xs.length c5) (n:=xs.length) (xs:=Zi xs) (cells:=[Qi a.f,Qi a.t,Qi a.k,Qi a.key]) (by rfl) rfl am rfl rfl (by omega) (by omega) (by omega) ?_;intro g' c' w2 aB hu3 eM eL;have e0:=(lJ.out.upd hu3 br.out).cell 0;have e1:=(lJ.out.upd hu3 br.out).cell 1;have e2:=(lJ.out.upd hu3 br.out).cell 2;have e3:=(lJ.out.upd hu3 br.out).cell 3;have j0:=(gq.out.upd hu3 fM.out).cell 0;have j1:=(gq.out.upd hu3 fM.out).cell 1;have j2:=(gq.out.upd hu3 fM.out).cell 2;have j3:=(gq.out.upd hu3 fM.out).cell 3;simp only[Qz,Qs]at e0 e1 e2 e3 j0 j1 j2 j3);go_roundg (gk-1)
      case measure=>omega
      case rel=>
       exact⟨k+1,true,some ⟨g',0,none⟩,c',xs++[a],by omega,by go_num,rfl,by simp,HS,by simp;omega,by simpa[Zi,Edge.cells]using aB,bC.out.then_ hu3 fun i e=> .inr (by have:=eQ.out i e;omega),gq.out.upd hu3 fM.out⟩
     ·rw[if_neg hxa]at ag;have hb:(x != a)=true:=by rw[bne_iff_ne];exact hxa
      have HS:=Qh ag;clear ag hxa
      go_wp2_with (at_builtin;(first
       |(refine ZX rfl rfl ZQ (v:= .slice A5 xs.length c5) (n:=xs.length) (xs:=Zi xs) (cells:=[Qi a.f,Qi a.t,Qi a.k,Qi a.key]) (by rfl) rfl am rfl rfl (by omega) (by omega) (by omega) ?_;intro g' c' w2 aB hu3 eM eL;have e0:=(lJ.out.upd hu3 br.out).cell 0;have e1:=(lJ.out.upd hu3 br.out).cell 1;have e2:=(lJ.out.upd hu3 br.out).cell 2;have e3:=(lJ.out.upd hu3 br.out).cell 3;have j0:=(gq.out.upd hu3 fM.out).cell 0;have j1:=(gq.out.upd hu3 fM.out).cell 1;have j2:=(gq.out.upd hu3 fM.out).cell 2;have j3:=(gq.out.upd hu3 fM.out).cell 3;simp only[Qz,Qs]at e0 e1 e2 e3 j0 j1 j2 j3;have dB:=hu3.size;have bJ:=Qh (bC.out.then_ hu3 fun i e=> .inr (by have:=eQ.out i e;omega));have Bc:=Qh (gq.out.upd hu3 fM.out);have rA:=Qh (fun i e=>(aB.lt i e).1);have te:=Qh (show¬Own (.slice (some ⟨g',0,none⟩) (xs.length+1) c') w.heap.size from fun e=>by have:=rA.out _ e;omega);clear eM hu3)
       |(refine ZX rfl rfl ZQ (v:= .slice (some ⟨g',0,none⟩) (xs.length+1) c') (n:=xs.length+1) (xs:=Zi xs++[Qi a.f,Qi a.t,Qi a.k,Qi a.key]) (cells:=[Qi x.f,Qi x.t,Qi x.k,Qi x.key]) (by rfl) rfl aB rfl rfl (by omega) (by omega) (by omega) ?_;intro g5 c6 w3 qr hu5 Ei C0)))
      go_roundg (gk-1)
      case measure=>omega
      case rel=>
       exact⟨k+1,true,some ⟨g5,0,none⟩,c6,xs++[a]++[x],by omega,by go_num,rfl,by simp,HS,by simp;omega,by simpa[Zi,Edge.cells]using qr,bJ.out.then_ hu5 fun i e=> .inr (by have:=rA.out i e;omega),Bc.out.upd hu5 te.out⟩
    ·have hxa:¬x=a:=fun e=>Zl0 a (e▸hr)
     rw[hr,if_neg hxa]at ag;rw[hr]at HR;simp only[Bool.not_false,Bool.not_true,Bool.and_false,Bool.or_false]at ag;rw[if_neg (show¬(false=true) by decide)]at ag;have hb:(x != a)=true:=by rw[bne_iff_ne];exact hxa
     have HS:=Qh ag;clear ag hxa;unfold Edge.cells at HR;go_wp2_with fail;refine Ck (HR.out _) fun w1 hu1=>?_;have bX1:=BX.out.upd hu1 id;have bA1:=BA.out.upd hu1 id;obtain⟨f0,f1,f2,f3⟩:=bA1.c4;obtain⟨e0,e1,e2,e3⟩:=bX1.c4;have am:=Za az hu1 Qo;have dj:=hu1.size;simp only[Ge]at dj;have bC:=Qh (dG.out.trans hu1);have gq:=Qh bA1;clear bX1 bA1 az hu1;go_wp2_with (at_builtin;refine ZX rfl rfl ZQ (v:= .slice A5 xs.length c5) (n:=xs.length) (xs:=Zi xs) (cells:=[Qi x.f,Qi x.t,Qi x.k,Qi x.key]) (by rfl) rfl am rfl rfl (by omega) (by omega) (by omega) ?_;intro g' c' w2 aB hu3 eM eL);go_roundg (gk-1)
     case measure=>omega
     case rel=>
      exact⟨k+1,false,some ⟨g',0,none⟩,c',xs++[x],by omega,by go_num,rfl,by simp,HS,by simp;omega,by simpa[Zi,Edge.cells]using aB,bC.out.then_ hu3 fun i e=> .inr (by have:=eQ.out i e;omega),gq.out.upd hu3 fM.out⟩
   ·simp only[Bool.not_true,Bool.false_and,Bool.true_or]at ag;rw[if_neg (show¬(false=true) by decide)]at ag
    by_cases hxa:x=a
    ·rw[if_pos hxa,Fv]at ag;have hb:(x != a)=false:=by rw[hxa];simp
     have HS:=Qh ag;clear ag hxa HR;go_wp2;go_roundg (gk-1);exact⟨k+1,true,A5,c5,xs,by omega,by go_num,rfl,rfl,HS,by omega,az,dG.out,BA.out⟩;omega
    ·rw[if_neg hxa]at ag;have hb:(x != a)=true:=by rw[bne_iff_ne];exact hxa
     have HS:=Qh ag;clear ag hxa HR;go_wp2_with (at_builtin;refine ZX rfl rfl ZQ (base:=w.heap.size+1) (n:=xs.length) (xs:=Zi xs) (v:= .slice A5 xs.length c5) (cells:=[Qi x.f,Qi x.t,Qi x.k,Qi x.key]) (c:=1) (by rfl) (by show Value.slice (some ⟨wr.heap.size+1,0,none⟩) 1 1=_;simp) az rfl rfl (by omega) (by omega) (by simp;omega) ?_;intro g' c' w2 aB hu3 eM eL);go_roundg (gk-1)
     case measure=>omega
     case rel=>
      exact⟨k+1,true,some ⟨g',0,none⟩,c',xs++[x],by omega,by go_num,rfl,by simp,HS,by simp;omega,by simpa[Zi,Edge.cells]using aB,dG.out.then_ hu3 fun i e=> .inr (by have:=eQ.out i e;omega),BA.out.upd hu3 fM.out⟩
  ·obtain rfl:k=l.length:=by omega
   have ag:=hs.out;rw[Fq]at ag;have gw:=cf.lt;have hzz:=hu.size;have HL:=Qh (Zaf xs);have eQ:=Qh (fun i e=>(ae.lt i e).1);obtain⟨d0,d1,d2,d3⟩:=cf.c4;clear cf
   cases b
   ·have HS:Hid (xs++[a]=ZbC a false [] l):=Qh ag;clear ag;go_wp2_with (at_builtin;refine ZX rfl rfl ZQ (v:= .slice A5 xs.length c5) (n:=xs.length) (xs:=Zi xs) (cells:=[Qi a.f,Qi a.t,Qi a.k,Qi a.key]) (by rfl) rfl ae rfl rfl (by omega) (by omega) (by omega) ?_;intro g' c' w2 aB hu3 eM eL);go_ret;rw[<-HS.out];refine⟨some ⟨g',0,none⟩,c',by simp,Zz (by simpa[Zi,Edge.cells]using aB) (by omega),hu.then_ hu3 fun i e=> .inr (by have:=eQ.out i e;omega)⟩
   ·have HS:Hid (xs=ZbC a false [] l):=Qh ag;clear ag;go_wp2;go_ret;rw[<-HS.out];exact⟨A5,c5,rfl,Zz ae (by omega),hu⟩
theorem Zmk{p:Edge->Bool}{l:List Edge}{k:Nat}{x:Edge}(hk:k<l.length)(hx:l[k]=x)(hr:p x=false):(l.take (k+1)).filter p=(l.take k).filter p:=by
 subst hx;rw[Es hk,List.filter_append,List.filter_cons_of_neg (by rw[hr];decide)];simp
theorem ZkN{p:Edge->Bool}{l:List Edge}{k:Nat}{x:Edge}(hk:k<l.length)(hx:l[k]=x)(hr:p x=true):(l.take (k+1)).filter p=(l.take k).filter p++[x]:=by
 subst hx;rw[Es hk,List.filter_append,List.filter_cons_of_pos (by rw[hr])];rfl
theorem Zpt(w:Gy)(mask kind:Int):CN 92 #[Qi mask,Qi kind] w (.bool (Zl mask kind)):=by
 have u0:=Qh ((Gg No w).alloc (.cells #[Qi 1,Qi 2,Qi 4,Qi 8] 3))
 by_cases h1:kind<1
 ·have hv:Hid (Zl mask kind=false):=Qh (by unfold Zl;rw[Qf (show¬1<=kind by omega)];rfl);have d1:decide (1<=kind)=false:=Qf (by omega);go_enter Tryz.func92,Tryz.ntmps92;go_wp2;go_ret;exact⟨by rw[hv.out];rfl,u0.out⟩
 ·have d1:decide (1<=kind)=true:=Qt (by omega)
  by_cases h2:3<kind
  ·have hv:Hid (Zl mask kind=false):=Qh (by unfold Zl;rw[d1,Qf (show¬kind<=3 by omega)];rfl);have d2:decide (kind<=3)=false:=Qf (by omega);go_enter Tryz.func92,Tryz.ntmps92;go_wp2;go_ret;exact⟨by rw[hv.out];rfl,u0.out⟩
  ·have hk:kind=1∨kind=2∨kind=3:=by omega
   clear h1 h2 d1;rcases hk with rfl|rfl|rfl
   ·have hv:=Qh (Zsa mask);go_enter Tryz.func92,Tryz.ntmps92;go_wp2;go_ret;exact⟨congrArg (fun b=>Ending.returned (.bool b)) hv.out,u0.out⟩
   ·have hv:=Qh (Zr9 mask);go_enter Tryz.func92,Tryz.ntmps92;go_wp2;go_ret;exact⟨congrArg (fun b=>Ending.returned (.bool b)) hv.out,u0.out⟩
   ·have hv:=Qh (Zr8 mask);go_enter Tryz.func92,Tryz.ntmps92;go_wp2;go_ret;exact⟨congrArg (fun b=>Ending.returned (.bool b)) hv.out,u0.out⟩
theorem ZnU(F:Gt)(w:Gy)(A:OA)(c:Nat)(l:List Edge)(mask:Int)(h:Walk F w A l)(hl:l.length<=1000000):
  Calls Tryz.prog 90 #[.slice A l.length c,Qi mask] w (Zhf w (l.filter fun x=>Zl mask x.k)):=by
 have HA:=Qh h;clear h;go_enter Tryz.func90,Tryz.ntmps90;go_wp2
 go_loopg [5,10] l.length (fun gk s i wr=>∃(k:Nat) (A5:OA) (c5:Nat) (xs:List Edge),k+gk=l.length∧i= Qi k∧s= .slice A5 xs.length c5∧Hid (xs=(l.take k).filter fun x=>Zl mask x.k)∧xs.length<=k∧
  wr.ownsRow w.heap.size 94 4 (.slice A5 xs.length c5) xs.length (Zi xs)∧Upd No w wr)
 case atStart=>exact⟨0,none,0,[],by omega,rfl,rfl,Qh (by simp),by simp,Gf _ _ _ _,Gg _ _⟩
 case round=>
  obtain⟨k,A5,c5,xs,aK,rfl,rfl,aV,hxl,ae,hu⟩:=hrel
  by_cases hlt:k<l.length
  ·obtain⟨ax,rfl,q0,q1,q2,q3⟩:=(HA.out.upd hu Qo).at_ hlt;obtain⟨x,hx⟩:=Qe (l[k]);rw[hx]at q0 q1 q2 q3;have X:=Qh hx;clear hx;have b1:(0:Int)<=(k:Int):=Qn _;have b2:(k:Int)<(l.length:Int):=by omega
   have uA:=(Gg No wr).alloc (.cells #[Qi x.f,Qi x.t,Qi x.k,Qi x.key] 94);have bo:=Gh wr 94 [Qi x.f,Qi x.t,Qi x.k,Qi x.key];have az:=Za ae uA Qo;have g0:=bo.cell 2;simp only[Qz,Qs]at g0;have dD:=Qh (fun W=>Zpt W mask x.k)
   cases hr:Zl mask x.k
   ·rw[hr]at dD;have HS:=Qh (Zmk (p:=fun x=>Zl mask x.k) hlt X.out hr);clear hr;go_wp2_with fail;refine Ck (dD.out _) fun w1 hu1=>?_;have dG:=Qh ((hu.trans uA).trans hu1);have am:=Za az hu1 Qo;clear az uA hu1;go_wp2;go_roundg (gk-1);exact⟨k+1,A5,c5,xs,by omega,by go_num,rfl,Qh (by rw[HS.out,aV.out]),by omega,am,dG.out⟩;omega
   ·rw[hr]at dD;have HS:=Qh (ZkN (p:=fun x=>Zl mask x.k) hlt X.out hr);clear hr;go_wp2_with fail;refine Ck (dD.out _) fun w1 hu1=>?_;have bo1:=bo.upd hu1 id;obtain⟨g1,g2,g3,g4⟩:=bo1.c4;have am:=Za az hu1 Qo;have dj:=(uA.trans hu1).size;have gw:=hu.size;have dG:=Qh ((hu.trans uA).trans hu1);have HL:=Qh (Zaf xs);clear az uA hu1 bo1;go_wp2_with (at_builtin;refine ZX rfl rfl ZQ (v:= .slice A5 xs.length c5) (cells:=[Qi x.f,Qi x.t,Qi x.k,Qi x.key]) (by rfl) rfl am rfl rfl (by omega) (by omega) (by omega) ?_;intro g' c' w2 aB hu3 eM eL);go_roundg (gk-1)
    case measure=>omega
    case rel=>
     refine⟨k+1,some ⟨g',0,none⟩,c',xs++[x],by omega,by go_num,by simp,Qh (by rw[HS.out,aV.out]),by simp;omega,by simpa[Zi,Edge.cells]using aB,dG.out.then_ hu3 fun i e=>?_⟩;exact .inr (am.lt i e).1
  ·obtain rfl:k=l.length:=by omega
   have Hx:=Qh (show(l.filter fun x=>Zl mask x.k)=xs by rw[aV.out,Fj]);clear aV;go_wp2;go_ret;rw[Hx.out];exact⟨A5,c5,rfl,ae,hu⟩
theorem Ze8(a:Edge):∀l:List Edge,(Zca a l).map Edge.arc=ZcS a.arc (l.map Edge.arc)
 |[]=>rfl
 |x::l=>by
  have hf:∀m:List Edge,(m.filter fun y=> !(y==a)).map Edge.arc=(m.map Edge.arc).filter fun y=> !(y==a.arc):=by
   intro m
   induction m with
   |nil=>rfl
   |cons y m ih=>
    have hb:(y==a)=(y.arc==a.arc):=by
     rw[Bool.eq_iff_iff,beq_iff_eq,beq_iff_eq];exact⟨fun e=>by rw[e],fun e=>by rw[<-Zgj y,<-Zgj a,e]⟩
    rw[Gb,List.filter_cons,List.filter_cons,hb]
    split
    ·rw[Gb,ih]
    ·exact ih
  show(if ltE x a=true then x::Zca a l else a::(x::l).filter (fun y=> !(y==a))).map Edge.arc=(if Zbb x.arc a.arc=true then x.arc::ZcS a.arc (l.map Edge.arc) else a.arc::((x::l).map Edge.arc).filter (fun y=> !(y==a.arc)))
  rw[ZeH]
  split
  ·rw[Gb,Ze8 a l]
  ·rw[Gb,hf]
/- Closed walks:which edges do not count. -/
def Za4(mask:Int)(e:Edge):Bool:=decide (e.k<1)||(decide (3<e.k)|| !Zj mask e.k)
theorem ZsC(w:Gy)(p:Addr)(mask:Int)(hp:w.cell? p=some (Qi mask))(e:Edge):
  Calls Tryz.prog 68 #[.agg e.cells.toArray,.pointer (some p)] w fun x w'=>x= .returned (.bool (Za4 mask e))∧Upd No w w':=by
 obtain⟨ef,et,ek,ey⟩:=e;have u0:=(Gg No w).alloc (.cells #[Qi ef,Qi et,Qi ek,Qi ey] 94);have cV:=u0.keepNo hp;have U0:=Qh u0;unfold Edge.cells;clear u0
 by_cases h1:ek<1
 ·have hv:Hid (Za4 mask ⟨ef,et,ek,ey⟩=true):=Qh (by unfold Za4;rw[Qt h1];rfl);have d1:decide (ek<1)=true:=Qt h1;go_enter Tryz.func68,Tryz.ntmps68;go_wp2;go_ret;exact⟨by rw[hv.out];rfl,U0.out⟩
 ·have d1:decide (ek<1)=false:=Qf h1
  by_cases h2:3<ek
  ·have hv:Hid (Za4 mask ⟨ef,et,ek,ey⟩=true):=Qh (by unfold Za4;rw[d1,Qt h2];rfl);have d2:decide (3<ek)=true:=Qt h2;go_enter Tryz.func68,Tryz.ntmps68;go_wp2;go_ret;exact⟨by rw[hv.out];rfl,U0.out⟩
  ·have hk:ek=1∨ek=2∨ek=3:=by omega
   clear d1 h1 h2;rcases hk with rfl|rfl|rfl
   ·have hv:Hid (Za4 mask ⟨ef,et,1,ey⟩=(bits .and .i64 (mask/2) 1==0)):=Qh (by rw[Zdc];rfl);go_enter Tryz.func68,Tryz.ntmps68;go_wp2;go_ret;exact⟨by rw[hv.out];rfl,U0.out⟩
   ·have hv:Hid (Za4 mask ⟨ef,et,2,ey⟩=(bits .and .i64 (mask/4) 1==0)):=Qh (by rw[Zdc];rfl);go_enter Tryz.func68,Tryz.ntmps68;go_wp2;go_ret;exact⟨by rw[hv.out];rfl,U0.out⟩
   ·have hv:Hid (Za4 mask ⟨ef,et,3,ey⟩=(bits .and .i64 (mask/8) 1==0)):=Qh (by rw[Zdc];rfl);go_enter Tryz.func68,Tryz.ntmps68;go_wp2;go_ret;exact⟨by rw[hv.out];rfl,U0.out⟩
