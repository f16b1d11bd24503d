/- Closed walks, plain: ids and their ranks; what the first of the shortest is. -/
import Derived.Sort.Row
import Derived.Test.YtdbjokfejmgepaaProg
import Derived.Shelf.SlicesG.CompactI
import Derived.Test.YtdbjokfejmgepaaRaah
import Derived.Test.YtdbjokfejmgepaaRaak
import Derived.Test.YtdbjokfejmgepaaRaam
import Derived.Test.YtdbjokfejmgepaaRabd
import Derived.Test.YtdbjokfejmgepaaRabl
import Derived.Test.YtdbjokfejmgepaaRabn
namespace Go.Proofs.Ytdbjokfejmgepaa
set_option linter.unusedVariables false
set_option linter.unusedSimpArgs false
section
open Go.RowKit
def rk:List Int→Int→Int
 |[],_=>0
 |a::s,x=>if a<x then rk s x+1 else 0
theorem Zcv:∀(s:List Int) (x:Int),0≤rk s x∧rk s x≤(s.length:Int)
 |[],x=>by simp[rk]
 |a::s,x=>by
  have:=Zcv s x;unfold rk;simp only[List.length_cons]
  split<;>omega
theorem Zii:∀{s:List Int} {x:Int},(∀y∈s,x≤y)→rk s x=0
 |[],_,_=>rfl
 |a::s,x,h=>by
  unfold rk;rw[if_neg (by have:=h a List.mem_cons_self;omega)]
theorem Zel:∀{s:List Int} {x y:Int},s.Pairwise (·<·)→x∈s→x<y→rk s x<rk s y
 |[],x,y,_,h,_=>by cases h
 |a::s,x,y,hs,h,hxy=>by
  rw[List.pairwise_cons]at hs;rcases List.mem_cons.1 h with rfl|h
  ·have e1:rk (x::s) x=0:=Zii fun z hz=>by
    rcases List.mem_cons.1 hz with rfl|hz
    ·exact Int.le_refl _
    ·exact Int.le_of_lt (hs.1 z hz)
   rw[e1];unfold rk;rw[if_pos hxy];have:=Zcv s y;omega
  ·have h1:=hs.1 x h;have h2:=Zel hs.2 h hxy;unfold rk;rw[if_pos h1,if_pos (by omega)];omega
theorem Znd {s:List Int} {x y:Int} (hs:s.Pairwise (·<·)) (hx:x∈s) (h:x≤y):rk s x≤rk s y:=by
 rcases Classical.em (x=y)with rfl|e
 ·exact Int.le_refl _
 ·have:=Zel hs hx (show x<y by omega);omega
theorem Zbk:∀{s:List Int} {x:Int},s.Pairwise (·<·)→x∈s→rk s x<(s.length:Int)∧s.getD (rk s x).toNat 0=x
 |[],x,_,h=>by cases h
 |a::s,x,hs,h=>by
  rw[List.pairwise_cons]at hs;rcases List.mem_cons.1 h with rfl|h
  ·have e1:rk (x::s) x=0:=Zii fun z hz=>by
    rcases List.mem_cons.1 hz with rfl|hz
    ·exact Int.le_refl _
    ·exact Int.le_of_lt (hs.1 z hz)
   rw[e1];simp
  ·have h1:=hs.1 x h;have h2:=Zbk hs.2 h;have h3:=Zcv s x;unfold rk;rw[if_pos h1];refine⟨by simp only[List.length_cons];omega,?_⟩;rw[show(rk s x+1).toNat=(rk s x).toNat+1 by omega,List.getD_cons_succ];exact h2.2
theorem ZhL {s:List Int} {i:Int} (h0:0≤i) (h1:i<(s.length:Int)):s.getD i.toNat 0∈s:=by
 rw[List.getD_eq_getElem?_getD,Qg (show i.toNat<s.length by omega)];exact List.getElem_mem _
theorem ZfZ {s:List Int} {i:Int} (hs:s.Pairwise (·<·)) (h0:0≤i) (h1:i<(s.length:Int)):rk s (s.getD i.toNat 0)=i:=by
 have hm:=ZhL h0 h1;have h2:=Zbk hs hm;have h3:=Zcv s (s.getD i.toNat 0);have hp:=List.pairwise_iff_getElem.1 hs;rw[List.getD_eq_getElem?_getD,List.getD_eq_getElem?_getD]at h2;rw[List.getD_eq_getElem?_getD]at h3 ⊢;have hi:i.toNat<s.length:=by omega
 rw[Qg hi]at h2 h3 ⊢;simp only[Option.getD_some]at h2 h3 ⊢;have hj:(rk s s[i.toNat]).toNat<s.length:=by omega
 rw[Qg hj]at h2;simp only[Option.getD_some]at h2;rcases Nat.lt_trichotomy (rk s s[i.toNat]).toNat i.toNat with e|e|e
 ·have:=hp _ _ hj hi e;omega
 ·omega
 ·have:=hp _ _ hi hj e;omega
theorem Zir {s:List Int} {i j:Int} (hs:s.Pairwise (·<·)) (h0:0≤i) (h1:j<(s.length:Int)) (h:i≤j):s.getD i.toNat 0≤s.getD j.toNat 0:=by
 rcases Classical.em (i=j)with rfl|e
 ·exact Int.le_refl _
 ·refine Classical.byContradiction fun hc=> ?_
  have:=Zel hs (ZhL (s:=s) (i:=j) (by omega) h1) (show s.getD j.toNat 0<s.getD i.toNat 0 by omega);rw[ZfZ hs h0 (by omega),ZfZ hs (by omega) h1]at this;omega
def toR (ids keys:List Int) (a:HArc):HArc:=⟨rk ids a.f,rk ids a.t,a.kind,rk keys a.label⟩
def unR (ids keys:List Int) (a:HArc):HArc:=⟨ids.getD a.f.toNat 0,ids.getD a.t.toNat 0,a.kind,keys.getD a.label.toNat 0⟩
structure Rk (D:List HArc) (ids keys:List Int) (q:List HArc):Prop where
 si:ids.Pairwise (·<·)
 sk:keys.Pairwise (·<·)
 mi:∀a∈D,a.f∈ids∧a.t∈ids
 ml:∀a∈D,a.label∈keys
 mq:∀b,b∈q↔∃a∈D,b=toR ids keys a
section
variable {D:List HArc} {ids keys:List Int} {q:List HArc}
theorem Rk.un (h:Rk D ids keys q) {a:HArc} (ha:a∈D):unR ids keys (toR ids keys a)=a:=by
 obtain⟨h1,h2⟩:=h.mi a ha;have h3:=h.ml a ha;obtain⟨af,at',ak,al⟩:=a;simp only at h1 h2 h3;unfold unR toR;simp only[(Zbk h.si h1).2,(Zbk h.si h2).2,(Zbk h.sk h3).2]
theorem Rk.to (h:Rk D ids keys q) {b:HArc} (hb:b∈q):unR ids keys b∈D∧toR ids keys (unR ids keys b)=b:=by
 obtain⟨a,ha,rfl⟩:=(h.mq b).1 hb;rw[h.un ha];exact⟨ha,rfl⟩
theorem Rk.less (h:Rk D ids keys q) {a b:HArc} (ha:a∈D) (hb:b∈D):Zaf a b=true→Zaf (toR ids keys a) (toR ids keys b)=true:=by
 have a1:=h.mi a ha;have b1:=h.mi b hb;have a2:=h.ml a ha;have b2:=h.ml b hb;rw[Zcp,Zcp];unfold toR;simp only;rintro(e|⟨e1,e|⟨e2,e|⟨e3,e⟩⟩⟩)
 ·exact .inl (Zel h.si a1.1 e)
 ·exact .inr ⟨by rw[e1],.inl e⟩
 ·exact .inr ⟨by rw[e1],.inr ⟨e2,.inl (Zel h.sk a2 e)⟩⟩
 ·exact .inr ⟨by rw[e1],.inr ⟨e2,.inr ⟨by rw[e3],Zel h.si a1.2 e⟩⟩⟩
theorem Rk.less_un (h:Rk D ids keys q) {a b:HArc} (ha:a∈q) (hb:b∈q) (hl:Zaf a b=true):Zaf (unR ids keys a) (unR ids keys b)=true:=by
 have ha':=h.to ha;have hb':=h.to hb;refine Classical.byContradiction fun hc=> ?_
 rcases Classical.em (unR ids keys a=unR ids keys b)with e|e
 ·have:a=b:=by rw[←ha'.2,←hb'.2,e]
  rw[this]at hl;exact ZbE b hl
 ·have:=h.less hb'.1 ha'.1 (Zgx _ _ hc e);rw[ha'.2,hb'.2]at this;exact ZbE a (Zc5 a b a hl this)
theorem Rk.lex_un (h:Rk D ids keys q):∀{l m:List HArc},(∀a∈l,a∈q)→(∀a∈m,a∈q)→ZdD l m→ZdD (l.map (unR ids keys)) (m.map (unR ids keys))
 |[],m,_,_,hl=>by cases m<;>exact hl.elim
 |a::l,[],_,_,hl=>hl.elim
 |a::l,b::m,ha,hb,hl=>by
  rcases hl with e|⟨e,hl⟩
  ·exact .inl (h.less_un (ha a List.mem_cons_self) (hb b List.mem_cons_self) e)
  ·exact .inr ⟨by rw[e],h.lex_un (fun x hx=>ha x (List.mem_cons_of_mem _ hx)) (fun x hx=>hb x (List.mem_cons_of_mem _ hx)) hl⟩
theorem Rk.up (h:Rk D ids keys q) {least v:Int} (hl:least∈ids):∀{l:List HArc} {u:Int},okW D least u l v→u∈ids→okW q (rk ids least) (rk ids u) (l.map (toR ids keys)) (rk ids v)
 |[],u,hw,_=>by
  have hw:u=v:=hw;rw[hw];exact rfl
 |a::l,u,hw,hu=>by
  obtain⟨ha,haf,hlu,hw⟩:=hw;exact⟨(h.mq _).2 ⟨a,ha,rfl⟩,by unfold toR;simp only;rw[haf],Znd h.si hl hlu,h.up hl hw (h.mi a ha).2⟩
theorem Rk.down (h:Rk D ids keys q) {i k:Int} (hi:0≤i):∀{l:List HArc} {j:Int},okW q i j l k→0≤j→j<(ids.length:Int)→okW D (ids.getD i.toNat 0) (ids.getD j.toNat 0) (l.map (unR ids keys)) (ids.getD k.toNat 0)
 |[],j,hw,_,_=>by
  have hw:j=k:=hw;rw[hw];exact rfl
 |a::l,j,hw,h0,h1=>by
  obtain⟨ha,haf,hij,hw⟩:=hw;have ha':=h.to ha;obtain⟨b,hb,e⟩:=(h.mq a).1 ha;have ht:a.t=rk ids b.t:=by rw[e];rfl
  have h2:=Zcv ids b.t;have h3:=Zbk h.si (h.mi b hb).2;refine⟨ha'.1,by show ids.getD a.f.toNat 0=_;rw[haf],Zir h.si hi h1 hij,?_⟩;exact h.down hi hw (by omega) (by omega)
end
theorem ZeZ {f:HArc→HArc} (hf:∀a,(f a).kind=a.kind) (must:Int) (l:List HArc):Zj must (l.map f)=Zj must l:=by
 unfold Zj;rw[List.any_map]
 congr 1
 funext a
 show isM must (f a)=isM must a
 unfold isM;rw[hf]
structure Short (D:List HArc) (must:Int) (need:Bool) (v:Int) (c:List HArc):Prop where
 ne:c≠[]
 w:okW D v v c v
 m:need=true→Zj must c=true
 le:∀u c',c'≠[]→okW D u u c' u→(need=true→Zj must c'=true)→c.length≤c'.length∧(c.length=c'.length→v≤u∧(v=u→c'=c∨ZdD c c'))
def NoWay (D:List HArc) (must:Int) (need:Bool):Prop:=∀u c',c'≠[]→okW D u u c' u→(need=true→Zj must c'=true)→False
theorem ZeU:∀{l m:List HArc},ZdD l m→ZdD m l→False
 |[],m,h,_=>by cases m<;>exact h.elim
 |a::l,[],h,_=>h.elim
 |a::l,b::m,h,k=>by
  rcases h with h|⟨e,h⟩
  ·rcases k with k|⟨e,k⟩
   ·exact ZbE a (Zc5 a b a h k)
   ·rw[e]at h;exact ZbE a h
  ·rcases k with k|⟨e2,k⟩
   ·rw[e]at k;exact ZbE b k
   ·exact ZeU h k
theorem Short.same {D:List HArc} {must:Int} {need:Bool} {v u:Int} {c d:List HArc} (h:Short D must need v c) (k:Short D must need u d):v=u∧c=d:=by
 have h1:=h.le u d k.ne k.w k.m;have k1:=k.le v c h.ne h.w h.m;have hl:c.length=d.length:=by omega
 have h2:=h1.2 hl;have k2:=k1.2 hl.symm;have hv:v=u:=by omega
 refine⟨hv,?_⟩;rcases h2.2 hv with e|e
 ·exact e.symm
 ·rcases k2.2 hv.symm with e2|e2
  ·exact e2
  ·exact(ZeU e e2).elim
theorem Short.some {D:List HArc} {must:Int} {need:Bool} {v:Int} {c:List HArc} (h:Short D must need v c) (k:NoWay D must need):False:=k v c h.ne h.w h.m
theorem Short.simple {D:List HArc} {must:Int} {need:Bool} {v:Int} {c:List HArc} (h:Short D must need v c):c.Pairwise fun a b=>a.f≠b.f:=
 Ziz h.w h.m (fun c' h1 h2 h3=>(h.le v c' h1 h2 h3).1) (fun u c' h1 h2 h3=>(h.le u c' h1 h2 h3).1)
theorem Rk.short {D:List HArc} {ids keys:List Int} {q:List HArc} (h:Rk D ids keys q) {must:Int} {need:Bool} {i:Int} {c:List HArc} (hi:0≤i) (h1:i<(ids.length:Int)) (k:Short q must need i c):
  Short D must need (ids.getD i.toNat 0) (c.map (unR ids keys)):=by
 have hM:=fun l=>ZeZ (f:=unR ids keys) (fun _=>rfl) must l
 have hM2:=fun l=>ZeZ (f:=toR ids keys) (fun _=>rfl) must l
 refine⟨by have:=k.ne;simpa using this,h.down hi k.w hi h1,fun e=>by rw[hM];exact k.m e,fun u c' n1 n2 n3=> ?_⟩
 have hu:u∈ids:=by
  cases c' with
  |nil=>exact absurd rfl n1
  |cons a l=>rw[←n2.2.1];exact(h.mi a n2.1).1
 have k1:=k.le (rk ids u) (c'.map (toR ids keys)) (by simpa using n1) (h.up hu n2 hu) (fun e=>by rw[hM2];exact n3 e);rw[List.length_map]at k1 ⊢;refine⟨k1.1,fun e=> ?_⟩;have k2:=k1.2 e;have hr:=Zbk h.si hu;have hr0:=Zcv ids u;refine⟨?_,fun e2=> ?_⟩
 ·have:=Zir h.si hi hr.1 k2.1;rw[hr.2]at this;exact this
 ·have e3:i=rk ids u:=by rw[←e2,ZfZ h.si hi h1]
  have hback:(c'.map (toR ids keys)).map (unR ids keys)=c':=by
   rw[List.map_map]
   conv=>rhs;rw[←List.map_id c']
   exact List.map_congr_left fun a ha=>h.un (Zbb n2 a ha)
  rcases k2.2 e3 with e4|e4
  ·left
   rw[←e4,hback]
  ·right
   have:=h.lex_un (Zbb k.w) (fun a ha=>by
    obtain⟨b,hb,rfl⟩:=List.mem_map.1 ha;exact(h.mq _).2 ⟨b,Zbb n2 b hb,rfl⟩) e4
   rw[hback]at this;exact this
theorem Rk.none {D:List HArc} {ids keys:List Int} {q:List HArc} (h:Rk D ids keys q) {must:Int} {need:Bool} (k:NoWay q must need):NoWay D must need:=by
 intro u c' n1 n2 n3
 have hu:u∈ids:=by
  cases c' with
  |nil=>exact absurd rfl n1
  |cons a l=>rw[←n2.2.1];exact(h.mi a n2.1).1
 exact k (rk ids u) (c'.map (toR ids keys)) (by simpa using n1) (h.up hu n2 hu) (fun e=>by rw[ZeZ (f:=toR ids keys) (fun _=>rfl)];exact n3 e)
theorem Zi1 {N:Nat} {q:List HArc} (hr:∀a∈q,ZO N a=true) (hs:Zak q) (mask must:Int) (need:Bool) (ks:Int→Int) (ws:Int→List HArc)
  (hk:∀i:Int,0≤i→i<(N:Int)→ks i=ZbK (ofA mask q) must i (Ze6 N q mask i) (Zcd N q mask must i) need)
  (hk2:∀i:Int,0≤i→(N:Int)≤i→ks i=0) (hk3:∀i:Int,i<0→ks i=0)
  (hw:∀i:Int,0≤i→i<(N:Int)→ws i=Za7 (ofA mask q) must i (Ze6 N q mask i) (Zcd N q mask must i) (ks i).toNat i need):
  (ZaX ks ws N=[]∧NoWay (ofA mask q) must need)∨∃v,0≤v∧v<(N:Int)∧Short (ofA mask q) must need v (ZaX ks ws N):=by
 have hloop:∀i:Int,0≤i→i<(N:Int)→LoopD (ofA mask q) must i (Ze6 N q mask i) (Zcd N q mask must i):=fun i h0 h1=>ZeT hr mask must i h0 h1
 have hso:Zak (ofA mask q):=hs.filter _
 have hwalk:∀i:Int,0<ks i→(0≤i∧i<(N:Int))∧okW (ofA mask q) i i (ws i) i∧((ws i).length:Int)=ks i∧(need=true→Zj must (ws i)=true)∧∀l,okW (ofA mask q) i i l i→(l.length:Int)=ks i→(need=true→Zj must l=true)→l=ws i∨ZdD (ws i) l:=by
  intro i h0
  have h1:0≤i:=by
   refine Classical.byContradiction fun hc=> ?_
   rw[hk3 i (by omega)]at h0;omega
  have h2:i<(N:Int):=by
   refine Classical.byContradiction fun hc=> ?_
   rw[hk2 i h1 (by omega)]at h0;omega
  have hL:=hloop i h1 h2;have h3:=hk i h1 h2;obtain⟨c,c1,c2,c3,c4⟩:=Zj7 hL need (by rw[←h3];exact h0)
  have hsp:=Zfc hso hL (ZmJ hr mask must i h1 h2) (Zle hr mask must i h1 h2) (ks i).toNat i need (Int.le_refl _) ⟨c,c2,by omega,c4⟩ (fun l l1 l2 l3=>by
   have:=(Zg6 hL need l1 l2 l3).2;omega)
  rw[←hw i h1 h2]at hsp;exact⟨⟨h1,h2⟩,hsp.1,by have:=hsp.2.1;omega,hsp.2.2.1,fun l l1 l2 l3=>hsp.2.2.2 l l1 (by omega) l3⟩
 have hcl:∀u c',c'≠[]→okW (ofA mask q) u u c' u→(need=true→Zj must c'=true)→0≤u∧u<(N:Int)∧0<ks u∧ks u≤(c'.length:Int):=by
  intro u c' n1 n2 n3
  have hu:0≤u∧u<(N:Int):=by
   cases c' with
   |nil=>exact absurd rfl n1
   |cons a l=>
    have:=(ZbL _ _).1 (hr a (mem_ofA.1 n2.1).1);rw[←n2.2.1];exact⟨this.1,this.2.1⟩
  have:=Zg6 (hloop u hu.1 hu.2) need n1 n2 n3;rw[←hk u hu.1 hu.2]at this;exact⟨hu.1,hu.2,this.1,this.2⟩
 rcases ZfL ks ws (fun i h0=>(hwalk i h0).2.2.1) N with ⟨e,h⟩|⟨i,hi,h0,e,h1,h2⟩
 ·refine .inl ⟨e,fun u c' n1 n2 n3=> ?_⟩;have:=hcl u c' n1 n2 n3;obtain⟨n,rfl⟩:∃n:Nat,u=(n:Int):=⟨u.toNat,by omega⟩;exact h n (by omega) this.2.2.1
 ·obtain⟨k1,k2,k3,k4,k5⟩:=hwalk (i:Int) h0;refine .inr ⟨(i:Int),by omega,by omega,?_⟩;rw[e];refine⟨fun e=>by rw[e]at k3;simp at k3;omega,k2,k4,fun u c' n1 n2 n3=> ?_⟩;obtain⟨u1,u2,u3,u4⟩:=hcl u c' n1 n2 n3;obtain⟨n,rfl⟩:∃n:Nat,u=(n:Int):=⟨u.toNat,by omega⟩;have h3:=h1 n (by omega) u3;refine⟨by omega,fun hl=>⟨?_,fun hv=> ?_⟩⟩
  ·refine Classical.byContradiction fun hc=> ?_
   exact h2 n (by omega) ⟨u3,by omega⟩
  ·have hv2:i=n:=by omega
   subst hv2;exact k5 c' n2 (by omega) n3
theorem Short.more {D D':List HArc} {must:Int} {need:Bool} {v u:Int} {c d:List HArc} (h:Short D must need v c) (hD:∀a∈D,a∈D') (k:Short D' must need u d):d.length≤c.length:=
 (k.le v c h.ne (ZcF hD (Int.le_refl _) h.w) h.m).1
theorem Zfu {p p':List HArc} {least:Int}:∀{l:List HArc} {u v:Int},okW p least u l v→(∀a∈l,a∈p')→okW p' least u l v
 |[],u,v,h,_=>h
 |a::l,u,v,h,hp=>⟨hp a List.mem_cons_self,h.2.1,h.2.2.1,Zfu h.2.2.2 (fun x hx=>hp x (List.mem_cons_of_mem _ hx))⟩
theorem Short.less {D D':List HArc} {must:Int} {need:Bool} {v:Int} {c:List HArc} (h:Short D must need v c) (hD:∀a∈D',a∈D) (hc:∀a∈c,a∈D'):Short D' must need v c:=
 ⟨h.ne,Zfu h.w hc,h.m,fun u c' n1 n2 n3=>h.le u c' n1 (ZcF hD (Int.le_refl _) n2) n3⟩
theorem Short.must {D:List HArc} {must must':Int} {need:Bool} {v:Int} {c:List HArc} (h:Short D must need v c) (hm:∀a∈D,isM must a=isM must' a):Short D must' need v c:=by
 have hh:∀l:List HArc,(∀a∈l,a∈D)→Zj must l=Zj must' l:=by
  intro l hl;unfold Zj
  induction l with
  |nil=>rfl
  |cons a l ih=>rw[List.any_cons,List.any_cons,hm a (hl a List.mem_cons_self),ih (fun x hx=>hl x (List.mem_cons_of_mem _ hx))]
 exact⟨h.ne,h.w,fun e=>by rw[←hh c (Zbb h.w)];exact h.m e,fun u c' n1 n2 n3=>h.le u c' n1 n2 (fun e=>by rw[hh c' (Zbb n2)];exact n3 e)⟩
theorem NoWay.must {D:List HArc} {must must':Int} {need:Bool} (h:NoWay D must need) (hm:∀a∈D,isM must a=isM must' a):NoWay D must' need:=by
 have hh:∀l:List HArc,(∀a∈l,a∈D)→Zj must l=Zj must' l:=by
  intro l hl;unfold Zj
  induction l with
  |nil=>rfl
  |cons a l ih=>rw[List.any_cons,List.any_cons,hm a (hl a List.mem_cons_self),ih (fun x hx=>hl x (List.mem_cons_of_mem _ hx))]
 exact fun u c' n1 n2 n3=>h u c' n1 n2 (fun e=>by rw[hh c' (Zbb n2)];exact n3 e)
end
/- Closed walks,plain:the document's search tells the same. -/
section
open Go.RowKit
def Zh (mask k:Int):Bool:=decide (1≤k)&&(decide (k≤3)&&Zau mask k)
def Edge.arc (e:Edge):HArc:=⟨e.f,e.t,e.k,e.key⟩
def HArc.edge (a:HArc):Edge:=⟨a.f,a.t,a.kind,a.label⟩
theorem ZdL (e:Edge):e.arc.edge=e:=rfl
theorem ZkJ (a:HArc):a.edge.arc=a:=rfl
def Zbl (must:Int) (pa pn:List Int) (b:List Int) (e:Edge):List Int:=
 if decide (e.t∈pn)=true then Zd e.f (if (decide (e.t∈pa)&&Zh must e.k)=true then Zd e.f b else b) else (if (decide (e.t∈pa)&&Zh must e.k)=true then Zd e.f b else b)
def Zbm (pa:List Int) (a:List Int) (e:Edge):List Int:=if decide (e.t∈pa)=true then Zd e.f a else a
def ZI (must:Int) (pa pn:List Int):List Int→List Int→List Edge→List Int×List Int
 |a,b,[]=>(a,b)
 |a,b,e::l=>ZI must pa pn (Zbm pa a e) (Zbl must pa pn b e) l
def Zf (must:Int) (l:List Edge) (tgt:Int):Nat→List Int×List Int
 |0=>([tgt],[])
 |n+1=>ZI must (Zf must l tgt n).1 (Zf must l tgt n).2 [] [] l
theorem ZjF (pa a:List Int) (e:Edge) (u:Int):u∈Zbm pa a e↔u∈a∨(e.t∈pa∧u=e.f):=by
 unfold Zbm
 split
 ·rename_i h
  have h:=of_decide_eq_true h;rw[Z9]
  constructor
  ·rintro(e|e)
   ·exact .inr ⟨h,e⟩
   ·exact .inl e
  ·rintro(e|⟨_,e⟩)
   ·exact .inr e
   ·exact .inl e
 ·rename_i h
  have h:¬e.t∈pa:=fun e=>h (decide_eq_true e)
  exact⟨.inl,fun e=>e.elim id fun e=>absurd e.1 h⟩
theorem ZjE (must:Int) (pa pn b:List Int) (e:Edge) (u:Int):u∈Zbl must pa pn b e↔u∈b∨(u=e.f∧((e.t∈pa∧Zh must e.k=true)∨e.t∈pn)):=by
 have h1:∀x:List Int,(u∈(if (decide (e.t∈pa)&&Zh must e.k)=true then Zd e.f x else x))↔u∈x∨(u=e.f∧(e.t∈pa∧Zh must e.k=true)):=by
  intro x
  split
  ·rename_i h
   rw[Bool.and_eq_true,decide_eq_true_eq]at h;rw[Z9]
   constructor
   ·rintro(e|e)
    ·exact .inr ⟨e,h⟩
    ·exact .inl e
   ·rintro(e|⟨e,_⟩)
    ·exact .inr e
    ·exact .inl e
  ·rename_i h
   rw[Bool.and_eq_true,decide_eq_true_eq]at h;exact⟨.inl,fun e=>e.elim id fun e=>absurd e.2 h⟩
 unfold Zbl
 split
 ·rename_i h
  have h:=of_decide_eq_true h;rw[Z9,h1]
  constructor
  ·rintro(e|e|e)
   ·exact .inr ⟨e,.inr h⟩
   ·exact .inl e
   ·exact .inr ⟨e.1,.inl e.2⟩
  ·rintro(e|⟨e,k|k⟩)
   ·exact .inr (.inl e)
   ·exact .inl e
   ·exact .inl e
 ·rename_i h
  have h:¬e.t∈pn:=fun e=>h (decide_eq_true e)
  rw[h1]
  constructor
  ·rintro(e|e)
   ·exact .inl e
   ·exact .inr ⟨e.1,.inl e.2⟩
  ·rintro(e|⟨e,k|k⟩)
   ·exact .inl e
   ·exact .inr ⟨e,k⟩
   ·exact absurd k h
theorem Zfy (must:Int) (pa pn:List Int) (u:Int):∀(l:List Edge) (a b:List Int),u∈(ZI must pa pn a b l).1↔u∈a∨∃e∈l,e.t∈pa∧u=e.f
 |[],a,b=>by simp[ZI]
 |e::l,a,b=>by
  show u∈(ZI must pa pn (Zbm pa a e) (Zbl must pa pn b e) l).1↔_
  rw[Zfy must pa pn u l,ZjF]
  constructor
  ·rintro((h|h)|⟨x,hx,h⟩)
   ·exact .inl h
   ·exact .inr ⟨e,List.mem_cons_self,h⟩
   ·exact .inr ⟨x,List.mem_cons_of_mem _ hx,h⟩
  ·rintro(h|⟨x,hx,h⟩)
   ·exact .inl (.inl h)
   ·rcases List.mem_cons.1 hx with rfl|hx
    ·exact .inl (.inr h)
    ·exact .inr ⟨x,hx,h⟩
theorem Zfx (must:Int) (pa pn:List Int) (u:Int):∀(l:List Edge) (a b:List Int),u∈(ZI must pa pn a b l).2↔u∈b∨∃e∈l,u=e.f∧((e.t∈pa∧Zh must e.k=true)∨e.t∈pn)
 |[],a,b=>by simp[ZI]
 |e::l,a,b=>by
  show u∈(ZI must pa pn (Zbm pa a e) (Zbl must pa pn b e) l).2↔_
  rw[Zfx must pa pn u l,ZjE]
  constructor
  ·rintro((h|h)|⟨x,hx,h⟩)
   ·exact .inl h
   ·exact .inr ⟨e,List.mem_cons_self,h⟩
   ·exact .inr ⟨x,List.mem_cons_of_mem _ hx,h⟩
  ·rintro(h|⟨x,hx,h⟩)
   ·exact .inl (.inl h)
   ·rcases List.mem_cons.1 hx with rfl|hx
    ·exact .inl (.inr h)
    ·exact .inr ⟨x,hx,h⟩
section
variable {l:List Edge} {must lo:Int}
theorem ZbC (hlo:∀e∈l,lo≤e.f) (tgt:Int):∀(n:Nat) (u:Int),u∈(Zf must l tgt n).1↔∃c,okW (l.map Edge.arc) lo u c tgt∧c.length=n
 |0,u=>by
  show u∈[tgt]↔_
  rw[List.mem_singleton]
  constructor
  ·intro e;exact⟨[],e,rfl⟩
  ·rintro⟨c,h,hl⟩;have:c=[]:=List.eq_nil_of_length_eq_zero hl;subst this;exact h
 |n+1,u=>by
  show u∈(ZI must (Zf must l tgt n).1 (Zf must l tgt n).2 [] [] l).1↔_
  rw[Zfy]
  constructor
  ·rintro(h|⟨e,he,h1,h2⟩)
   ·cases h
   ·obtain⟨c,k1,k2⟩:=(ZbC hlo tgt n e.t).1 h1;exact⟨e.arc::c,⟨List.mem_map.2 ⟨e,he,rfl⟩,h2.symm,by rw[h2];exact hlo e he,k1⟩,by simp[k2]⟩
  ·rintro⟨c,k1,k2⟩
   cases c with
   |nil=>simp at k2
   |cons a c=>
    obtain⟨ha,haf,_,k1⟩:=k1;obtain⟨e,he,rfl⟩:=List.mem_map.1 ha;exact .inr ⟨e,he,(ZbC hlo tgt n e.t).2 ⟨c,k1,by simpa using k2⟩,haf.symm⟩
theorem ZdI {e:Edge} (h1:1≤e.k) (h2:e.k≤3):Zh must e.k=isM must e.arc:=by
 unfold Zh isM;rw[decide_eq_true h1,decide_eq_true h2];rfl
theorem ZcX (hlo:∀e∈l,lo≤e.f) (hk:∀e∈l,1≤e.k∧e.k≤3) (tgt:Int):∀(n:Nat) (u:Int),u∈(Zf must l tgt n).2↔∃c,okW (l.map Edge.arc) lo u c tgt∧c.length=n∧Zj must c=true
 |0,u=>by
  show u∈[]↔_
  constructor
  ·intro e
   cases e
  ·rintro⟨c,h,hl,hm⟩;have:c=[]:=List.eq_nil_of_length_eq_zero hl;subst this
   cases hm
 |n+1,u=>by
  show u∈(ZI must (Zf must l tgt n).1 (Zf must l tgt n).2 [] [] l).2↔_
  rw[Zfx]
  constructor
  ·rintro(h|⟨e,he,h2,⟨h1,h3⟩|h1⟩)
   ·cases h
   ·obtain⟨c,k1,k2⟩:=(ZbC hlo tgt n e.t).1 h1;rw[ZdI (hk e he).1 (hk e he).2]at h3;exact⟨e.arc::c,⟨List.mem_map.2 ⟨e,he,rfl⟩,h2.symm,by rw[h2];exact hlo e he,k1⟩,by simp[k2],by rw[Zaq,h3];rfl⟩
   ·obtain⟨c,k1,k2,k3⟩:=(ZcX hlo hk tgt n e.t).1 h1;exact⟨e.arc::c,⟨List.mem_map.2 ⟨e,he,rfl⟩,h2.symm,by rw[h2];exact hlo e he,k1⟩,by simp[k2],by rw[Zaq,k3];simp⟩
  ·rintro⟨c,k1,k2,k3⟩
   cases c with
   |nil=>simp at k2
   |cons a c=>
    obtain⟨ha,haf,_,k1⟩:=k1;obtain⟨e,he,rfl⟩:=List.mem_map.1 ha;refine .inr ⟨e,he,haf.symm,?_⟩;rw[Zaq,Bool.or_eq_true]at k3;rcases k3 with k3|k3
    ·exact .inl ⟨(ZbC hlo tgt n e.t).2 ⟨c,k1,by simpa using k2⟩,by rw[ZdI (hk e he).1 (hk e he).2];exact k3⟩
    ·exact .inr ((ZcX hlo hk tgt n e.t).2 ⟨c,k1,by simpa using k2,k3⟩)
end
def isR (must:Int) (pa pn:List Int) (here:Int) (need:Bool) (e:Edge):Bool:=
 e.f==here&&(if (need&& !Zh must e.k)=true then decide (e.t∈pn) else decide (e.t∈pa))
def Zm (must:Int) (l:List Edge) (rows:Nat→List Int×List Int):Nat→Int→Bool→List Edge
 |0,_,_=>[]
 |n+1,here,need=>match l.find? (isR must (rows n).1 (rows n).2 here need)with
  |some e=>e::Zm must l rows n e.t (need&& !Zh must e.k)
  |none=>Zm must l rows n here need
theorem ZcH (a b:Edge):ltE a b=Zaf a.arc b.arc:=by
 unfold ltE Zaf Edge.arc;simp only[ne_eq]
 by_cases h1:a.f=b.f
 ·rw[if_neg (by simpa using h1),if_pos h1]
  by_cases h2:a.k=b.k
  ·rw[if_neg (by simpa using h2),if_pos h2]
   by_cases h3:a.key=b.key
   ·rw[if_neg (by simpa using h3),if_pos h3]
   ·rw[if_pos h3,if_neg h3]
  ·rw[if_pos h2,if_neg h2]
 ·rw[if_pos h1,if_neg h1]
theorem ZeG {l:List Edge} {must lo:Int} (hs:l.Pairwise fun a b=>ltE a b=true) (hlo:∀e∈l,lo≤e.f) (hk:∀e∈l,1≤e.k∧e.k≤3) (tgt:Int):
  ∀(n:Nat) (here:Int) (need:Bool),(∃c,okW (l.map Edge.arc) lo here c tgt∧c.length=n∧(need=true→Zj must c=true))→
   okW (l.map Edge.arc) lo here ((Zm must l (Zf must l tgt) n here need).map Edge.arc) tgt∧(Zm must l (Zf must l tgt) n here need).length=n∧(need=true→Zj must ((Zm must l (Zf must l tgt) n here need).map Edge.arc)=true)∧
    ∀c,okW (l.map Edge.arc) lo here c tgt→c.length=n→(need=true→Zj must c=true)→c=(Zm must l (Zf must l tgt) n here need).map Edge.arc∨ZdD ((Zm must l (Zf must l tgt) n here need).map Edge.arc) c
 |0,here,need,⟨c,k1,k2,k3⟩=>by
  have:c=[]:=List.eq_nil_of_length_eq_zero k2;subst this;exact⟨k1,rfl,k3,fun l _ h2 _=> .inl (List.eq_nil_of_length_eq_zero h2)⟩
 |n+1,here,need,⟨c,k1,k2,k3⟩=>by
  have tailM:∀(e:Edge) (l:List HArc),(need=true→(isM must e.arc||Zj must l)=true)→((need&& !isM must e.arc)=true→Zj must l=true):=by
   intro e l hm hn;rw[Bool.and_eq_true]at hn;have h1:=hm hn.1;have h2:isM must e.arc=false:=by simpa using hn.2
   rw[h2,Bool.false_or]at h1;exact h1
  have headM:∀(e:Edge) (l:List HArc),((need&& !isM must e.arc)=true→Zj must l=true)→(need=true→(isM must e.arc||Zj must l)=true):=by
   intro e l hm hn
   by_cases h:isM must e.arc=true
   ·rw[h];rfl
   ·have e2:isM must e.arc=false:=by simpa using h
    rw[hm (by rw[hn,e2];rfl)];simp
  have good:∀(e:Edge),e∈l→(isR must (Zf must l tgt n).1 (Zf must l tgt n).2 here need e=true↔e.f=here∧∃m,okW (l.map Edge.arc) lo e.t m tgt∧m.length=n∧(need=true→(isM must e.arc||Zj must m)=true)):=by
   intro e he;unfold isR;rw[Bool.and_eq_true,beq_iff_eq,ZdI (hk e he).1 (hk e he).2];refine and_congr_right fun _=> ?_
   split
   ·rename_i hn
    rw[decide_eq_true_eq,ZcX hlo hk]
    constructor
    ·rintro⟨m,m1,m2,m3⟩;exact⟨m,m1,m2,fun _=>by rw[m3];simp⟩
    ·rintro⟨m,m1,m2,m3⟩;exact⟨m,m1,m2,tailM e m m3 hn⟩
   ·rename_i hn
    rw[decide_eq_true_eq,ZbC hlo]
    constructor
    ·rintro⟨m,m1,m2⟩;refine⟨m,m1,m2,fun e2=> ?_⟩;rw[e2,Bool.true_and]at hn;have:isM must e.arc=true:=by simpa using hn
     rw[this];rfl
    ·rintro⟨m,m1,m2,_⟩;exact⟨m,m1,m2⟩
  cases c with
  |nil=>simp at k2
  |cons a0 c0=>
   obtain⟨ha0,haf0,_,k1⟩:=k1;obtain⟨e0,he0,rfl⟩:=List.mem_map.1 ha0;have g0:=(good e0 he0).2 ⟨haf0,c0,k1,by simpa using k2,k3⟩
   obtain⟨e,hfe⟩:∃e,l.find? (isR must (Zf must l tgt n).1 (Zf must l tgt n).2 here need)=some e:=by
    rw[←Option.isSome_iff_exists,List.find?_isSome];exact⟨e0,he0,g0⟩
   have hme:=List.mem_of_find?_eq_some hfe;obtain⟨hef,m,m1,m2,m3⟩:=(good e hme).1 (List.find?_some hfe)
   have hfr:Zm must l (Zf must l tgt) (n+1) here need=e::Zm must l (Zf must l tgt) n e.t (need&& !Zh must e.k):=by
    show(match l.find? (isR must (Zf must l tgt n).1 (Zf must l tgt n).2 here need)with|some e=>e::Zm must l (Zf must l tgt) n e.t (need&& !Zh must e.k)|none=>Zm must l (Zf must l tgt) n here need)=_
    rw[hfe]
   rw[ZdI (hk e hme).1 (hk e hme).2]at hfr;have ih:=ZeG hs hlo hk tgt n e.t (need&& !isM must e.arc) ⟨m,m1,m2,tailM e m m3⟩;rw[hfr,List.map_cons];refine⟨⟨List.mem_map.2 ⟨e,hme,rfl⟩,hef,by rw[←hef];exact hlo e hme,ih.1⟩,by simp[ih.2.1],fun hn=>by rw[Zaq];exact headM e _ ih.2.2.1 hn,fun c hw hl hm=> ?_⟩
   cases c with
   |nil=>simp at hl
   |cons b c=>
    obtain⟨hb,hbf,_,hw⟩:=hw;obtain⟨x,hx,rfl⟩:=List.mem_map.1 hb
    by_cases hxe:x=e
    ·subst hxe;rcases ih.2.2.2 c hw (by simpa using hl) (tailM x c hm)with h|h
     ·exact .inl (by rw[h])
     ·exact .inr (.inr ⟨rfl,h⟩)
    ·refine .inr (.inl ?_);have gx:=(good x hx).2 ⟨hbf,c,hw,by simpa using hl,hm⟩;obtain⟨l8,l9,h1,h2⟩:=(List.find?_eq_some_iff_append.1 hfe).2;rw[h1]at hx hs;rw[←ZcH];rcases List.mem_append.1 hx with hx|hx
     ·have:=h2 x hx;rw[gx]at this
      cases this
     ·rcases List.mem_cons.1 hx with hx|hx
      ·exact absurd hx hxe
      ·exact(List.pairwise_cons.1 (List.pairwise_append.1 hs).2.1).1 x hx
def inR (hit:Nat→Bool) (most:Nat) (id:Int):Nat→Nat→Nat×Int→Nat×Int
 |0,_,s=>s
 |g+1,i,s=>if (decide (i≤most)&&(s.1==0||decide (i<s.1)))=true then inR hit most id g (i+1) (if hit i=true then (i,id) else s) else s
def ZaS (hit:Int→Nat→Bool) (most:Nat):List Int→Nat×Int→Nat×Int
 |[],s=>s
 |id::l,s=>ZaS hit most l (inR (hit id) most id most 1 s)
theorem ZkA {hit:Nat→Bool} {most:Nat} {id:Int}:∀(g i:Nat) (s:Nat×Int),s.1≠0→s.1≤i→inR hit most id g i s=s
 |0,_,_,_,_=>rfl
 |g+1,i,s,h1,h2=>by
  unfold inR;rw[if_neg];rw[Bool.and_eq_true,Bool.or_eq_true,beq_iff_eq,decide_eq_true_eq,decide_eq_true_eq];omega
theorem ZhF {hit:Nat→Bool} {most:Nat} {id:Int}:∀(g i:Nat) (s:Nat×Int),1≤i→g+i=most+1→
  (inR hit most id g i s=s∧∀j,i≤j→j≤most→(s.1=0∨j<s.1)→hit j=false)∨
   (∃k,i≤k∧k≤most∧(s.1=0∨k<s.1)∧hit k=true∧inR hit most id g i s=(k,id)∧∀j,i≤j→j<k→hit j=false)
 |0,i,s,_,hg=> .inl ⟨rfl,fun j h1 h2 _=>by omega⟩
 |g+1,i,s,hi,hg=>by
  unfold inR
  by_cases hc:(decide (i≤most)&&(s.1==0||decide (i<s.1)))=true
  ·rw[if_pos hc];rw[Bool.and_eq_true,Bool.or_eq_true,beq_iff_eq,decide_eq_true_eq,decide_eq_true_eq]at hc
   by_cases hh:hit i=true
   ·rw[if_pos hh];exact .inr ⟨i,Nat.le_refl _,hc.1,hc.2,hh,ZkA g (i+1) (i,id) (by show i≠0;omega) (by show i≤i+1;omega),fun j h1 h2=>by omega⟩
   ·rw[if_neg hh];have hf:hit i=false:=by simpa using hh
    rcases ZhF (hit:=hit) (most:=most) (id:=id) g (i+1) s (by omega) (by omega)with ⟨e,h⟩|⟨k,k1,k2,k3,k4,k5,k6⟩
    ·refine .inl ⟨e,fun j h1 h2 h3=> ?_⟩;rcases Nat.eq_or_lt_of_le h1 with e1|e1
     ·rw[←e1];exact hf
     ·exact h j e1 h2 h3
    ·refine .inr ⟨k,by omega,k2,k3,k4,k5,fun j h1 h2=> ?_⟩;rcases Nat.eq_or_lt_of_le h1 with e1|e1
     ·rw[←e1];exact hf
     ·exact k6 j e1 h2
  ·rw[if_neg hc];rw[Bool.and_eq_true,Bool.or_eq_true,beq_iff_eq,decide_eq_true_eq,decide_eq_true_eq]at hc;refine .inl ⟨rfl,fun j h1 h2 h3=> ?_⟩
   exfalso
   apply hc
   omega
def ZfS (hit:Int→Nat→Bool) (most:Nat) (ids:List Int) (s:Nat×Int):Prop:=
 (s.1=0∧∀x∈ids,∀j,1≤j→j≤most→hit x j=false)∨
  (1≤s.1∧s.1≤most∧s.2∈ids∧hit s.2 s.1=true∧∀x∈ids,∀j,1≤j→j≤most→hit x j=true→s.1≤j∧(x<s.2→s.1<j))
theorem Zcx {hit:Int→Nat→Bool} {most:Nat}:∀(l ids:List Int) (s:Nat×Int),(ids++l).Pairwise (·<·)→ZfS hit most ids s→ZfS hit most (ids++l) (ZaS hit most l s)
 |[],ids,s,_,h=>by rw[List.append_nil];exact h
 |x::l,ids,s,hp,h=>by
  have hlt:∀y∈ids,y<x:=fun y hy=>(List.pairwise_append.1 hp).2.2 y hy x List.mem_cons_self
  have key:ZfS hit most (ids++[x]) (inR (hit x) most x most 1 s):=by
   rcases ZhF (hit:=hit x) (id:=x) most 1 s (Nat.le_refl _) rfl with ⟨e,k⟩|⟨k,k1,k2,k3,k4,k5,k6⟩
   ·rw[e];rcases h with ⟨h1,h2⟩|⟨h1,h2,h3,h4,h5⟩
    ·refine .inl ⟨h1,fun y hy j j1 j2=> ?_⟩;rcases List.mem_append.1 hy with hy|hy
     ·exact h2 y hy j j1 j2
     ·rw[List.mem_singleton]at hy;subst hy;exact k j j1 j2 (.inl h1)
    ·refine .inr ⟨h1,h2,List.mem_append_left _ h3,h4,fun y hy j j1 j2 hh=> ?_⟩;rcases List.mem_append.1 hy with hy|hy
     ·exact h5 y hy j j1 j2 hh
     ·rw[List.mem_singleton]at hy;subst hy;have hsx:=hlt _ h3;refine⟨?_,fun e2=>by omega⟩;refine Classical.byContradiction fun hc=> ?_
      rw[k j j1 j2 (.inr (by omega))]at hh
      cases hh
   ·rw[k5];refine .inr ⟨k1,k2,List.mem_append_right _ (List.mem_singleton.2 rfl),k4,fun y hy j j1 j2 hh=> ?_⟩;rcases List.mem_append.1 hy with hy|hy
    ·rcases h with ⟨h1,h2⟩|⟨h1,h2,h3,h4,h5⟩
     ·rw[h2 y hy j j1 j2]at hh
      cases hh
     ·have:=(h5 y hy j j1 j2 hh).1
      show k≤j∧(y<x→k<j)
      omega
    ·rw[List.mem_singleton]at hy;subst hy
     show k≤j∧(y<y→k<j)
     refine⟨?_,fun e2=>by omega⟩;refine Classical.byContradiction fun hc=> ?_
     rw[k6 j j1 (by omega)]at hh
     cases hh
  show ZfS hit most (ids++x::l) (ZaS hit most l (inR (hit x) most x most 1 s))
  rw[show ids++x::l=(ids++[x])++l by simp];exact Zcx l (ids++[x]) _ (by rw[show(ids++[x])++l=ids++x::l by simp];exact hp) key
def ZH (must:Int) (need:Bool) (l:List Edge) (id:Int) (i:Nat):Bool:=
 if need=true then decide (id∈(Zf must l id i).2) else decide (id∈(Zf must l id i).1)
theorem ZeY {l:List Edge} {must lo:Int} (hlo:∀e∈l,lo≤e.f) (hk:∀e∈l,1≤e.k∧e.k≤3) (need:Bool) (id:Int) (i:Nat):
  ZH must need l id i=true↔∃c,okW (l.map Edge.arc) lo id c id∧c.length=i∧(need=true→Zj must c=true):=by
 unfold ZH
 split
 ·rename_i h
  rw[decide_eq_true_eq,ZcX hlo hk];exact⟨fun⟨c,a,b,d⟩=>⟨c,a,b,fun _=>d⟩,fun⟨c,a,b,d⟩=>⟨c,a,b,d h⟩⟩
 ·rename_i h
  rw[decide_eq_true_eq,ZbC hlo];exact⟨fun⟨c,a,b⟩=>⟨c,a,b,fun e=>absurd e h⟩,fun⟨c,a,b,_⟩=>⟨c,a,b⟩⟩
theorem ZcO {p:List HArc} {must least u:Int} {c:List HArc} (h:okW p least u c u) (hc:c≠[]):∃v c',c'≠[]∧okW p v v c' v∧c'.length=c.length∧Zj must c'=Zj must c∧v≤u∧∀b∈c,v≤b.f:=by
 obtain⟨a,ha,hmin⟩:=Zd7 hc
 have hu:a.f≤u:=by
  cases c with
  |nil=>exact absurd rfl hc
  |cons b l=>rw[←h.2.1];exact hmin b List.mem_cons_self
 obtain⟨l1,l2,e,h1,h2⟩:=ZeQ h ha;subst e;refine⟨a.f,(a::l2)++l1,by simp,?_,by simp only[List.length_append,List.length_cons];omega,by rw[ZaK,ZaK,Bool.or_comm],hu,hmin⟩;refine ZcU (Zcy h2 h1) fun b hb=>hmin b ?_
 rcases List.mem_append.1 hb with hb|hb
 ·exact List.mem_append_right _ hb
 ·exact List.mem_append_left _ hb
theorem Zgr:∀{l m:List Int},l.Pairwise (·≠·)→(∀x∈l,x∈m)→l.length≤m.length
 |[],m,_,_=>by simp
 |a::l,m,h,hm=>by
  rw[List.pairwise_cons]at h;have ha:=hm a List.mem_cons_self;have ih:=Zgr (l:=l) (m:=m.erase a) h.2 (fun x hx=>(List.mem_erase_of_ne (fun e=>h.1 x hx e.symm)).2 (hm x (List.mem_cons_of_mem _ hx)));rw[List.length_erase_of_mem ha]at ih;have:=List.length_pos_of_mem ha;simp only[List.length_cons];omega
theorem Zfs {l:List Edge} {must lo:Int} {need:Bool} {ids:List Int} (hlo:∀e∈l,lo≤e.f) (hk:∀e∈l,1≤e.k∧e.k≤3) (hp:ids.Pairwise (·<·)) (most:Nat) (h:NoWay (l.map Edge.arc) must need):(ZaS (ZH must need l) most ids (0,0)).1=0:=by
 have hF:=Zcx (hit:=ZH must need l) (most:=most) ids [] (0,0) hp (.inl ⟨rfl,fun x hx=>by cases hx⟩);rw[List.nil_append]at hF;rcases hF with h1|⟨h1,h2,h3,h4,h5⟩
 ·exact h1.1
 ·exfalso
  obtain⟨c,c1,c2,c3⟩:=(ZeY hlo hk need _ _).1 h4;have hc:c≠[]:=fun e=>by rw[e]at c2;simp at c2;omega
  obtain⟨v,c',k1,k2,k3,k4,_⟩:=ZcO (must:=must) c1 hc;exact h v c' k1 k2 (fun e=>by rw[k4];exact c3 e)
theorem Zh5 {l:List Edge} {must lo:Int} {need:Bool} {ids:List Int} (hs:l.Pairwise fun a b=>ltE a b=true) (hlo:∀e∈l,lo≤e.f) (hk:∀e∈l,1≤e.k∧e.k≤3) (hp:ids.Pairwise (·<·)) (hids:∀e∈l,e.f∈ids)
  {most:Nat} (hmost:ids.length≤most) {v:Int} {c:List HArc} (h:Short (l.map Edge.arc) must need v c):
  ZaS (ZH must need l) most ids (0,0)=(c.length,v)∧(Zm must l (Zf must l v) c.length v need).map Edge.arc=c:=by
 have hmem:∀a∈c,a.f∈ids:=fun a ha=>by
  obtain⟨e,he,rfl⟩:=List.mem_map.1 (Zbb h.w a ha);exact hids e he
 have hlv:lo≤v:=by
  have hw:=h.w
  cases c with
  |nil=>exact absurd rfl h.ne
  |cons a c=>
   obtain⟨e,he,e2⟩:=List.mem_map.1 hw.1;rw[←hw.2.1,←e2];exact hlo e he
 have hvi:v∈ids:=by
  have hw:=h.w
  cases hc:c with
  |nil=>exact absurd hc h.ne
  |cons a d=>
   rw[hc]at hw;rw[←hw.2.1];exact hmem a (by rw[hc];exact List.mem_cons_self)
 have hcl:c.length≤ids.length:=by
  have:=Zgr (l:=c.map HArc.f) (m:=ids) (List.pairwise_map.2 h.simple) (fun x hx=>by
   obtain⟨a,ha,rfl⟩:=List.mem_map.1 hx;exact hmem a ha)
  rwa [List.length_map]at this
 have hc1:1≤c.length:=by
  cases hc:c with
  |nil=>exact absurd hc h.ne
  |cons a d=>simp
 have hwlo:okW (l.map Edge.arc) lo v c v:=ZcF (fun _=>id) hlv h.w;have hhit:ZH must need l v c.length=true:=(ZeY hlo hk need v c.length).2 ⟨c,hwlo,rfl,h.m⟩;have hF:=Zcx (hit:=ZH must need l) (most:=most) ids [] (0,0) hp (.inl ⟨rfl,fun x hx=>by cases hx⟩);rw[List.nil_append]at hF
 constructor
 ·rcases hF with ⟨h1,h2⟩|⟨h1,h2,h3,h4,h5⟩
  ·rw[h2 v hvi c.length hc1 (by omega)]at hhit
   cases hhit
  ·have h6:=h5 v hvi c.length hc1 (by omega) hhit;obtain⟨d,d1,d2,d3⟩:=(ZeY hlo hk need _ _).1 h4;have hd:d≠[]:=fun e=>by rw[e]at d2;simp at d2;omega
   obtain⟨u,c',k1,k2,k3,k4,k5,_⟩:=ZcO (must:=must) d1 hd;have h7:=h.le u c' k1 k2 (fun e=>by rw[k4];exact d3 e);have h8:c.length=(ZaS (ZH must need l) most ids (0,0)).1:=by omega
   have h9:=(h7.2 (by omega)).1;have h10:¬v<(ZaS (ZH must need l) most ids (0,0)).2:=fun e=>by have:=h6.2 e;omega
   have h11:v=(ZaS (ZH must need l) most ids (0,0)).2:=by omega
   rw[h8,h11]
 ·obtain⟨r1,r2,r3,r4⟩:=ZeG hs hlo hk v c.length v need ⟨c,hwlo,rfl,h.m⟩;obtain⟨r,hr⟩:∃r,(Zm must l (Zf must l v) c.length v need).map Edge.arc=r:=⟨_,rfl⟩;rw[hr]at r1 r3 r4 ⊢;have hrl:r.length=c.length:=by rw[←hr,List.length_map];exact r2
  have hrn:r≠[]:=fun e=>by rw[e]at hrl;simp at hrl;omega
  obtain⟨u,c',k1,k2,k3,k4,k5,k6⟩:=ZcO (must:=must) r1 hrn;have h7:=h.le u c' k1 k2 (fun e=>by rw[k4];exact r3 e);have h9:=(h7.2 (by omega)).1;have hrv:okW (l.map Edge.arc) v v r v:=ZcU r1 (fun b hb=>Int.le_trans h9 (k6 b hb));have h12:=((h.le v r hrn hrv r3).2 hrl.symm).2 rfl;rcases h12 with e|e
  ·exact e
  ·rcases r4 c hwlo rfl h.m with e2|e2
   ·exact e2.symm
   ·exact(ZeU e e2).elim
end
/- Phenomena,plain:who is reached by edges,as the document seeks it. -/
section
inductive RchE (l:List Edge):Int→Int→Prop
 |refl (a:Int):RchE l a a
 |step {a b:Int} {e:Edge}:RchE l a b→e∈l→e.f=b→RchE l a e.t
theorem RchE.trans {l:List Edge} {a b c:Int} (h:RchE l a b) (k:RchE l b c):RchE l a c:=by
 induction k with
 |refl=>exact h
 |step _ h2 h3 ih=>exact ih.step h2 h3
def Zb2:List Int→List Edge→List Int
 |out,[]=>out
 |out,e::m=>Zb2 (if e.f∈out∧e.t∉out then out++[e.t] else out) m
def itE (l:List Edge):Nat→List Int→List Int
 |0,out=>out
 |n+1,out=>itE l n (Zb2 out l)
def ZP (l:List Edge) (a:Int):List Int:=itE l (l.length+1) [a]
theorem Zfg:∀(l:List Edge) (out:List Int),out.Nodup→(Zb2 out l).Nodup
 |[],_,h=>h
 |e::l,out,h=>by
  unfold Zb2
  apply Zfg
  split
  ·rename_i hc
   exact List.nodup_append.2 ⟨h,by simp,fun x hx y hy=>by rw[List.mem_singleton.1 hy];exact fun e'=>hc.2 (e'▸hx)⟩
  ·exact h
theorem Zha (q:List Edge) (P:Int→Prop) (h1:∀e∈q,P e.f→P e.t):∀(l:List Edge) (out:List Int),(∀e∈l,e∈q)→(∀x∈out,P x)→∀x∈Zb2 out l,P x
 |[],_,_,h=>h
 |e::l,out,hl,h=>by
  unfold Zb2;refine Zha q P h1 l _ (fun b hb=>hl b (List.mem_cons_of_mem _ hb)) ?_
  split
  ·rename_i hc
   intro x hx;rcases List.mem_append.1 hx with hx|hx
   ·exact h x hx
   ·rw[List.mem_singleton.1 hx];exact h1 e (hl e (List.mem_cons_self ..)) (h _ hc.1)
  ·exact h
theorem Zip (l:List Edge) (P:Int→Prop) (h1:∀e∈l,P e.f→P e.t):∀(n:Nat) (out:List Int),(∀x∈out,P x)→∀x∈itE l n out,P x
 |0,_,h=>h
 |n+1,out,h=>Zip l P h1 n _ (Zha l P h1 l out (fun _ h=>h) h)
theorem ZgE (l:List Edge):∀(n:Nat) (out:List Int),out.Nodup→(itE l n out).Nodup
 |0,_,h=>h
 |n+1,out,h=>ZgE l n _ (Zfg l out h)
theorem Zfl (l:List Edge) (a:Int):(ZP l a).length≤l.length+1:=by
 unfold ZP;have h1:=ZdR (itE l (l.length+1) [a]) (a::l.map (·.t)) (ZgE l _ _ (by simp)) (Zip l (fun x=>x∈a::l.map (·.t)) (fun e he _=>List.mem_cons_of_mem _ (List.mem_map.2 ⟨e,he,rfl⟩)) _ _ (fun x hx=>by rw[List.mem_singleton.1 hx];exact List.mem_cons_self ..))
 rwa [List.length_cons,List.length_map]at h1
def ZdV (l:List Edge) (mask must:Int):Bool:=
 let q:=l.filter fun e=>Zh mask e.k
 let sp:=if (bits .and .i64 must 14==0)=true then q else q.filter fun e=>Zh must e.k
 sp.any fun e=>decide (e.f∈ZP q e.t)
end
end Go.Proofs.Ytdbjokfejmgepaa
