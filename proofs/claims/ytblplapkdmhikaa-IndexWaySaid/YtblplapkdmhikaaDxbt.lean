/- An index by its transactions alone. -/
import Derived.Test.YtblplapkdmhikaaDxaq
import Derived.Test.YtblplapkdmhikaaDxat
import Derived.Test.YtblplapkdmhikaaDxbb
import Derived.Test.YtblplapkdmhikaaDxbd
import Derived.Test.YtblplapkdmhikaaDxbs
namespace Go.Proofs.Ytblplapkdmhikaa
set_option linter.unusedVariables false
set_option linter.unusedSimpArgs false
section
open Go.RowKit
theorem Zc4 {l m:List Ver} (hl:l.Pairwise fun a b=>Zs a b=true) (hm:m.Pairwise fun a b=>Zs a b=true) (h:∀x,x∈l↔x∈m):l=m:=by
 have hn:∀l:List Ver,(l.Pairwise fun a b=>Zs a b=true)→l.Nodup:=fun l h=>List.Pairwise.imp (fun {a b} (hab:Zs a b=true) (e:a=b)=>Zby b (by rw[e]at hab;exact hab)) h
 have hp:=(List.perm_ext_iff_of_nodup (hn l hl) (hn m hm)).2 h;exact List.Perm.eq_of_pairwise (le:=fun a b=>Zs a b=true) (fun a b _ _ h1 h2=>absurd (ZaY a b a h1 h2) (Zby a)) hl hm hp
theorem ZaE (p:HTx→Bool):∀q:List HTx,Zk q=Zk (q.filter p)+Zk (q.filter fun t=> !p t)
 |[]=>rfl
 |t::q=>by
  have ih:=ZaE p q;unfold Zk at*
  cases h:p t<;>simp[List.filter_cons,h]<;>omega
theorem ZdN {q:List HTx} (h:Zh q) {id:Int} {t:HTx} (hf:Zb q id=some t):Zk q=Zk (Zc q id)+(t.ops.length+1):=by
 obtain⟨hm,hi⟩:=Z1 hf;have h1:=ZaE (fun t=> !(t.id==id)) q
 have h2:(q.filter fun t=> !(fun t:HTx=> !(t.id==id)) t)=[t]:=by
  have:∀q:List HTx,Zh q→t∈q→(q.filter fun u=>u.id==id)=[t]:=fun q=>by
   induction q with
   |nil=>intro _ hm;cases hm
   |cons x q ih=>
    intro hr hm;unfold Zh at hr;rw[List.map_cons,List.pairwise_cons]at hr;rcases List.mem_cons.1 hm with rfl|hm
    ·rw[List.filter_cons_of_pos (by simpa using hi),List.filter_eq_nil_iff.2 (fun u hu=>by have:=hr.1 u.id (List.mem_map.2 ⟨u,hu,rfl⟩);simp;omega)]
    ·have hx:=hr.1 t.id (List.mem_map.2 ⟨t,hm,rfl⟩);rw[List.filter_cons_of_neg (by simp;omega)];exact ih hr.2 hm
  have h3:=this q h hm;simp only[Bool.not_not];exact h3
 rw[h2]at h1;rw[h1];unfold Zc;simp[Zk]
theorem Zea (q:List HTx) (t:HTx):Zk (ZG q t)=Zk (Zc q t.id)+(t.ops.length+1):=by
 have h1:=ZaE (fun x=>decide (x.id<t.id)) (Zc q t.id)
 have h2:(Zc q t.id).filter (fun x=>decide (x.id<t.id))=q.filter (fun x=>decide (x.id<t.id)):=by
  unfold Zc;rw[List.filter_filter];apply List.filter_congr;intro x _
  by_cases e:x.id<t.id
  ·have:x.id≠t.id:=by omega
   simp[e,this]
  ·simp[e]
 have h3:(Zc q t.id).filter (fun x=> !decide (x.id<t.id))=q.filter (fun x=>decide (t.id<x.id)):=by
  unfold Zc;rw[List.filter_filter];apply List.filter_congr;intro x _;rcases Int.lt_trichotomy x.id t.id with e|e|e
  ·have h4:¬t.id<x.id:=by omega
   simp[e,h4]
  ·simp[e]
  ·have h4:¬x.id<t.id:=by omega
   have h5:x.id≠t.id:=by omega
   simp[e,h4,h5]
 rw[h2,h3]at h1;rw[h1];unfold ZG Zk;simp;omega
theorem ZbG:∀q:List HTx,(∀t∈q,t.ops.length≤4095)→Zk q≤4096*q.length
 |[],_=>by simp[Zk]
 |t::q,h=>by
  have ih:=ZbG q (fun u hu=>h u (List.mem_cons_of_mem _ hu));have h1:=h t List.mem_cons_self;unfold Zk at*;simp only[List.map_cons,List.sum_cons,List.length_cons];omega
theorem Zbj {q:List HTx} (h:okQ q):∀t∈q,t.ops.length≤4095:=fun t ht=>(Zaw (h t ht)).2.1
theorem Zd1 {q:List HTx} (h:Zh q) (p:HTx→Bool) {t:HTx} (ht:t∈q) (hp:p t=false):t.id∉ZZ p q:=fun hm=>by
 obtain⟨u,hu,h1,h2⟩:=(Zah _ _ _).1 hm;rw[ZbK h hu ht h2,hp]at h1
 cases h1
theorem ZfR {q:List HTx} (h:Zh q) {id:Int} {t:HTx} (hf:Zb q id=some t):Zz (Zc q id)=fWd (Zz q) id (ZS t.ops):=by
 obtain⟨hm,hi⟩:=Z1 hf
 funext k
 rw[ZJ,Zdh];unfold fWd;rw[ZJ]
 split
 ·rfl
 ·rename_i hk
  refine Zb9 ?_;rw[←hi];exact Zd1 h _ hm (by unfold Zbg;simp[hk])
theorem ZfY {q:List HTx} (h:Zh q) {id:Int} {t:HTx} (hf:Zb q id=some t):Zt (Zc q id)=fRd (Zt q) id (Zy t):=by
 obtain⟨hm,hi⟩:=Z1 hf
 funext v
 unfold Zt fRd;rw[Zdh]
 split
 ·rfl
 ·rename_i hk
  refine Zb9 ?_;rw[←hi];exact Zd1 h _ hm (by unfold ZaU;simp[hk])
theorem ZfT {q:List HTx} (h:Zh q) {id:Int} {t:HTx} (hf:Zb q id=some t):ZP (Zc q id)=nSd (ZP q) id ((Zy t).map (·.tx)):=by
 funext p
 obtain⟨a,b⟩:=p;unfold ZP nSd;simp only[ZN h]
 by_cases e:a=id
 ·subst e;simp only[if_true,true_and,hf]
  split
  ·rfl
  ·rename_i hb
   rw[eq_comm,List.countP_eq_zero];intro v hv hc;exact hb (List.mem_map.2 ⟨v,hv,by simpa using hc⟩)
 ·simp[e]
theorem ZfQ {q:List HTx} (h:Zh q) {id:Int} {t:HTx} (hf:Zb q id=some t):ZH (Zc q id)=nSd (ZH q) id (ZS t.ops):=by
 funext p
 obtain⟨a,b⟩:=p;unfold ZH Zac nSd;simp only[ZN h]
 by_cases e:a=id
 ·subst e;simp only[if_true,true_and,hf]
  split
  ·rfl
  ·rename_i hb
   have:=ZbP t.ops b;have h2:¬0<Zv t.ops b:=fun hh=>hb (this.2 hh)
   omega
 ·simp[e]
theorem Ze8 {q:List HTx} {id:Int} (hf:Zb q id=none):Zc q id=q:=by
 unfold Zc;rw[List.filter_eq_self];intro t ht;unfold Zb at hf;rw[List.find?_eq_none]at hf
 simpa using hf t ht
theorem Zgw {q:List HTx} (h:Zh q) (t:HTx):Zz (ZG q t)=fWp (Zz (Zc q t.id)) t.id t.done (ZS t.ops):=by
 funext k
 rw[ZJ,Zd0 h];unfold fWp;rw[ZJ]
 by_cases e:Zbg k t=true
 ·rw[if_pos e,if_pos (by unfold Zbg at e;simpa using e)]
 ·rw[if_neg e,if_neg (fun hh=>e (by unfold Zbg;simpa using hh))]
theorem ZgD {q:List HTx} (h:Zh q) (t:HTx):Zt (ZG q t)=fRp (Zt (Zc q t.id)) t.id (Z9 t.id t.ops):=by
 funext v
 unfold Zt fRp;rw[Zd0 h]
 by_cases e:ZaU v t=true
 ·rw[if_pos e,if_pos (by unfold ZaU Zy at e;simpa using e)]
 ·rw[if_neg e,if_neg (fun hh=>e (by unfold ZaU Zy;simpa using hh))]
theorem Zgz {q:List HTx} (h:Zh q) (t:HTx):ZP (ZG q t)=nUp (ZP (Zc q t.id)) t.id (Z9 t.id t.ops):=by
 funext p
 obtain⟨a,b⟩:=p;unfold ZP nUp;simp only[Za9 h,ZN h]
 by_cases e:a=t.id
 ·simp[e,Zy]
 ·simp[e]
theorem Zgv {q:List HTx} (h:Zh q) (t:HTx):ZH (ZG q t)=nSp (ZH (Zc q t.id)) t.id (Zv t.ops) (ZS t.ops):=by
 funext p
 obtain⟨a,b⟩:=p;unfold ZH Zac nSp;simp only[Za9 h,ZN h]
 by_cases e:a=t.id
 ·subst e;simp only[if_true,true_and]
  split
  ·rfl
  ·rename_i hb
   have:=ZbP t.ops b;have h2:¬0<Zv t.ops b:=fun hh=>hb (this.2 hh)
   omega
 ·simp[e]
theorem ZM (p:HTx→Bool) (q:List HTx) {n:Nat} (hn:q.length≤n):(ZZ p q).length≤n:=Nat.le_trans (Zfn p q) hn
section
variable {w:World} {col:Nat→Nat} {g:Nat} {q:List HTx}
def ZgL (w:World) (col:Nat→Nat) (g:Nat) (q:List HTx) (r:Int) (e:Ending) (w':World):Prop:=e= .returned (.int .i64 r)∧∃col',IX w' col' g q∧TurnX w col w' col'
theorem Zeq {bT bW bR bU bS:Nat} (hm:IXm w col g bT bW bR bU bS (Zk q:Int) (Zb q) (Zz q) (Zt q) (ZP q) (ZH q)) (hr:Zh q) (ho:okQ q) (hq:q.length≤200) (id:Int):
  Calls Try.prog 27 #[.pointer (some ⟨g,0,none⟩),.int .i64 id] w fun e w'=>e= .returned (.int .i64 (if (Zb q id).isSome then 0 else 3))∧
   ∃col',IXm w' col' g bT bW bR bU bS (Zk (Zc q id):Int) (Zb (Zc q id)) (Zz (Zc q id)) (Zt (Zc q id)) (ZP (Zc q id)) (ZH (Zc q id))∧TurnX w col w' col':=by
 cases hf:Zb q id with
 |none=>
  refine(Zgh hm id hf).mono ?_;rintro e w' ⟨rfl,hu⟩;refine⟨rfl,col,?_,Ext.refl _ _,hu.mono (fun _ _ e=>e.elim)⟩;rw[Ze8 hf];exact hm.no hu
 |some t=>
  have hl:=Zbj ho;have hw:=ZbG q hl;have hwd:=ZdN hr hf;refine(Zgg hm id t hf (hl t (Z1 hf).1) (by omega) (fun k=>⟨Zas hr _,ZM _ q (by omega)⟩) (fun v=>⟨Zas hr _,ZM _ q (by omega)⟩)).mono ?_;rintro e w' ⟨rfl,col',h1,h2⟩;refine⟨rfl,col',?_,h2⟩;rw[show(Zk (Zc q id):Int)=(Zk q:Int)-((t.ops.length:Int)+1) by omega,show Zb (Zc q id)=(fun k=>if k=id then none else Zb q k) from funext (ZN hr id),ZfR hr hf,ZfY hr hf,ZfT hr hf,ZfQ hr hf];exact h1
theorem ZfI (h:IX w col g q) (hq:q.length≤200) (id:Int):Calls Try.prog 27 #[.pointer (some ⟨g,0,none⟩),.int .i64 id] w (ZgL w col g (Zc q id) (if (Zb q id).isSome then 0 else 3)):=by
 obtain⟨⟨bT,bW,bR,bU,bS,hm⟩,hr,ho⟩:=h;refine(Zeq hm hr ho hq id).mono ?_;rintro e w' ⟨rfl,col',h1,h2⟩;exact⟨rfl,col',⟨⟨bT,bW,bR,bU,bS,h1⟩,ZaI hr id,Zdr ho id⟩,h2⟩
theorem IX.z (h:IX w col g q):∀i,w.heap.size≤i→col i=0:=fun i hi=>by
 obtain⟨⟨bT,bW,bR,bU,bS,hm⟩,_⟩:=h;rcases Classical.em (col i=0)with e|e
 ·exact e
 ·have:=hm.lt i e;omega
theorem Zgt (F:Nat→Prop) (h:IX w col g q) (hq:q.length≤200) (t:HTx) (ht:HOps F w t.A t.ops) (hl:Zd t.ops.length) (hF:∀i,F i→col i=0):
  Calls Try.prog 23 #[.pointer (some ⟨g,0,none⟩),.agg #[.int .i64 t.id,.bool t.done,.slice t.A t.ops.length t.c]] w (ZgL w col g (if Zn t.id t.ops=0 then ZG q t else q) (Zn t.id t.ops)):=by
 by_cases he:Zn t.id t.ops=0
 ·have hz:=h.z;obtain⟨⟨bT,bW,bR,bU,bS,hm⟩,hr,ho⟩:=h;have hqd:(Zc q t.id).length≤200:=Nat.le_trans (ZcY q t.id) hq;have hrd:=ZaI hr t.id;have hl2:=Zbj (Zdr ho t.id);have hw:=ZbG (Zc q t.id) hl2
  have HD:Hid (∀W,Upd No w W→Calls Try.prog 27 #[.pointer (some ⟨g,0,none⟩),.int .i64 t.id] W fun e w'=>(∃n,e= .returned (.int .i64 n))∧∃col',IXm w' col' g bT bW bR bU bS (Zk (Zc q t.id):Int) (Zb (Zc q t.id)) (Zz (Zc q t.id)) (Zt (Zc q t.id)) (ZP (Zc q t.id)) (ZH (Zc q t.id))∧TurnX W col w' col'):=
   Qh fun W u=>(Zeq (hm.no u) hr ho hq t.id).mono fun e w' h=>⟨⟨_,h.1⟩,h.2⟩
  have hU:∀p,ZP (Zc q t.id) p≤1000000:=fun p=>by
   unfold ZP
   cases hf:Zb (Zc q t.id) p.1 with
   |none=>simp
   |some u=>
    simp only;have h1:=List.countP_le_length (p:=fun v:Ver=>v.tx==p.2) (l:=Zy u);have h2:(Zy u).length≤u.ops.length:=Zaj u.id u.ops _;have h3:=hl2 u (Z1 hf).1;omega
  refine(ZgE F w t.id t.done t.A t.c t.ops ht he hz hF HD (by omega) (fun k=>⟨Zas hrd _,ZM _ _ (by omega)⟩) (fun v=>⟨Zas hrd _,ZM _ _ (by omega)⟩) hU).mono ?_;rintro e w' ⟨rfl,col',h1,h2⟩;refine⟨by rw[he],col',?_,h2⟩;rw[if_pos he];refine⟨⟨bT,bW,bR,bU,bS,?_⟩,Za4 hr t,Zf5 ho he⟩;have hwp:=Zea q t
  rw[show(Zk (ZG q t):Int)=(Zk (Zc q t.id):Int)+((t.ops.length:Int)+1) by omega,Zgw hr t,ZgD hr t,Zgz hr t,Zgv hr t,
   show Zb (ZG q t)=(fun k=>if k=t.id then some ⟨t.id,t.done,t.ops,t.A,t.c⟩ else Zb (Zc q t.id) k) from funext fun k=>by
    rw[Za9 hr]
    by_cases e:k=t.id
    ·rw[if_pos e,if_pos e]
    ·rw[if_neg e,if_neg e,ZN hr,if_neg e]]
  exact h1
 ·refine(ZeX F w _ t.id t.done t.A t.c t.ops ht hl he).mono ?_;rintro e w' ⟨rfl,hu⟩;refine⟨rfl,col,?_,Ext.refl _ _,hu.mono (fun _ _ e=>e.elim)⟩;rw[if_neg he];exact h.no hu
theorem xtx (h:IX w col g q) (k:Int):Calls Try.prog 25 #[.pointer (some ⟨g,0,none⟩),.int .i64 k] w (Zba w (Zb q k)):=by
 obtain⟨⟨bT,bW,bR,bU,bS,hm⟩,hr,ho⟩:=h;refine Zeh hm k ?_
 cases hf:Zb q k with
 |none=>unfold Zd Zat;simp
 |some t=>have:=Zbj ho t (Z1 hf).1;unfold Zd Zat;simp only;omega
theorem ZbX (hr:Zh q) (x:Int):x∈q.map (·.id)↔Zb q x≠none:=by
 constructor
 ·intro hm;obtain⟨t,ht,rfl⟩:=List.mem_map.1 hm;rw[(ZT hr t.id t).2 ⟨ht,rfl⟩];simp
 ·intro hn
  cases hf:Zb q x with
  |none=>exact absurd hf hn
  |some t=>obtain⟨h1,h2⟩:=Z1 hf;exact List.mem_map.2 ⟨t,h1,h2⟩
theorem Zd9 (h:IX w col g q) (hq:q.length≤200):Calls Try.prog 24 #[.pointer (some ⟨g,0,none⟩)] w (Z4 w (q.map (·.id))):=by
 obtain⟨⟨bT,bW,bR,bU,bS,hm⟩,hr,ho⟩:=h;exact ZfM hm _ hr (ZbX hr) (by simp;omega)
theorem Zb3 (h:IX w col g q) (hq:q.length≤200) (k:Int):Calls Try.prog 31 #[.pointer (some ⟨g,0,none⟩),.int .i64 k] w (Z4 w (Zz q k)):=by
 obtain⟨⟨bT,bW,bR,bU,bS,hm⟩,hr,ho⟩:=h;exact ZeU hm k (ZM _ q (by omega))
theorem Zb4 (h:IX w col g q) (hq:q.length≤200) (v:Ver):Calls Try.prog 32 #[.pointer (some ⟨g,0,none⟩),.agg v.cells.toArray] w (Z4 w (Zt q v)):=by
 obtain⟨⟨bT,bW,bR,bU,bS,hm⟩,hr,ho⟩:=h;exact ZeV hm v (ZM _ q (by omega))
theorem Zct (h:IX w col g q) (i k:Int):Calls Try.prog 30 #[.pointer (some ⟨g,0,none⟩),.int .i64 i,.int .i64 k] w fun e w'=>e= .returned (.int .i64 (Zac q i k:Int))∧w=w':=by
 obtain⟨⟨bT,bW,bR,bU,bS,hm⟩,hr,ho⟩:=h;exact Zdy hm i k
theorem Zcu (h:IX w col g q):Calls Try.prog 35 #[.pointer (some ⟨g,0,none⟩)] w fun e w'=>e= .returned (.int .i64 (Zk q:Int))∧w=w':=by
 obtain⟨⟨bT,bW,bR,bU,bS,hm⟩,hr,ho⟩:=h;exact Zfx hm
theorem Zfi (hr:Zh q) (i0:Int):((q.map (·.id)).filter fun b=>decide (0<ZP q (b,i0)))=Zbi q i0:=by
 unfold Zbi ZZ;rw[List.filter_map]
 congr 1
 apply List.filter_congr
 intro t ht
 show decide (0<ZP q (t.id,i0))=Zeb i0 t
 unfold ZP Zeb;rw[(ZT hr t.id t).2 ⟨ht,rfl⟩];simp only;rw[Bool.eq_iff_iff,decide_eq_true_eq,List.countP_pos_iff,List.any_eq_true]
theorem Zc7 (h:IX w col g q) (hq:q.length≤200) (i0:Int):Calls Try.prog 29 #[.pointer (some ⟨g,0,none⟩),.int .i64 i0] w (Z4 w (Zbi q i0)):=by
 obtain⟨⟨bT,bW,bR,bU,bS,hm⟩,hr,ho⟩:=h;rw[←Zfi hr];exact Zge hm _ hr (ZbX hr) (by simp;omega) i0
theorem Zcj (v:Ver):Zt q v≠[]↔∃t∈q,v∈Zy t:=by
 unfold Zt;rw[←List.length_pos_iff,List.length_pos_iff_exists_mem]
 constructor
 ·rintro⟨a,ha⟩;obtain⟨t,h1,h2,_⟩:=(Zah _ _ _).1 ha;exact⟨t,h1,by unfold ZaU at h2;simpa using h2⟩
 ·rintro⟨t,h1,h2⟩;exact⟨t.id,(Zah _ _ _).2 ⟨t,h1,by unfold ZaU;simpa using h2,rfl⟩⟩
theorem ZdF (n:Nat):∀q:List HTx,(∀t∈q,(Zy t).length≤n)→(q.flatMap Zy).length≤n*q.length
 |[],_=>by simp
 |t::q,h=>by
  have h1:=h t List.mem_cons_self;have h2:=ZdF n q (fun u hu=>h u (List.mem_cons_of_mem _ hu));rw[List.flatMap_cons,List.length_append,List.length_cons,Nat.mul_succ];omega
theorem Zbk:∀(l m:List Ver),l.Nodup→(∀x∈l,x∈m)→l.length≤m.length
 |[],m,_,_=>Nat.zero_le _
 |a::l,m,h,hs=>by
  rw[List.nodup_cons]at h;have ha:=hs a List.mem_cons_self;have:=Zbk l (m.erase a) h.2 (fun x hx=>(List.mem_erase_of_ne (fun e:x=a=>h.1 (by rw[←e];exact hx))).2 (hs x (List.mem_cons_of_mem _ hx)));rw[List.length_erase_of_mem ha]at this;have hp:=List.length_pos_of_mem ha;rw[List.length_cons];omega
theorem Zc8 (h:IX w col g q) (hq:q.length≤200):Calls Try.prog 34 #[.pointer (some ⟨g,0,none⟩)] w (Zbo w (Zap q)):=by
 obtain⟨⟨bT,bW,bR,bU,bS,hm⟩,hr,ho⟩:=h;have hl:=Zbj ho;have hf:=ZdF 4095 q (fun t ht=>Nat.le_trans (Zaj t.id t.ops _) (hl t ht));refine(Zgf hm (fun ks hn hk=> ?_)).mono ?_
 ·have:=Zbk ks (q.flatMap Zy) hn (fun v hv=>by
   obtain⟨t,h1,h2⟩:=(Zcj v).1 (hk v hv);exact List.mem_flatMap.2 ⟨t,h1,h2⟩)
  omega
 ·rintro e w' ⟨l,⟨h1,h2⟩,h3⟩
  have:l=Zap q:=Zc4 h1 (ZeR q) fun v=>by
   rw[h2,Zef,Zcj]
   constructor
   ·rintro⟨hx,h4⟩;obtain⟨t,h5,h6⟩:=hx;exact⟨t,h5,h6,(Zdv ho ⟨t,h5,h6⟩).2 h4⟩
   ·rintro⟨t,h5,h6,h7⟩;exact⟨⟨t,h5,h6⟩,(Zdv ho ⟨t,h5,h6⟩).1 h7⟩
  rw[←this];exact h3
theorem Zgu (w:World):Calls Try.prog 22 #[] w fun e w'=>∃g col,e= .returned (.pointer (some ⟨g,0,none⟩))∧IX w' col g []∧Upd No w w'∧∀i,col i≠0→w.heap.size≤i:=by
 refine(ZgV w).mono ?_;rintro e w' ⟨g,rfl,h1,h2,⟨bT,bW,bR,bU,bS,h3⟩,h4⟩;refine⟨g,_,rfl,⟨⟨bT,bW,bR,bU,bS,h3⟩,List.Pairwise.nil,fun t ht=>by cases ht⟩,h4,fun i hi=> ?_⟩;unfold Zbf at hi
 split at hi
 ·omega
 ·split at hi
  ·omega
  ·exact absurd rfl hi
end
end
/- An index,the document's:put,drop,ids,readers,users. -/
section
open Go.RowKit
theorem Zfg (w:World) (x y:Ver):(binOp .neq 28 (.agg #[.int .i64 x.tx,.int .i64 x.key,.int .i64 x.nth]) (.agg #[.int .i64 y.tx,.int .i64 y.key,.int .i64 y.nth])).run Try.prog w= .ok (.bool (x != y)) w:=ZfS w x y
set_option maxRecDepth 100000 in
set_option maxHeartbeats 1000000 in
theorem ZeG (w:World) (F G:Nat→Prop) (A B:Option Addr) (c d:Nat) (xs ys:List Ver) (hx:Recs F w A 3 (xs.map Ver.cells)) (hy:Recs G w B 3 (ys.map Ver.cells)) (hl:xs.length≤4398046511103) (hl2:ys.length≤4398046511103) {v:Bool} (hv:(xs==ys)=v):
  Calls Try.prog 33 #[.slice A xs.length c,.slice B ys.length d] w fun e w'=>e= .returned (.bool v)∧Upd No w w':=by
 have qG:∀(op:BinOp) (x y:Operand) (xs ys:Array Value) (w:World),(eqGuard op 28 x y (.agg xs) (.agg ys)).run Try.prog w= .ok () w:=fun op x y xs ys w=>run_eqGuard_agg w op _ x y xs ys (by kernel_rfl)
 subst hv
 by_cases hn:xs.length=ys.length
 ·have hnb:((xs.length:Int) != (ys.length:Int))=false:=by rw[bne_eq_false_iff_eq];omega
  have HN:=Qh hn;clear hn
  go_enter Try.func33,Try.ntmps33
  go_wp2
  go_loopg [5,13] xs.length (fun gk j i wr=>∃k:Nat,k+gk=xs.length∧i= .int .i64 k∧Hid (xs.take k=ys.take k)∧Upd No w wr)
  case atStart=>exact⟨0,by omega,rfl,Qh rfl,Upd.refl _ _⟩
  case round=>
   obtain⟨k,hgk,rfl,hs,hu⟩:=hrel
   by_cases hlt:k<xs.length
   ·have hlt2:k<ys.length:=by have:=HN.out;omega
    obtain⟨ax,rfl,q0,q1,q2⟩:=VersR.at_ (Recs.upd hx hu (fun _ _=>id)) hlt;obtain⟨ay,rfl,r0,r1,r2⟩:=VersR.at_ (Recs.upd hy hu (fun _ _=>id)) hlt2;obtain⟨x,hxx⟩:∃x,xs[k]=x:=⟨_,rfl⟩;obtain⟨y,hyy⟩:∃y,ys[k]=y:=⟨_,rfl⟩;simp only[hxx]at q0 q1 q2;simp only[hyy]at r0 r1 r2;have hq:=fun W=>Zfg W x y
    have i1:(0:Int)≤(k:Int):=Qn _;have i2:(k:Int)<(xs.length:Int):=by omega
    have i3:(k:Int)<(ys.length:Int):=by omega
    have HX:=Qh hxx;have HY:=Qh hyy;clear hxx hyy
    by_cases he:x=y
    ·have HN2:=Qh (show xs.take (k+1)=ys.take (k+1) by rw[List.take_succ_eq_append_getElem hlt,List.take_succ_eq_append_getElem hlt2,hs.out,HX.out,HY.out,he]);have heb:(x != y)=false:=by simpa using he
     rw[heb]at hq;clear he heb;go_wp2
     go_quiet (fail)
     go_wp2
     go_roundg (gk-1)
     case measure=>omega
     case rel=>exact⟨k+1,by omega,by go_num,HN2,hu.drewN _⟩
    ·have HF:=Qh (show(xs==ys)=false from by
      rw[beq_eq_false_iff_ne];intro e;subst e;exact he (HX.out.symm.trans HY.out))
     have heb:(x != y)=true:=by simpa using he
     rw[heb]at hq;clear he heb;go_wp2
     go_quiet (fail)
     go_wp2
     go_ret
     exact⟨by rw[HF.out];rfl,hu.drewN _⟩
   ·obtain rfl:k=xs.length:=by omega
    have HT:=Qh (show(xs==ys)=true from by
     rw[beq_iff_eq];have:=hs.out
     rwa [List.take_length,HN.out,List.take_length]at this)
    go_wp2
    go_ret
    exact⟨by rw[HT.out];rfl,hu⟩
 ·have HF:=Qh (show(xs==ys)=false from by
   rw[beq_eq_false_iff_ne];intro e;exact hn (by rw[e]))
  have hnb:((xs.length:Int) != (ys.length:Int))=true:=by rw[bne_iff_ne];omega
  clear hn
  go_enter Try.func33,Try.ntmps33
  go_wp2
  go_ret
  exact⟨by rw[HF.out];rfl,Upd.refl _ _⟩
end
/- An index,the document's:what lacks. -/
section
open Go.RowKit
theorem Zdp (v:Ver):∀l:List Ver,(ZaV v l).length≤l.length+1
 |[]=>by simp[ZaV]
 |x::l=>by
  unfold ZaV
  split
  ·simp only[List.length_cons];have:=Zdp v l;omega
  ·simp only[List.length_cons];have:=List.length_filter_le (fun z=> !(z==v)) (x::l);simp only[List.length_cons]at this;omega
theorem ZcS (q:List HTx):∀(l acc:List Ver),(Zaz q acc l).length≤acc.length+l.length
 |[],acc=>by simp[Zaz]
 |v::l,acc=>by
  unfold Zaz;refine Nat.le_trans (ZcS q l _) ?_;rw[List.length_cons]
  split
  ·omega
  ·have:=Zdp v acc;omega
end
end Go.Proofs.Ytblplapkdmhikaa
