/- What an index of transactions tells, in plain words. -/
import Derived.Test.YtblplapkdmhikaaDxaw
import Derived.Test.YtblplapkdmhikaaDxbf
namespace Go.Proofs.Ytblplapkdmhikaa
set_option linter.unusedVariables false
set_option linter.unusedSimpArgs false
section
open Go.RowKit
theorem Zb7 {l m:List Int} (hl:l.Pairwise (·<·)) (hm:m.Pairwise (·<·)) (h:∀a,a∈l↔a∈m):l=m:=
 Za3 ((List.perm_ext_iff_of_nodup (hl.imp fun h=>Int.ne_of_lt h) (hm.imp fun h=>Int.ne_of_lt h)).2 h) (hl.imp Int.le_of_lt) (hm.imp Int.le_of_lt)
theorem Z1 {txs:List HTx} {i:Int} {t:HTx} (hf:Zb txs i=some t):t∈txs∧t.id=i:=by
 have h2:=List.find?_some hf;exact⟨Ze4 hf,by simpa using h2⟩
def ZK (l:List Int) (x:Int):List Int:=if x∈l then l else l.filter (fun y=>decide (y<x))++x::l.filter (fun y=>decide (x<y))
def ZV (l:List Int) (x:Int):List Int:=l.filter fun y=> !(y==x)
theorem ZcO (l:List Int) (x a:Int):a∈ZK l x↔a=x∨a∈l:=by
 unfold ZK
 split
 ·rename_i h
  constructor
  ·exact fun h2=> .inr h2
  ·rintro(rfl|h2)
   ·exact h
   ·exact h2
 ·rename_i h
  rw[List.mem_append,List.mem_cons,List.mem_filter,List.mem_filter,decide_eq_true_eq,decide_eq_true_eq]
  constructor
  ·rintro(⟨h1,_⟩|h1|⟨h1,_⟩)
   ·exact .inr h1
   ·exact .inl h1
   ·exact .inr h1
  ·rintro(h1|h1)
   ·exact .inr (.inl h1)
   ·rcases Int.lt_trichotomy a x with h2|h2|h2
    ·exact .inl ⟨h1,h2⟩
    ·exact .inr (.inl h2)
    ·exact .inr (.inr ⟨h1,h2⟩)
theorem Zff {l:List Int} (h:l.Pairwise (·<·)) (x:Int):(ZK l x).Pairwise (·<·):=by
 unfold ZK
 split
 ·exact h
 ·rw[List.pairwise_append,List.pairwise_cons];refine⟨h.sublist List.filter_sublist,⟨fun a ha=> ?_,h.sublist List.filter_sublist⟩,fun a ha b hb=> ?_⟩
  ·rw[List.mem_filter,decide_eq_true_eq]at ha;exact ha.2
  ·rw[List.mem_filter,decide_eq_true_eq]at ha;rw[List.mem_cons,List.mem_filter,decide_eq_true_eq]at hb;rcases hb with hb|hb<;>omega
theorem Zfv (l:List Int) (x a:Int):a∈ZV l x↔a∈l∧a≠x:=by
 unfold ZV;rw[List.mem_filter];simp
theorem Zf3 {l:List Int} (h:l.Pairwise (·<·)) (x:Int):(ZV l x).Pairwise (·<·):=h.sublist List.filter_sublist
theorem Zb9 {l:List Int} {x:Int} (h:x∉l):ZV l x=l:=by
 unfold ZV;rw[List.filter_eq_self];intro a ha;have:a≠x:=fun e=>h (e▸ha)
 simpa using this
def ZZ (p:HTx→Bool) (q:List HTx):List Int:=(q.filter p).map (·.id)
theorem Zah (p:HTx→Bool) (q:List HTx) (a:Int):a∈ZZ p q↔∃t∈q,p t=true∧t.id=a:=by
 unfold ZZ;simp only[List.mem_map,List.mem_filter]
 constructor
 ·rintro⟨t,⟨h1,h2⟩,h3⟩;exact⟨t,h1,h2,h3⟩
 ·rintro⟨t,h1,h2,h3⟩;exact⟨t,⟨h1,h2⟩,h3⟩
theorem Zfn (p:HTx→Bool) (q:List HTx):(ZZ p q).length≤q.length:=by
 unfold ZZ;rw[List.length_map];exact List.length_filter_le _ _
def Zh (q:List HTx):Prop:=(q.map (·.id)).Pairwise (·<·)
theorem Zas {q:List HTx} (h:Zh q) (p:HTx→Bool):(ZZ p q).Pairwise (·<·):=h.sublist (List.filter_sublist.map _)
def Zc (q:List HTx) (id:Int):List HTx:=q.filter fun t=> !(t.id==id)
def ZG (q:List HTx) (t:HTx):List HTx:=q.filter (fun x=>decide (x.id<t.id))++t::q.filter (fun x=>decide (t.id<x.id))
theorem Zak (q:List HTx) (id:Int) (t:HTx):t∈Zc q id↔t∈q∧t.id≠id:=by unfold Zc;rw[List.mem_filter];simp
theorem Zai (q:List HTx) (t x:HTx):x∈ZG q t↔x=t∨(x∈q∧x.id≠t.id):=by
 unfold ZG;rw[List.mem_append,List.mem_cons,List.mem_filter,List.mem_filter,decide_eq_true_eq,decide_eq_true_eq]
 constructor
 ·rintro(⟨h1,h2⟩|h1|⟨h1,h2⟩)
  ·exact .inr ⟨h1,by omega⟩
  ·exact .inl h1
  ·exact .inr ⟨h1,by omega⟩
 ·rintro(h1|⟨h1,h2⟩)
  ·exact .inr (.inl h1)
  ·rcases Int.lt_or_gt_of_ne h2 with h3|h3
   ·exact .inl ⟨h1,h3⟩
   ·exact .inr (.inr ⟨h1,h3⟩)
theorem ZaI {q:List HTx} (h:Zh q) (id:Int):Zh (Zc q id):=h.sublist (List.filter_sublist.map _)
theorem Za4 {q:List HTx} (h:Zh q) (t:HTx):Zh (ZG q t):=by
 unfold Zh ZG;rw[List.map_append,List.map_cons,List.pairwise_append,List.pairwise_cons];refine⟨h.sublist (List.filter_sublist.map _),⟨fun a ha=> ?_,h.sublist (List.filter_sublist.map _)⟩,fun a ha b hb=> ?_⟩
 ·obtain⟨x,hx,rfl⟩:=List.mem_map.1 ha;rw[List.mem_filter,decide_eq_true_eq]at hx;exact hx.2
 ·obtain⟨x,hx,rfl⟩:=List.mem_map.1 ha;rw[List.mem_filter,decide_eq_true_eq]at hx;rw[List.mem_cons]at hb;rcases hb with hb|hb
  ·omega
  ·obtain⟨y,hy,rfl⟩:=List.mem_map.1 hb;rw[List.mem_filter,decide_eq_true_eq]at hy;omega
theorem Zb8 (q:List HTx) (t:HTx):(ZG q t).length≤q.length+1:=by
 unfold ZG;rw[List.length_append,List.length_cons]
 have:∀m:List HTx,(m.filter fun y=>decide (y.id<t.id)).length+(m.filter fun y=>decide (t.id<y.id)).length≤m.length:=fun m=>by
  induction m with
  |nil=>simp
  |cons a m ih=>
   simp only[List.filter_cons,List.length_cons]
   by_cases h1:a.id<t.id<;>by_cases h2:t.id<a.id<;>simp[h1,h2]<;>omega
 have:=this q;omega
theorem ZcY (q:List HTx) (id:Int):(Zc q id).length≤q.length:=List.length_filter_le _ _
theorem ZbK {q:List HTx} (h:Zh q) {a b:HTx} (ha:a∈q) (hb:b∈q) (e:a.id=b.id):a=b:=by
 induction q with
 |nil=>cases ha
 |cons x q ih=>
  unfold Zh at h;rw[List.map_cons,List.pairwise_cons]at h;rcases List.mem_cons.1 ha with rfl|ha'
  ·rcases List.mem_cons.1 hb with rfl|hb'
   ·rfl
   ·have:=h.1 b.id (List.mem_map.2 ⟨b,hb',rfl⟩);omega
  ·rcases List.mem_cons.1 hb with rfl|hb'
   ·have:=h.1 a.id (List.mem_map.2 ⟨a,ha',rfl⟩);omega
   ·exact ih h.2 ha' hb'
theorem ZT {q:List HTx} (h:Zh q) (id:Int) (t:HTx):Zb q id=some t↔t∈q∧t.id=id:=by
 constructor
 ·exact Z1
 ·rintro⟨h1,rfl⟩
  cases hf:Zb q t.id with
  |none=>
   unfold Zb at hf;rw[List.find?_eq_none]at hf;have:=hf t h1;simp at this
  |some u=>
   have:=Z1 hf;rw[ZbK h this.1 h1 this.2]
theorem ZN {q:List HTx} (h:Zh q) (id i:Int):Zb (Zc q id) i=if i=id then none else Zb q i:=by
 apply Option.ext
 intro t;rw[ZT (ZaI h id),Zak]
 split
 ·rename_i e
  simp;intro _ h2 h3;exact h2 (h3.trans e)
 ·rename_i e
  rw[ZT h]
  constructor
  ·rintro⟨⟨h1,_⟩,h2⟩;exact⟨h1,h2⟩
  ·rintro⟨h1,h2⟩;exact⟨⟨h1,fun h3=>e (h2.symm.trans h3)⟩,h2⟩
theorem Za9 {q:List HTx} (h:Zh q) (t:HTx) (i:Int):Zb (ZG q t) i=if i=t.id then some t else Zb q i:=by
 apply Option.ext
 intro u;rw[ZT (Za4 h t),Zai]
 split
 ·rename_i e
  subst e
  constructor
  ·rintro⟨h1|⟨_,h1⟩,h2⟩
   ·rw[h1]
   ·exact absurd h2 h1
  ·intro h1;cases h1;exact⟨.inl rfl,rfl⟩
 ·rename_i e
  rw[ZT h]
  constructor
  ·rintro⟨h1|⟨h1,_⟩,h2⟩
   ·exact absurd (by rw[←h2,h1]) e
   ·exact⟨h1,h2⟩
  ·rintro⟨h1,h2⟩;exact⟨.inr ⟨h1,fun h3=>e (h2.symm.trans h3)⟩,h2⟩
theorem Zdh {q:List HTx} (p:HTx→Bool) (id:Int):ZZ p (Zc q id)=ZV (ZZ p q) id:=by
 unfold ZZ Zc ZV;rw[List.filter_map,List.filter_filter,List.filter_filter]
 congr 1
 apply List.filter_congr
 intro x _;simp[Bool.and_comm]
theorem Zd0 {q:List HTx} (h:Zh q) (p:HTx→Bool) (t:HTx):ZZ p (ZG q t)=if p t=true then ZK (ZZ p (Zc q t.id)) t.id else ZZ p (Zc q t.id):=by
 have hd:=Zas (ZaI h t.id) p
 split
 ·rename_i hp
  refine Zb7 (Zas (Za4 h t) p) (Zff hd _) fun a=> ?_
  rw[ZcO,Zah,Zah]
  constructor
  ·rintro⟨x,h1,h2,h3⟩;rw[Zai]at h1;rcases h1 with rfl|⟨h1,h4⟩
   ·exact .inl h3.symm
   ·exact .inr ⟨x,(Zak _ _ _).2 ⟨h1,h4⟩,h2,h3⟩
  ·rintro(rfl|⟨x,h1,h2,h3⟩)
   ·exact⟨t,(Zai _ _ _).2 (.inl rfl),hp,rfl⟩
   ·exact⟨x,(Zai _ _ _).2 (.inr ((Zak _ _ _).1 h1)),h2,h3⟩
 ·rename_i hp
  refine Zb7 (Zas (Za4 h t) p) hd fun a=> ?_
  rw[Zah,Zah]
  constructor
  ·rintro⟨x,h1,h2,h3⟩;rw[Zai]at h1;rcases h1 with rfl|⟨h1,h4⟩
   ·exact absurd h2 hp
   ·exact⟨x,(Zak _ _ _).2 ⟨h1,h4⟩,h2,h3⟩
  ·rintro⟨x,h1,h2,h3⟩;exact⟨x,(Zai _ _ _).2 (.inr ((Zak _ _ _).1 h1)),h2,h3⟩
/-! what is told -/
def Zy (t:HTx):List Ver:=Z9 t.id t.ops
def ZaU (v:Ver) (t:HTx):Bool:=(Zy t).contains v
def Zeb (id:Int) (t:HTx):Bool:=(Zy t).any fun v=>v.tx==id
def Zbg (key:Int) (t:HTx):Bool:=t.done&&(ZS t.ops).contains key
def Zt (q:List HTx) (v:Ver):List Int:=ZZ (ZaU v) q
def Zbi (q:List HTx) (id:Int):List Int:=ZZ (Zeb id) q
theorem ZJ (q:List HTx) (key:Int):Zz q key=ZZ (Zbg key) q:=rfl
def Zac (q:List HTx) (id key:Int):Nat:=match Zb q id with|some t=>Zv t.ops key|none=>0
def Zk (q:List HTx):Nat:=(q.map fun t=>t.ops.length+1).sum
def Zs (a b:Ver):Bool:=if a.tx=b.tx then (if a.key=b.key then decide (a.nth<b.nth) else decide (a.key<b.key)) else decide (a.tx<b.tx)
theorem ZaN (a b:Ver):Zs a b=true↔a.tx<b.tx∨(a.tx=b.tx∧(a.key<b.key∨(a.key=b.key∧a.nth<b.nth))):=by
 unfold Zs
 split
 ·split
  ·simp_all
  ·simp_all
 ·simp_all
theorem Zby (a:Ver):¬Zs a a=true:=by rw[ZaN];omega
theorem ZaY (a b c:Ver) (h:Zs a b=true) (k:Zs b c=true):Zs a c=true:=by rw[ZaN]at*;omega
theorem ZaL (a b:Ver) (h:¬Zs a b=true) (k:a≠b):Zs b a=true:=by
 rw[ZaN]at*;obtain⟨a1,a2,a3⟩:=a;obtain⟨b1,b2,b3⟩:=b;simp only[Ver.mk.injEq,ne_eq]at*;omega
def ZaV (v:Ver):List Ver→List Ver
 |[]=>[v]
 |y::l=>if Zs y v=true then y::ZaV v l else v::(y::l).filter fun z=> !(z==v)
theorem Zca (v a:Ver):∀l,a∈ZaV v l↔a=v∨a∈l
 |[]=>by simp[ZaV]
 |y::l=>by
  unfold ZaV
  split
  ·rw[List.mem_cons,Zca v a l,List.mem_cons];grind
  ·rw[List.mem_cons,List.mem_filter];simp;grind
theorem Zd2 (v:Ver):∀l:List Ver,(l.Pairwise fun a b=>Zs a b=true)→(ZaV v l).Pairwise fun a b=>Zs a b=true
 |[],_=>by simp[ZaV]
 |y::l,h=>by
  rw[List.pairwise_cons]at h;unfold ZaV
  split
  ·rename_i hy
   rw[List.pairwise_cons];refine⟨fun a ha=> ?_,Zd2 v l h.2⟩;rcases(Zca v a l).1 ha with rfl|ha
   ·exact hy
   ·exact h.1 a ha
  ·rename_i hy
   rw[List.pairwise_cons];refine⟨fun a ha=> ?_,(List.pairwise_cons.2 h).sublist List.filter_sublist⟩;rw[List.mem_filter]at ha;have hne:a≠v:=by simpa using ha.2
   rcases List.mem_cons.1 ha.1 with rfl|ha2
   ·exact ZaL _ _ hy hne
   ·by_cases hyv:y=v
    ·rw[←hyv];exact h.1 a ha2
    ·exact ZaY _ _ _ (ZaL _ _ hy hyv) (h.1 a ha2)
def Zaz (q:List HTx) (acc:List Ver):List Ver→List Ver
 |[]=>acc
 |v::l=>Zaz q (if Zbc q v then acc else ZaV v acc) l
def ZaO (q:List HTx) (acc:List Ver):List HTx→List Ver
 |[]=>acc
 |t::l=>ZaO q (Zaz q acc (Zy t)) l
def Zap (q:List HTx):List Ver:=ZaO q [] q
theorem ZcP (q:List HTx) (a:Ver):∀(l acc:List Ver),a∈Zaz q acc l↔a∈acc∨(a∈l∧Zbc q a=false)
 |[],acc=>by simp[Zaz]
 |v::l,acc=>by
  unfold Zaz;rw[ZcP q a l]
  cases hv:Zbc q v
  ·simp only[Bool.false_eq_true,if_false];rw[Zca,List.mem_cons]
   constructor
   ·rintro((rfl|h)|h)
    ·exact .inr ⟨.inl rfl,hv⟩
    ·exact .inl h
    ·exact .inr ⟨.inr h.1,h.2⟩
   ·rintro(h|⟨rfl|h,h2⟩)
    ·exact .inl (.inr h)
    ·exact .inl (.inl rfl)
    ·exact .inr ⟨h,h2⟩
  ·simp only[if_true];rw[List.mem_cons]
   constructor
   ·rintro(h|h)
    ·exact .inl h
    ·exact .inr ⟨.inr h.1,h.2⟩
   ·rintro(h|⟨rfl|h,h2⟩)
    ·exact .inl h
    ·rw[hv]at h2;cases h2
    ·exact .inr ⟨h,h2⟩
theorem Zdw (q:List HTx):∀(l acc:List Ver),(acc.Pairwise fun a b=>Zs a b=true)→(Zaz q acc l).Pairwise fun a b=>Zs a b=true
 |[],acc,h=>h
 |v::l,acc,h=>by
  unfold Zaz;refine Zdw q l _ ?_
  split
  ·exact h
  ·exact Zd2 v acc h
theorem ZcQ (q:List HTx) (a:Ver):∀(l:List HTx) (acc:List Ver),a∈ZaO q acc l↔a∈acc∨∃t∈l,a∈Zy t∧Zbc q a=false
 |[],acc=>by simp[ZaO]
 |t::l,acc=>by
  unfold ZaO;rw[ZcQ q a l,ZcP];simp only[List.mem_cons]
  grind
theorem Zdx (q:List HTx):∀(l:List HTx) (acc:List Ver),(acc.Pairwise fun a b=>Zs a b=true)→(ZaO q acc l).Pairwise fun a b=>Zs a b=true
 |[],acc,h=>h
 |t::l,acc,h=>Zdx q l _ (Zdw q _ _ h)
theorem Zef (q:List HTx) (a:Ver):a∈Zap q↔∃t∈q,a∈Zy t∧Zbc q a=false:=by
 unfold Zap;rw[ZcQ];simp
theorem ZeR (q:List HTx):(Zap q).Pairwise fun a b=>Zs a b=true:=Zdx q q [] List.Pairwise.nil
def okQ (q:List HTx):Prop:=∀t∈q,Zn t.id t.ops=0
theorem Zdr {q:List HTx} (h:okQ q) (id:Int):okQ (Zc q id):=fun t ht=>h t ((Zak _ _ _).1 ht).1
theorem Zf5 {q:List HTx} (h:okQ q) {t:HTx} (ht:Zn t.id t.ops=0):okQ (ZG q t):=fun x hx=>by
 rcases(Zai _ _ _).1 hx with rfl|h1
 ·exact ht
 ·exact h x h1.1
theorem ZaJ (id:Int) (l:List HOp) (v:Ver):∀k,v∈ZB id l k→∃j o,j<k∧l[j]? =some o∧Zao id o=true∧Zad o=v
 |0,h=>by simp[ZB]at h
 |k+1,h=>by
  unfold ZB at h
  cases hk:l[k]? with
  |none=>
   rw[hk]at h;obtain⟨j,o,h1,h2⟩:=ZaJ id l v k h;exact⟨j,o,by omega,h2⟩
  |some o=>
   rw[hk]at h;simp only at h
   split at h
   ·rename_i hc
    rw[List.mem_append,List.mem_singleton]at h;rcases h with h|rfl
    ·obtain⟨j,o,h1,h2⟩:=ZaJ id l v k h;exact⟨j,o,by omega,h2⟩
    ·simp only[Bool.and_eq_true]at hc;exact⟨k,o,by omega,hk,hc.1,rfl⟩
   ·obtain⟨j,o,h1,h2⟩:=ZaJ id l v k h;exact⟨j,o,by omega,h2⟩
theorem Zb0 {id:Int} {l:List HOp}:∀k,ZA id l k=0→∀j,j<k→ZU id l j=0
 |0,_,j,hj=>by omega
 |k+1,h,j,hj=>by
  unfold ZA at h
  by_cases e:ZA id l k=0
  ·rw[if_pos e]at h;rcases Nat.lt_or_ge j k with hjk|hjk
   ·exact Zb0 k e j hjk
   ·have:j=k:=by omega
    subst this;exact h
  ·rw[if_neg e]at h;exact absurd h e
theorem Zaw {id:Int} {l:List HOp} (h:Zn id l=0):idB id=true∧l.length≤4095∧ZA id l l.length=0:=by
 unfold Zn at h
 split at h
 ·cases h
 ·rename_i h1
  split at h
  ·cases h
  ·rename_i h2
   exact⟨by simpa using h1,by omega,h⟩
theorem ZdT {t:HTx} (h:Zn t.id t.ops=0) {v:Ver} (hv:v∈Zy t):v.tx≠0∧1≤v.nth∧v.tx≠t.id:=by
 obtain⟨j,o,h1,h2,h3,rfl⟩:=ZaJ _ _ _ _ hv;obtain⟨_,_,h5⟩:=Zaw h;have h6:=Zb0 _ h5 j h1
 have h7:opB o=true:=by
  cases hb:opB o
  ·have hj:j<t.ops.length:=h1;have hx:t.ops[j]=o:=by rw[Qg hj]at h2;cases h2;rfl
   rw[ZdK hj hx hb]at h6
   cases h6
  ·rfl
 unfold Zao at h3;simp only[Bool.and_eq_true,Bool.not_eq_true',beq_eq_false_iff_ne]at h3;have hvo:Zad o=⟨o.tx,o.key,o.nth⟩:=by unfold Zad;rw[if_pos h3.1.1]
 rw[hvo]at h3 ⊢;exact⟨h3.1.2,ZeJ h7 h3.1.1 h3.1.2,h3.2⟩
theorem Zdv {q:List HTx} (hq:okQ q) {v:Ver} (hv:∃t∈q,v∈Zy t):Zbc q v=false↔(Zac q v.tx v.key:Int)<v.nth:=by
 obtain⟨t,ht,hvt⟩:=hv;obtain⟨h1,h2,_⟩:=ZdT (hq t ht) hvt;unfold Zac
 cases hf:Zb q v.tx with
 |none=>
  rw[Ze1 (fun h=>h1 h.1) hf];simp;omega
 |some u=>
  rw[Ze0 (fun h=>h1 h.1) hf];simp only[Bool.and_eq_false_iff,decide_eq_false_iff_not];omega
end
end Go.Proofs.Ytblplapkdmhikaa
