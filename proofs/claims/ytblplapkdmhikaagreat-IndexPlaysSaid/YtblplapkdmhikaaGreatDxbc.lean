/- What the program tells of histories, in plain words: needs, keys, writers, right; and of edges, reads and witnesses. -/
import Derived.Test.YtblplapkdmhikaaGreatDxam
import Derived.Test.YtblplapkdmhikaaGreatDxaq
import Derived.Test.YtblplapkdmhikaaGreatDxar
import Derived.Test.YtblplapkdmhikaaGreatDxav
import Derived.Test.YtblplapkdmhikaaGreatDxay
namespace Go.Proofs.YtblplapkdmhikaaGreat
set_option linter.unusedVariables false
set_option linter.unusedSimpArgs false
section
open Go.RowKit
def ZaD (id:Int) (o:HOp):Bool:=o.read&& !((ZI o).tx==0)&& !((ZI o).tx==id)
def ZF (id:Int) (l:List HOp):Nat→List Ver
 |0=>[]
 |k+1=>
  match l[k]? with
  |some o=>if ZaD id o&& !(ZF id l k).contains (ZI o) then ZF id l k++[ZI o] else ZF id l k
  |none=>ZF id l k
def Zai (id:Int) (l:List HOp):List Ver:=ZF id l l.length
def Za7 (txs:List HTx) (v:Ver):Bool:=
 if v.tx=0∧v.nth=0 then idB v.key
 else match Za txs v.tx with
  |some t=>decide (1≤v.nth)&&decide (v.nth≤(Zg t.ops v.key:Int))
  |none=>false
def Zgb (txs:List HTx) (id:Int) (l:List HOp):Bool:=(Zai id l).all (Za7 txs)
def ZQ (l:List HOp) (f:HOp→Bool):List Int:=(l.filter f).map (·.key)
def Z0 (l:List HOp):List Int:=Zcl (ZQ l fun o=> !o.read)
def Zkv (s:List Int):List Int→List Int
 |[]=>s
 |k::l=>Zkv (if k∈s then s else s++[k]) l
def ZiM:List HTx→List Int→List Int
 |[],s=>s
 |t::l,s=>ZiM l (if t.done then Zkv s (Z0 t.ops) else s)
def Zn (txs:List HTx) (key:Int):List Int:=(txs.filter fun t=>t.done&&(Z0 t.ops).contains key).map (·.id)
def Zgo (txs:List HTx) (i:Nat):Bool:=
 match txs[i]? with
 |none=>true
 |some t=>(match i with|0=>true|j+1=>(match txs[j]? with|some u=>decide (u.id<t.id)|none=>true))&&Zp t.id t.ops==0&&Zgb txs t.id t.ops
def ZeF (txs:List HTx) (ords:List HOrd) (i:Nat):Bool:=
 match ords[i]? with
 |none=>true
 |some o=>(match i with|0=>true|j+1=>(match ords[j]? with|some u=>decide (u.key<o.key)|none=>true))&& !o.txs.isEmpty&&(Zav o.txs==Zav (Zn txs o.key))
def ZP (h:Hist):Bool:=
 decide (h.txs.length≤4096)&&(List.range h.txs.length).all (Zgo h.txs)&&(ZiM h.txs []).length==h.ords.length&&(List.range h.ords.length).all (ZeF h.txs h.ords)
def ZbX (txs:List HTx) (id:Int):Option HTx:=match Za txs id with|some t=>if t.done then some t else none|none=>none
def ZgE (txs:List HTx) (v:Ver):Bool:=if v.tx=0 then true else match ZbX txs v.tx with|some t=>v.nth==(Zg t.ops v.key:Int)|none=>false
def Zgx (ords:List HOrd) (key x y:Int):Bool:=ZkL (Zjq ords key) x==some y
def Zhf (id:Int) (l:List HOp) (key:Int) (counts:Ver→Bool):Bool:=l.any fun o=>o.read&&o.key==key&& !(o.tx==id)&&counts (ZI o)
def ZiY (h:Hist) (e:Edge):Bool:=
 match ZbX h.txs e.f,ZbX h.txs e.t with
 |some a,some b=>
  if e.f=e.t then false
  else if e.k=1 then Zgx h.ords e.key e.f e.t
  else if e.k=2 then Zhf b.id b.ops e.key fun v=>v.tx==e.f&&ZgE h.txs v
  else if e.k=3 then Zhf a.id a.ops e.key fun v=>ZgE h.txs v&&Zgx h.ords e.key v.tx e.t
  else false
 |_,_=>false
structure HBad where
 tx:Int
 place:Int
 of:Ver
deriving DecidableEq
def HBad.cells (b:HBad):List Value:=[.int .i64 b.tx,.int .i64 b.place,.int .i64 b.of.tx,.int .i64 b.of.key,.int .i64 b.of.nth]
def Zlc (txs:List HTx) (p:Int) (b:HBad):Bool:=
 match ZbX txs b.tx with
 |none=>false
 |some t=>
  if b.place<0 then false
  else match t.ops[b.place.toNat]? with
   |none=>false
   |some o=>
    if !o.read|| !(ZI o==b.of)||o.tx==0||o.tx==t.id then false
    else if p=2 then (match Za txs o.tx with|some u=> !u.done|none=>true)
    else if p=3 then decide (o.nth<(Zg (match Za txs o.tx with|some u=>u.ops|none=>[]) o.key:Int))
    else false
def Zjz (m p:Int):Bool:=(bits .andNot .i64 m (ZiQ p)==0)&&(ZiP p==0|| !(bits .and .i64 m (ZiP p)==0))
def ZdG:HBad:=⟨0,0,⟨0,0,0⟩⟩
def Zci (h:Hist) (p:Int) (l:List Edge) (b:HBad):Bool:=
 ZP h&&(if p=2∨p=3 then decide (l.length=0)&&Zlc h.txs p b
  else !(ZiQ p==0)&&b==ZdG&&ZjV l&&Zjz (Zkj l) p&&l.all (ZiY h))
/-! from any place -/
end
/- Whether a version is there. -/
section
open Go.RowKit
theorem ZhK {txs:List HTx} {v:Ver} (h:¬(v.tx=0∧v.nth=0)) (hf:Za txs v.tx=none):Za7 txs v=false:=by unfold Za7;rw[if_neg h,hf]
theorem ZhJ {txs:List HTx} {v:Ver} {t:HTx} (h:¬(v.tx=0∧v.nth=0)) (hf:Za txs v.tx=some t):Za7 txs v=(decide (1≤v.nth)&&decide (v.nth≤(Zg t.ops v.key:Int))):=by unfold Za7;rw[if_neg h,hf]
section
variable (F:Nat→Prop) (w:World) (txs:List HTx) (ords:List HOrd) (A:Option Addr) (c:Nat) (B:Option Addr) (d:Nat) (i:Int)
end
theorem ZhO {txs:List HTx} {i:Int} {t:HTx} (h:Za txs i=some t):t∈txs:=List.mem_of_find?_eq_some h
end
/- What an index of transactions tells,in plain words. -/
section
open Go.RowKit
theorem Zdd {l m:List Int} (hl:l.Pairwise (·<·)) (hm:m.Pairwise (·<·)) (h:∀a,a∈l↔a∈m):l=m:=
 Zbd ((List.perm_ext_iff_of_nodup (hl.imp fun h=>Int.ne_of_lt h) (hm.imp fun h=>Int.ne_of_lt h)).2 h) (hl.imp Int.le_of_lt) (hm.imp Int.le_of_lt)
theorem Zac {txs:List HTx} {i:Int} {t:HTx} (hf:Za txs i=some t):t∈txs∧t.id=i:=by
 have h2:=List.find?_some hf;exact⟨ZhO hf,by simpa using h2⟩
def ZY (l:List Int) (x:Int):List Int:=if x∈l then l else l.filter (fun y=>decide (y<x))++x::l.filter (fun y=>decide (x<y))
def Zab (l:List Int) (x:Int):List Int:=l.filter fun y=> !(y==x)
theorem Zej (l:List Int) (x a:Int):a∈ZY l x↔a=x∨a∈l:=by
 unfold ZY
 split
 ·rename_i h
  constructor
  ·exact fun h2=> .inr h2
  ·rintro(rfl|h2)
   ·exact h
   ·exact h2
 ·rename_i h
  rw[List.mem_append,List.mem_cons,List.mem_filter,List.mem_filter,decide_eq_true_eq,decide_eq_true_eq]
  constructor
  ·rintro(⟨h1,_⟩|h1|⟨h1,_⟩)
   ·exact .inr h1
   ·exact .inl h1
   ·exact .inr h1
  ·rintro(h1|h1)
   ·exact .inr (.inl h1)
   ·rcases Int.lt_trichotomy a x with h2|h2|h2
    ·exact .inl ⟨h1,h2⟩
    ·exact .inr (.inl h2)
    ·exact .inr (.inr ⟨h1,h2⟩)
theorem ZhY {l:List Int} (h:l.Pairwise (·<·)) (x:Int):(ZY l x).Pairwise (·<·):=by
 unfold ZY
 split
 ·exact h
 ·rw[List.pairwise_append,List.pairwise_cons];refine⟨h.sublist List.filter_sublist,⟨fun a ha=> ?_,h.sublist List.filter_sublist⟩,fun a ha b hb=> ?_⟩
  ·rw[List.mem_filter,decide_eq_true_eq]at ha;exact ha.2
  ·rw[List.mem_filter,decide_eq_true_eq]at ha;rw[List.mem_cons,List.mem_filter,decide_eq_true_eq]at hb;rcases hb with hb|hb<;>omega
theorem Ziq (l:List Int) (x a:Int):a∈Zab l x↔a∈l∧a≠x:=by
 unfold Zab;rw[List.mem_filter];simp
theorem Zjp {l:List Int} (h:l.Pairwise (·<·)) (x:Int):(Zab l x).Pairwise (·<·):=h.sublist List.filter_sublist
theorem Zdf {l:List Int} {x:Int} (h:x∉l):Zab l x=l:=by
 unfold Zab;rw[List.filter_eq_self];intro a ha;have:a≠x:=fun e=>h (e▸ha)
 simpa using this
def Z5 (p:HTx→Bool) (q:List HTx):List Int:=(q.filter p).map (·.id)
theorem ZaS (p:HTx→Bool) (q:List HTx) (a:Int):a∈Z5 p q↔∃t∈q,p t=true∧t.id=a:=by
 unfold Z5;simp only[List.mem_map,List.mem_filter]
 constructor
 ·rintro⟨t,⟨h1,h2⟩,h3⟩;exact⟨t,h1,h2,h3⟩
 ·rintro⟨t,h1,h2,h3⟩;exact⟨t,⟨h1,h2⟩,h3⟩
theorem Zh6 (p:HTx→Bool) (q:List HTx):(Z5 p q).length≤q.length:=by
 unfold Z5;rw[List.length_map];exact List.length_filter_le _ _
def ZA (q:List HTx):Prop:=(q.map (·.id)).Pairwise (·<·)
theorem Za4 {q:List HTx} (h:ZA q) (p:HTx→Bool):(Z5 p q).Pairwise (·<·):=h.sublist (List.filter_sublist.map _)
def Zd (q:List HTx) (id:Int):List HTx:=q.filter fun t=> !(t.id==id)
def ZT (q:List HTx) (t:HTx):List HTx:=q.filter (fun x=>decide (x.id<t.id))++t::q.filter (fun x=>decide (t.id<x.id))
theorem ZaF (q:List HTx) (id:Int) (t:HTx):t∈Zd q id↔t∈q∧t.id≠id:=by unfold Zd;rw[List.mem_filter];simp
theorem ZaE (q:List HTx) (t x:HTx):x∈ZT q t↔x=t∨(x∈q∧x.id≠t.id):=by
 unfold ZT;rw[List.mem_append,List.mem_cons,List.mem_filter,List.mem_filter,decide_eq_true_eq,decide_eq_true_eq]
 constructor
 ·rintro(⟨h1,h2⟩|h1|⟨h1,h2⟩)
  ·exact .inr ⟨h1,by omega⟩
  ·exact .inl h1
  ·exact .inr ⟨h1,by omega⟩
 ·rintro(h1|⟨h1,h2⟩)
  ·exact .inr (.inl h1)
  ·rcases Int.lt_or_gt_of_ne h2 with h3|h3
   ·exact .inl ⟨h1,h3⟩
   ·exact .inr (.inr ⟨h1,h3⟩)
theorem Zbq {q:List HTx} (h:ZA q) (id:Int):ZA (Zd q id):=h.sublist (List.filter_sublist.map _)
theorem ZbT {q:List HTx} (h:ZA q) (t:HTx):ZA (ZT q t):=by
 unfold ZA ZT;rw[List.map_append,List.map_cons,List.pairwise_append,List.pairwise_cons];refine⟨h.sublist (List.filter_sublist.map _),⟨fun a ha=> ?_,h.sublist (List.filter_sublist.map _)⟩,fun a ha b hb=> ?_⟩
 ·obtain⟨x,hx,rfl⟩:=List.mem_map.1 ha;rw[List.mem_filter,decide_eq_true_eq]at hx;exact hx.2
 ·obtain⟨x,hx,rfl⟩:=List.mem_map.1 ha;rw[List.mem_filter,decide_eq_true_eq]at hx;rw[List.mem_cons]at hb;rcases hb with hb|hb
  ·omega
  ·obtain⟨y,hy,rfl⟩:=List.mem_map.1 hb;rw[List.mem_filter,decide_eq_true_eq]at hy;omega
theorem Zih (q:List HTx) (t:HTx):(ZT q t).length≤q.length+1:=by
 unfold ZT;rw[List.length_append,List.length_cons]
 have:∀m:List HTx,(m.filter fun y=>decide (y.id<t.id)).length+(m.filter fun y=>decide (t.id<y.id)).length≤m.length:=fun m=>by
  induction m with
  |nil=>simp
  |cons a m ih=>
   simp only[List.filter_cons,List.length_cons]
   by_cases h1:a.id<t.id<;>by_cases h2:t.id<a.id<;>simp[h1,h2]<;>omega
 have:=this q;omega
theorem Zew (q:List HTx) (id:Int):(Zd q id).length≤q.length:=List.length_filter_le _ _
theorem Zec {q:List HTx} (h:ZA q) {a b:HTx} (ha:a∈q) (hb:b∈q) (e:a.id=b.id):a=b:=by
 induction q with
 |nil=>cases ha
 |cons x q ih=>
  unfold ZA at h;rw[List.map_cons,List.pairwise_cons]at h;rcases List.mem_cons.1 ha with rfl|ha'
  ·rcases List.mem_cons.1 hb with rfl|hb'
   ·rfl
   ·have:=h.1 b.id (List.mem_map.2 ⟨b,hb',rfl⟩);omega
  ·rcases List.mem_cons.1 hb with rfl|hb'
   ·have:=h.1 a.id (List.mem_map.2 ⟨a,ha',rfl⟩);omega
   ·exact ih h.2 ha' hb'
theorem ZaY {q:List HTx} (h:ZA q) (id:Int) (t:HTx):Za q id=some t↔t∈q∧t.id=id:=by
 constructor
 ·exact Zac
 ·rintro⟨h1,rfl⟩
  cases hf:Za q t.id with
  |none=>
   unfold Za at hf;rw[List.find?_eq_none]at hf;have:=hf t h1;simp at this
  |some u=>
   have:=Zac hf;rw[Zec h this.1 h1 this.2]
theorem ZaL {q:List HTx} (h:ZA q) (id i:Int):Za (Zd q id) i=if i=id then none else Za q i:=by
 apply Option.ext
 intro t;rw[ZaY (Zbq h id),ZaF]
 split
 ·rename_i e
  simp;intro _ h2 h3;exact h2 (h3.trans e)
 ·rename_i e
  rw[ZaY h]
  constructor
  ·rintro⟨⟨h1,_⟩,h2⟩;exact⟨h1,h2⟩
  ·rintro⟨h1,h2⟩;exact⟨⟨h1,fun h3=>e (h2.symm.trans h3)⟩,h2⟩
theorem ZcT {q:List HTx} (h:ZA q) (t:HTx) (i:Int):Za (ZT q t) i=if i=t.id then some t else Za q i:=by
 apply Option.ext
 intro u;rw[ZaY (ZbT h t),ZaE]
 split
 ·rename_i e
  subst e
  constructor
  ·rintro⟨h1|⟨_,h1⟩,h2⟩
   ·rw[h1]
   ·exact absurd h2 h1
  ·intro h1;cases h1;exact⟨.inl rfl,rfl⟩
 ·rename_i e
  rw[ZaY h]
  constructor
  ·rintro⟨h1|⟨h1,_⟩,h2⟩
   ·exact absurd (by rw[←h2,h1]) e
   ·exact⟨h1,h2⟩
  ·rintro⟨h1,h2⟩;exact⟨.inr ⟨h1,fun h3=>e (h2.symm.trans h3)⟩,h2⟩
theorem ZeX {q:List HTx} (p:HTx→Bool) (id:Int):Z5 p (Zd q id)=Zab (Z5 p q) id:=by
 unfold Z5 Zd Zab;rw[List.filter_map,List.filter_filter,List.filter_filter]
 congr 1
 apply List.filter_congr
 intro x _;simp[Bool.and_comm]
theorem Zf2 {q:List HTx} (h:ZA q) (p:HTx→Bool) (t:HTx):Z5 p (ZT q t)=if p t=true then ZY (Z5 p (Zd q t.id)) t.id else Z5 p (Zd q t.id):=by
 have hd:=Za4 (Zbq h t.id) p
 split
 ·rename_i hp
  refine Zdd (Za4 (ZbT h t) p) (ZhY hd _) fun a=> ?_
  rw[Zej,ZaS,ZaS]
  constructor
  ·rintro⟨x,h1,h2,h3⟩;rw[ZaE]at h1;rcases h1 with rfl|⟨h1,h4⟩
   ·exact .inl h3.symm
   ·exact .inr ⟨x,(ZaF _ _ _).2 ⟨h1,h4⟩,h2,h3⟩
  ·rintro(rfl|⟨x,h1,h2,h3⟩)
   ·exact⟨t,(ZaE _ _ _).2 (.inl rfl),hp,rfl⟩
   ·exact⟨x,(ZaE _ _ _).2 (.inr ((ZaF _ _ _).1 h1)),h2,h3⟩
 ·rename_i hp
  refine Zdd (Za4 (ZbT h t) p) hd fun a=> ?_
  rw[ZaS,ZaS]
  constructor
  ·rintro⟨x,h1,h2,h3⟩;rw[ZaE]at h1;rcases h1 with rfl|⟨h1,h4⟩
   ·exact absurd h2 hp
   ·exact⟨x,(ZaF _ _ _).2 ⟨h1,h4⟩,h2,h3⟩
  ·rintro⟨x,h1,h2,h3⟩;exact⟨x,(ZaE _ _ _).2 (.inr ((ZaF _ _ _).1 h1)),h2,h3⟩
/-! what is told -/
def Zy (t:HTx):List Ver:=Zai t.id t.ops
def ZaB (v:Ver) (t:HTx):Bool:=(Zy t).contains v
def ZbQ (id:Int) (t:HTx):Bool:=(Zy t).any fun v=>v.tx==id
def Zb7 (key:Int) (t:HTx):Bool:=t.done&&(Z0 t.ops).contains key
def Zs (q:List HTx) (v:Ver):List Int:=Z5 (ZaB v) q
def Zaw (q:List HTx) (id:Int):List Int:=Z5 (ZbQ id) q
theorem ZaO (q:List HTx) (key:Int):Zn q key=Z5 (Zb7 key) q:=rfl
def ZaH (q:List HTx) (id key:Int):Nat:=match Za q id with|some t=>Zg t.ops key|none=>0
def Zk (q:List HTx):Nat:=(q.map fun t=>t.ops.length+1).sum
def Zi (a b:Ver):Bool:=if a.tx=b.tx then (if a.key=b.key then decide (a.nth<b.nth) else decide (a.key<b.key)) else decide (a.tx<b.tx)
theorem Zby (a b:Ver):Zi a b=true↔a.tx<b.tx∨(a.tx=b.tx∧(a.key<b.key∨(a.key=b.key∧a.nth<b.nth))):=by
 unfold Zi
 split
 ·split
  ·simp_all
  ·simp_all
 ·simp_all
theorem Zbx (a:Ver):¬Zi a a=true:=by rw[Zby];omega
theorem ZbK (a b c:Ver) (h:Zi a b=true) (k:Zi b c=true):Zi a c=true:=by rw[Zby]at*;omega
theorem Zbv (a b:Ver) (h:¬Zi a b=true) (k:a≠b):Zi b a=true:=by
 rw[Zby]at*;obtain⟨a1,a2,a3⟩:=a;obtain⟨b1,b2,b3⟩:=b;simp only[Ver.mk.injEq,ne_eq]at*;omega
def ZM (v:Ver):List Ver→List Ver
 |[]=>[v]
 |y::l=>if Zi y v=true then y::ZM v l else v::(y::l).filter fun z=> !(z==v)
theorem Zdg (v a:Ver):∀l,a∈ZM v l↔a=v∨a∈l
 |[]=>by simp[ZM]
 |y::l=>by
  unfold ZM
  split
  ·rw[List.mem_cons,Zdg v a l,List.mem_cons];grind
  ·rw[List.mem_cons,List.mem_filter];simp;grind
theorem Zf8 (v:Ver):∀l:List Ver,(l.Pairwise fun a b=>Zi a b=true)→(ZM v l).Pairwise fun a b=>Zi a b=true
 |[],_=>by simp[ZM]
 |y::l,h=>by
  rw[List.pairwise_cons]at h;unfold ZM
  split
  ·rename_i hy
   rw[List.pairwise_cons];refine⟨fun a ha=> ?_,Zf8 v l h.2⟩;rcases(Zdg v a l).1 ha with rfl|ha
   ·exact hy
   ·exact h.1 a ha
  ·rename_i hy
   rw[List.pairwise_cons];refine⟨fun a ha=> ?_,(List.pairwise_cons.2 h).sublist List.filter_sublist⟩;rw[List.mem_filter]at ha;have hne:a≠v:=by simpa using ha.2
   rcases List.mem_cons.1 ha.1 with rfl|ha2
   ·exact Zbv _ _ hy hne
   ·by_cases hyv:y=v
    ·rw[←hyv];exact h.1 a ha2
    ·exact ZbK _ _ _ (Zbv _ _ hy hyv) (h.1 a ha2)
def Z8 (q:List HTx) (acc:List Ver):List Ver→List Ver
 |[]=>acc
 |v::l=>Z8 q (if Za7 q v then acc else ZM v acc) l
def ZaK (q:List HTx) (acc:List Ver):List HTx→List Ver
 |[]=>acc
 |t::l=>ZaK q (Z8 q acc (Zy t)) l
def Zaq (q:List HTx):List Ver:=ZaK q [] q
theorem Zel (q:List HTx) (a:Ver):∀(l acc:List Ver),a∈Z8 q acc l↔a∈acc∨(a∈l∧Za7 q a=false)
 |[],acc=>by simp[Z8]
 |v::l,acc=>by
  unfold Z8;rw[Zel q a l]
  cases hv:Za7 q v
  ·simp only[Bool.false_eq_true,if_false];rw[Zdg,List.mem_cons]
   constructor
   ·rintro((rfl|h)|h)
    ·exact .inr ⟨.inl rfl,hv⟩
    ·exact .inl h
    ·exact .inr ⟨.inr h.1,h.2⟩
   ·rintro(h|⟨rfl|h,h2⟩)
    ·exact .inl (.inr h)
    ·exact .inl (.inl rfl)
    ·exact .inr ⟨h,h2⟩
  ·simp only[if_true];rw[List.mem_cons]
   constructor
   ·rintro(h|h)
    ·exact .inl h
    ·exact .inr ⟨.inr h.1,h.2⟩
   ·rintro(h|⟨rfl|h,h2⟩)
    ·exact .inl h
    ·rw[hv]at h2;cases h2
    ·exact .inr ⟨h,h2⟩
theorem Zfl (q:List HTx):∀(l acc:List Ver),(acc.Pairwise fun a b=>Zi a b=true)→(Z8 q acc l).Pairwise fun a b=>Zi a b=true
 |[],acc,h=>h
 |v::l,acc,h=>by
  unfold Z8;refine Zfl q l _ ?_
  split
  ·exact h
  ·exact Zf8 v acc h
theorem Zem (q:List HTx) (a:Ver):∀(l:List HTx) (acc:List Ver),a∈ZaK q acc l↔a∈acc∨∃t∈l,a∈Zy t∧Za7 q a=false
 |[],acc=>by simp[ZaK]
 |t::l,acc=>by
  unfold ZaK;rw[Zem q a l,Zel];simp only[List.mem_cons]
  grind
theorem Zfm (q:List HTx):∀(l:List HTx) (acc:List Ver),(acc.Pairwise fun a b=>Zi a b=true)→(ZaK q acc l).Pairwise fun a b=>Zi a b=true
 |[],acc,h=>h
 |t::l,acc,h=>Zfm q l _ (Zfl q _ _ h)
theorem ZgA (q:List HTx) (a:Ver):a∈Zaq q↔∃t∈q,a∈Zy t∧Za7 q a=false:=by
 unfold Zaq;rw[Zem];simp
theorem Zhx (q:List HTx):(Zaq q).Pairwise fun a b=>Zi a b=true:=Zfm q q [] List.Pairwise.nil
def okQ (q:List HTx):Prop:=∀t∈q,Zp t.id t.ops=0
theorem Zfc {q:List HTx} (h:okQ q) (id:Int):okQ (Zd q id):=fun t ht=>h t ((ZaF _ _ _).1 ht).1
theorem Zjs {q:List HTx} (h:okQ q) {t:HTx} (ht:Zp t.id t.ops=0):okQ (ZT q t):=fun x hx=>by
 rcases(ZaE _ _ _).1 hx with rfl|h1
 ·exact ht
 ·exact h x h1.1
theorem Zbt (id:Int) (l:List HOp) (v:Ver):∀k,v∈ZF id l k→∃j o,j<k∧l[j]? =some o∧ZaD id o=true∧ZI o=v
 |0,h=>by simp[ZF]at h
 |k+1,h=>by
  unfold ZF at h
  cases hk:l[k]? with
  |none=>
   rw[hk]at h;obtain⟨j,o,h1,h2⟩:=Zbt id l v k h;exact⟨j,o,by omega,h2⟩
  |some o=>
   rw[hk]at h;simp only at h
   split at h
   ·rename_i hc
    rw[List.mem_append,List.mem_singleton]at h;rcases h with h|rfl
    ·obtain⟨j,o,h1,h2⟩:=Zbt id l v k h;exact⟨j,o,by omega,h2⟩
    ·simp only[Bool.and_eq_true]at hc;exact⟨k,o,by omega,hk,hc.1,rfl⟩
   ·obtain⟨j,o,h1,h2⟩:=Zbt id l v k h;exact⟨j,o,by omega,h2⟩
theorem Zc7 {id:Int} {l:List HOp}:∀k,Zo id l k=0→∀j,j<k→ZW id l j=0
 |0,_,j,hj=>by omega
 |k+1,h,j,hj=>by
  unfold Zo at h
  by_cases e:Zo id l k=0
  ·rw[if_pos e]at h;rcases Nat.lt_or_ge j k with hjk|hjk
   ·exact Zc7 k e j hjk
   ·have:j=k:=by omega
    subst this;exact h
  ·rw[if_neg e]at h;exact absurd h e
theorem ZbZ {id:Int} {l:List HOp} (h:Zp id l=0):idB id=true∧l.length≤4095∧Zo id l l.length=0:=by
 unfold Zp at h
 split at h
 ·cases h
 ·rename_i h1
  split at h
  ·cases h
  ·rename_i h2
   exact⟨by simpa using h1,by omega,h⟩
theorem ZfP {t:HTx} (h:Zp t.id t.ops=0) {v:Ver} (hv:v∈Zy t):v.tx≠0∧1≤v.nth∧v.tx≠t.id:=by
 obtain⟨j,o,h1,h2,h3,rfl⟩:=Zbt _ _ _ _ hv;obtain⟨_,_,h5⟩:=ZbZ h;have h6:=Zc7 _ h5 j h1
 have h7:opB o=true:=by
  cases hb:opB o
  ·have hj:j<t.ops.length:=h1;have hx:t.ops[j]=o:=by rw[Qg hj]at h2;cases h2;rfl
   rw[ZfD hj hx hb]at h6
   cases h6
  ·rfl
 unfold ZaD at h3;simp only[Bool.and_eq_true,Bool.not_eq_true',beq_eq_false_iff_ne]at h3;have hvo:ZI o=⟨o.tx,o.key,o.nth⟩:=by unfold ZI;rw[if_pos h3.1.1]
 rw[hvo]at h3 ⊢;exact⟨h3.1.2,Zhm h7 h3.1.1 h3.1.2,h3.2⟩
theorem Zfk {q:List HTx} (hq:okQ q) {v:Ver} (hv:∃t∈q,v∈Zy t):Za7 q v=false↔(ZaH q v.tx v.key:Int)<v.nth:=by
 obtain⟨t,ht,hvt⟩:=hv;obtain⟨h1,h2,_⟩:=ZfP (hq t ht) hvt;unfold ZaH
 cases hf:Za q v.tx with
 |none=>
  rw[ZhK (fun h=>h1 h.1) hf];simp;omega
 |some u=>
  rw[ZhJ (fun h=>h1 h.1) hf];simp only[Bool.and_eq_false_iff,decide_eq_false_iff_not];omega
end
/- What a transaction needs of others. -/
section
open Go.RowKit
theorem Zay:SlT Tryz.prog 167 36 3 24:=SlT.mk_ Tryz.underlying167 (z:= .agg #[.int .i64 0,.int .i64 0,.int .i64 0]) (by kernel_rfl) rfl (by omega)
theorem Zdb {l:List Ver}:∀r∈l.map Ver.cells,r.length=3:=fun r hr=>by
 obtain⟨e,_,rfl⟩:=List.mem_map.1 hr;rfl
def Za9 (w:World) (l:List Ver) (e:Ending) (w':World):Prop:=∃A c,e= .returned (.slice A l.length c)∧w'.ownsRow w.heap.size 36 3 (.slice A l.length c) l.length (l.map Ver.cells).flatten∧Upd No w w'
def MetV (m:List (Ver×Value)) (xs:List Ver) (k:Nat):Prop:=∀v:Ver,∃n:Nat,(Zm m v).getD (.int .i64 0)= .int .i64 n∧n≤k∧(n=0↔v∉xs)
theorem MetV.nil:MetV [] [] 0:=fun v=>⟨0,by rw[ZaR];rfl,Nat.le_refl _,by simp⟩
theorem MetV.mono {m:List (Ver×Value)} {xs:List Ver} {k:Nat} (h:MetV m xs k):MetV m xs (k+1):=fun v=>by
 obtain⟨n,h1,h2,h3⟩:=h v;exact⟨n,h1,by omega,h3⟩
theorem MetV.put {m:List (Ver×Value)} {xs:List Ver} {k n:Nat} {v:Ver} (h:MetV m xs k) (hn:(Zm m v).getD (.int .i64 0)= .int .i64 n):MetV (Zt m v (.int .i64 ((n:Int)+1))) (if n=0 then xs++[v] else xs) (k+1):=fun u=>by
 obtain⟨n',h1,h2,h3⟩:=h v;rw[h1]at hn;obtain rfl:n'=n:=by injection hn with _ hn;omega
 by_cases e:u=v
 ·subst e;refine⟨n'+1,by rw[Zz];rfl,by omega,?_⟩
  constructor
  ·intro e;omega
  ·intro hn2
   split at hn2
   ·simp at hn2
   ·rename_i h0
    exact absurd (h3.2 hn2) h0
 ·rw[Zv _ _ e];obtain⟨q,g1,g2,g3⟩:=h u;refine⟨q,g1,by omega,?_⟩;rw[g3]
  split
  ·simp[e]
  ·rfl
theorem ZcP {id:Int} {l:List HOp} {k:Nat} {x:HOp} (hk:k<l.length) (hx:l[k]=x) (h:ZaD id x=false):ZF id l (k+1)=ZF id l k:=by
 show(match l[k]? with|some o=>_|none=>_)=_
 rw[Qg hk,hx];simp[h]
theorem Zgy {id:Int} {l:List HOp} {k:Nat} {x:HOp} (hk:k<l.length) (hx:l[k]=x) (h:ZaD id x=true):ZF id l (k+1)=if ZI x∉ZF id l k then ZF id l k++[ZI x] else ZF id l k:=by
 show(match l[k]? with|some o=>_|none=>_)=_
 rw[Qg hk,hx];simp[h]
theorem ZaW (id:Int) (l:List HOp):∀k,(ZF id l k).length≤k
 |0=>Nat.le_refl _
 |k+1=>by
  have ih:=ZaW id l k
  show(match l[k]? with|some o=>_|none=>_:List Ver).length≤_
  split
  ·split
   ·simp;omega
   ·omega
  ·omega
set_option maxRecDepth 100000 in
set_option maxHeartbeats 4000000 in
theorem Zg6 (F:Nat→Prop) (w:World) (i0:Int) (dn:Bool) (A:Option Addr) (c:Nat) (l:List HOp) (h:HOps F w A l) (hl:Ze l.length):
  Calls Tryz.prog 119 #[.agg #[.int .i64 i0,.bool dn,.slice A l.length c]] w (Za9 w (Zai i0 l)):=by
 unfold Ze at hl;have uT:=(Upd.refl No w).alloc (.cells #[.int .i64 i0,.bool dn,.slice A l.length c] 81);have bT:=Qh (Blk.new w 81 [.int .i64 i0,.bool dn,.slice A l.length c]);have hmm:= @run_makeMap Tryz.prog;have hn0:=MapE.new (w.alloc (.cells #[.int .i64 i0,.bool dn,.slice A l.length c] 81)) ZN;simp only[World.size_alloc]at hn0;have HN:=Qh hn0;clear hn0
 go_enter Tryz.func119,Tryz.ntmps119
 go_wp2
 go_loopg [3,12] l.length (fun gk s i wr=>∃(k:Nat) (A3:Option Addr) (c3:Nat) (xs:List Ver) (m:List (Ver×Value)),k+gk=l.length∧i= .int .i64 k∧s= .slice A3 xs.length c3∧Hid (xs=ZF i0 l k)∧xs.length≤k∧
  Hid (MapE wr (w.heap.size+1) ZN m)∧Hid (MetV m xs k)∧wr.ownsRow (w.heap.size+2) 36 3 (.slice A3 xs.length c3) xs.length (xs.map Ver.cells).flatten∧
  Upd No (w.alloc (.cells #[.int .i64 i0,.bool dn,.slice A l.length c] 81)) wr)
 case atStart=>exact⟨0,none,0,[],[],by omega,rfl,rfl,Qh rfl,by simp,Qh HN.out,Qh MetV.nil,World.ownsRow_nil _ _ _ _,(Upd.refl No _).alloc _⟩
 case round=>
  obtain⟨k,A3,c3,xs,m,hgk,rfl,rfl,hxs,hxl,hm,hW,hown,hu⟩:=hrel;clear hmm
  by_cases hlt:k<l.length
  ·obtain⟨ad,hAd,q0,q1,q2,q3⟩:=(h.upd (uT.trans hu) (fun _ _=>id)).at_ hlt;obtain⟨x,hx⟩:∃x,l[k]=x:=⟨_,rfl⟩;rw[hx]at q0 q1 q2 q3;subst hAd;have X:=Qh hx;have b1:(0:Int)≤(k:Int):=Qn _;have b2:(k:Int)<(l.length:Int):=by omega
   have uA:=(Upd.refl No wr).alloc (.cells #[.bool x.read,.int .i64 x.key,.int .i64 x.tx,.int .i64 x.nth] 95);have bo:=Qh (Blk.new wr 95 [.bool x.read,.int .i64 x.key,.int .i64 x.tx,.int .i64 x.nth]);clear hx;have hl1:=hm.out.lt;have hm1:=hm.out.upd uA id;have hown1:=Zb hown uA (fun _ _=>id);have bT1:=Qh ((bT.out.upd hu id).upd uA id);obtain⟨v,hv⟩:∃v,ZI x=v:=⟨_,rfl⟩;have hof:=oof (wr.alloc (.cells #[.bool x.read,.int .i64 x.key,.int .i64 x.tx,.int .i64 x.nth] 95)) x;rw[hv]at hof;have Hof:=Qh (hof.mono (R':=fun e w'=>e= .returned (.agg #[.int .i64 v.tx,.int .i64 v.key,.int .i64 v.nth])∧Upd No (wr.alloc (.cells #[.bool x.read,.int .i64 x.key,.int .i64 x.tx,.int .i64 x.nth] 95)) w') fun e w' h=>h);have V:=Qh hv;clear hof hv
   go_wp2_with fail
   refine(Hof.out).mono ?_;rintro e w1 ⟨rfl,hu1⟩;have uV:=hu1.alloc (.cells #[.int .i64 v.tx,.int .i64 v.key,.int .i64 v.nth] 36);have bv:=Blk.new w1 36 [.int .i64 v.tx,.int .i64 v.key,.int .i64 v.nth];have bo1:=bo.out.upd uV id;have bT2:=bT1.out.upd uV id;have hm2:=hm1.upd uV id;have hown2:=Zb hown1 uV (fun _ _=>id);have k0:=bo1.cell 0;have t0:=bT2.cell 0;have v0:=bv.cell 0;have v1:=bv.cell 1;have v2:=bv.cell 2;simp only[Qz,Qs]at k0 t0 v0 v1 v2;have HU:=Qh ((hu.trans uA).trans uV);have hz1:=uV.size;simp only[World.size_alloc]at hz1;have hz2:=hu1.size;simp only[World.size_alloc]at hz2;have hz3:=hu.size;simp only[World.size_alloc]at hz3;clear uA uV hm1 hown1 bo1 bT2 bv hu1
   cases hr:x.read
   ·rw[hr]at k0;have HS:=Qh (ZcP (id:=i0) hlt X.out (by unfold ZaD;rw[hr];rfl));clear hr;go_wp2
    go_roundg (gk-1)
    case measure=>omega
    case rel=>exact⟨k+1,A3,c3,xs,m,by omega,by go_num,rfl,Qh (by rw[HS.out,hxs.out]),by omega,Qh hm2,Qh hW.out.mono,hown2,HU.out⟩
   ·rw[hr]at k0
    by_cases h0:v.tx=0
    ·have HS:=Qh (ZcP (id:=i0) hlt X.out (by unfold ZaD;rw[V.out,h0];simp));have h0b:(v.tx==0)=true:=by simpa using h0
     clear hr h0;go_wp2
     go_roundg (gk-1)
     case measure=>omega
     case rel=>exact⟨k+1,A3,c3,xs,m,by omega,by go_num,rfl,Qh (by rw[HS.out,hxs.out]),by omega,Qh hm2,Qh hW.out.mono,hown2,HU.out⟩
    ·have h0b:(v.tx==0)=false:=by simpa using h0
     clear h0
     by_cases h1:v.tx=i0
     ·have h1b:(v.tx==i0)=true:=by simpa using h1
      have HS:=Qh (ZcP (id:=i0) hlt X.out (by unfold ZaD;rw[V.out,h1b];simp));clear hr h1;go_wp2
      go_roundg (gk-1)
      case measure=>omega
      case rel=>exact⟨k+1,A3,c3,xs,m,by omega,by go_num,rfl,Qh (by rw[HS.out,hxs.out]),by omega,Qh hm2,Qh hW.out.mono,hown2,HU.out⟩
     ·have h1b:(v.tx==i0)=false:=by simpa using h1
      have HS:=Qh (show ZF i0 l (k+1)=if v∉xs then xs++[v] else xs by rw[hxs.out,←V.out];exact Zgy (id:=i0) hlt X.out (by unfold ZaD;rw[V.out,h1b,hr,h0b];rfl));clear hr h1;obtain⟨N,hN,hNk,hN0⟩:=hW.out v;have HWp:=Qh (hW.out.put hN);have HN0:=Qh hN0;clear hN0;have HZW:=Qh (show(w1.alloc (.cells #[.int .i64 v.tx,.int .i64 v.key,.int .i64 v.nth] 36)).heap.size=w1.heap.size+1 by simp);go_wp2
      generalize hW0:w1.alloc (.cells #[.int .i64 v.tx,.int .i64 v.key,.int .i64 v.nth] 36)=W0 at*
      clear hW0;have hzw:=HZW.out;have HUW:=HU;have hwr:IntKind.i64.wrap ((N:Int)+1)=(N:Int)+1:=IntWalk.i64_in _ (by omega);have hwn:w1.heap.size≠w.heap.size+1:=by omega
      have hun:∀i,One (w.heap.size+1) i→w.heap.size+1≤i:=fun i e=>by cases e;exact Nat.le_refl _
      have hmd:MapE W0.drew (w.heap.size+1) ZN m:=hm2;obtain⟨st,w2,e2,hm3,hu2,hst⟩:=ZcI ZaG Tryz.underlying264 Zbo hmd v;have e1:=ZB ZaG Tryz.underlying264 Zbo hmd.is v;have e3:=ZB ZaG Tryz.underlying264 Zbo hm3.is v;rw[Zz]at e3;rw[hN]at e1 e2 e3;obtain⟨w3,e4,hm4,hu3⟩:=hst (.int .i64 ((N:Int)+1));have e5:=ZB ZaG Tryz.underlying264 Zbo hm4.is v;rw[Zz]at e5;change (Instr.lookup 264 (.map (some (w.heap.size+1))) (.agg #[.int .i64 v.tx,.int .i64 v.key,.int .i64 v.nth]) false).run Tryz.prog W0.drew= .ok (.int .i64 N) W0.drew at e1;change (Instr.lookup 264 (.map (some (w.heap.size+1))) (.agg #[.int .i64 v.tx,.int .i64 v.key,.int .i64 v.nth]) false).run Tryz.prog w2= .ok (.int .i64 N) w2 at e3;change (Instr.mapEntry 264 (.map (some (w.heap.size+1))) (.agg #[.int .i64 v.tx,.int .i64 v.key,.int .i64 v.nth])).run Tryz.prog W0.drew= .ok (.tuple #[.int .i64 N,.int .i64 st]) w2 at e2;change (Instr.entryStore 264 (.map (some (w.heap.size+1))) (.int .i64 st) (.int .i64 ((N:Int)+1))).run Tryz.prog w2= .ok () w3 at e4;change (Instr.lookup 264 (.map (some (w.heap.size+1))) (.agg #[.int .i64 v.tx,.int .i64 v.key,.int .i64 v.nth]) false).run Tryz.prog w3= .ok (.int .i64 ((N:Int)+1)) w3 at e5;have a0:=Upd.keep hu2 (p:=⟨w1.heap.size,0,none⟩) v0 hwn;have a1:=Upd.keep hu2 (p:=⟨w1.heap.size,1,none⟩) v1 hwn;have a2:=Upd.keep hu2 (p:=⟨w1.heap.size,2,none⟩) v2 hwn;have c0:=Upd.keep hu3 (p:=⟨w1.heap.size,0,none⟩) v0 hwn;have c1:=Upd.keep hu3 (p:=⟨w1.heap.size,1,none⟩) v1 hwn;have c2:=Upd.keep hu3 (p:=⟨w1.heap.size,2,none⟩) v2 hwn
      have hown3:=Zb hown2 hu3.of_drew (fun i hi e=>by have:=(hown2.lt i hi).1;cases e;omega);have HU3:=Qh (HUW.out.then_ hu3.of_drew fun i e=> .inr (by simp only[World.size_alloc];exact hun i e));have hz4:W0.heap.size≤w3.heap.size:=hu3.size;have Hm4:=Qh hm4;clear hN hst hmd hm2 hm3 hm4 hown2 hu2 hu3
      go_region_held3 (fun w'=>w'.cell? ⟨w1.heap.size,0,none⟩=some (.int .i64 v.tx)∧w'.cell? ⟨w1.heap.size,1,none⟩=some (.int .i64 v.key)∧w'.cell? ⟨w1.heap.size,2,none⟩=some (.int .i64 v.nth))
       (first|exact⟨v0,v1,v2⟩|exact⟨a0,a1,a2⟩|exact⟨c0,c1,c2⟩) (fail)
      all_goals
       clear e1 e2 e3 e4 a0 a1 a2 v0 v1 v2 k0 t0 hwr;have Hc:=Qh c0
       by_cases hN1:N=0
       ·have HS2:=Qh (show ZF i0 l (k+1)=xs++[v] by rw[HS.out,if_pos (HN0.out.1 hN1)]);have HW2:=HWp.out;rw[if_pos hN1]at HW2;have HW3:=Qh HW2;have e6:(Instr.lookup 264 (.map (some (w.heap.size+1))) (.agg #[.int .i64 v.tx,.int .i64 v.key,.int .i64 v.nth]) false).run Tryz.prog w3= .ok (.int .i64 1) w3:=by rw[e5,hN1];rfl
        clear hN1 e5 HW2
        go_wp2_with (at_builtin;refine ZS rfl rfl Zay (v:= .slice A3 xs.length c3) (cells:=[.int .i64 v.tx,.int .i64 v.key,.int .i64 v.nth]) (by rfl) rfl hown3 rfl rfl (by omega) (by omega) (by omega) ?_;intro g' c' w4 hown4 hu4 hg4 hlt4)
        go_roundg (gk-1)
        case measure=>omega
        case rel=>
         refine⟨k+1,some ⟨g',0,none⟩,c',xs++[v],_,by omega,by go_num,by simp,Qh (by rw[HS2.out]),by simp;omega,Qh (Hm4.out.upd hu4 (fun e=>by have:=(hown3.lt _ e).1;omega)),HW3,?_,HU3.out.then_ hu4 fun i e=> .inr (by have:=(hown3.lt i e).1;simp only[World.size_alloc];omega)⟩
         simpa[Ver.cells]using hown4
       ·have HS2:=Qh (show ZF i0 l (k+1)=xs by rw[HS.out,if_neg (fun e=>hN1 (HN0.out.2 e))]);have HW2:=HWp.out;rw[if_neg hN1]at HW2;have HW3:=Qh HW2;have hb1:((N:Int)+1==1)=false:=by rw[beq_eq_false_iff_ne];omega
        clear hN1 HW2;go_wp2
        go_roundg (gk-1)
        case measure=>omega
        case rel=>exact⟨k+1,A3,c3,xs,_,by omega,by go_num,rfl,Qh (by rw[HS2.out]),by omega,Hm4,HW3,hown3,HU3.out⟩
  ·obtain rfl:k=l.length:=by omega
   have Hx:=Qh (show xs=Zai i0 l by rw[hxs.out];rfl);clear hxs;go_wp2
   go_ret
   exact⟨A3,c3,by rw[Hx.out];rfl,by rw[←Hx.out];exact ZJ hown (by omega),uT.trans hu⟩
end
end Go.Proofs.YtblplapkdmhikaaGreat
