/- What the document tells of histories, in plain words; it is what the program tells. -/
import Derived.Test.YtklmahmfmbppkaaGreatVak
import Derived.Test.YtklmahmfmbppkaaGreatVav
import Derived.Test.YtklmahmfmbppkaaGreatVbc
import Derived.Test.YtklmahmfmbppkaaGreatVbh
namespace Go.Proofs.YtklmahmfmbppkaaGreat
set_option linter.unusedVariables false
set_option linter.unusedSimpArgs false
section
open Go.RowKit
theorem Zld {l m:List Int} (hl:l.Pairwise (·<·)) (hm:m.Pairwise (·<·)) (h:∀a,a∈l↔a∈m):l=m:=
 ZeW ((List.perm_ext_iff_of_nodup (hl.imp fun h=>Int.ne_of_lt h) (hm.imp fun h=>Int.ne_of_lt h)).2 h) (hl.imp Int.le_of_lt) (hm.imp Int.le_of_lt)
theorem Zo8 (xs:List Int) (n:Int):ZL n (ZaI xs)=ZaI (xs++[n]):=
 Zld (Zdh n _ (ZbL xs)) (ZbL _) fun a=>by rw[Zbi,ZaJ,ZaJ,List.mem_append,List.mem_singleton];grind
def ZfG (a b:List Int):Bool:=a.length==b.length&&a.all fun x=>a.count x==b.count x
theorem ZeS:∀(a b:List Int),a.length=b.length→(∀x∈a,a.count x=b.count x)→a.Perm b
 |[],b,hl,_=>by
  have:b=[]:=List.eq_nil_of_length_eq_zero (by simpa using hl.symm);subst this;exact List.Perm.refl _
 |x::a,b,hl,h=>by
  have hx:=h x (List.mem_cons_self ..)
  have hxb:x∈b:=by
   rw[List.count_cons_self]at hx;exact List.count_pos_iff.1 (by omega)
  have hp:=List.perm_cons_erase hxb;refine((ZeS a (b.erase x) ?_ fun y hy=> ?_).cons x).trans hp.symm
  ·have:=hp.length_eq;simp only[List.length_cons]at*;omega
  ·have h1:=h y (List.mem_cons_of_mem _ hy);rw[hp.count_eq]at h1;simp only[List.count_cons]at h1;omega
theorem Zep (a b:List Int):ZfG a b=(ZaY a==ZaY b):=by
 rw[Bool.eq_iff_iff];unfold ZfG;simp only[Bool.and_eq_true,beq_iff_eq,List.all_eq_true]
 constructor
 ·rintro⟨h1,h2⟩;have hp:=ZeS a b h1 h2;exact ZeW (((Z4 a).trans hp).trans (Z4 b).symm) (Zdo a) (Zdo b)
 ·intro h;have hp:a.Perm b:=((Z4 a).symm.trans (by rw[h];exact Z4 b));exact⟨hp.length_eq,fun x _=>hp.count_eq x⟩
/-! keys -/
theorem Zff (tch:Bool):∀(l:List HOp) (xs:List Int),Za1 tch (ZaI xs) l=ZaI (xs++Zam l fun o=>tch|| !o.read)
 |[],xs=>by simp[Za1,Zam]
 |o::l,xs=>by
  rw[Zex]
  by_cases h:(tch|| !o.read)=true
  ·rw[if_pos h,Zo8,Zff tch l];unfold Zam;rw[List.filter_cons_of_pos (by exact h)];simp
  ·rw[if_neg h,Zff tch l];unfold Zam;rw[List.filter_cons_of_neg (by exact h)]
theorem Zrp (l:List HOp):Za1 false [] l=Z8 l:=by
 have:=Zff false l []
 simpa[Z8,show ZaI []=[] from rfl]using this
def Z9 (s:List Int):List HTx→List Int
 |[]=>s
 |t::l=>Z9 (if t.done then ZM s (Z8 t.ops) else s) l
theorem Ze7 (a:Int):∀(l:List HTx) (s:List Int),a∈Z9 s l↔a∈s∨∃t∈l,t.done=true∧a∈Z8 t.ops
 |[],s=>by simp[Z9]
 |t::l,s=>by
  show a∈Z9 (if t.done then ZM s (Z8 t.ops) else s) l↔_
  rw[Ze7 a l]
  by_cases h:t.done=true
  ·rw[if_pos h,Zew];simp only[List.mem_cons,exists_eq_or_imp,h];grind
  ·rw[if_neg h];simp only[List.mem_cons,exists_eq_or_imp,h];grind
theorem Zgt:∀(l:List HTx) (s:List Int),s.Pairwise (·<·)→(Z9 s l).Pairwise (·<·)
 |[],_,h=>h
 |t::l,s,h=>by
  show(Z9 (if t.done then ZM s (Z8 t.ops) else s) l).Pairwise (·<·)
  refine Zgt l _ ?_
  split
  ·exact ZeZ _ _ h
  ·exact h
theorem ZcE (a:Int):∀(l s:List Int),a∈Zan s l↔a∈s∨a∈l
 |[],s=>by simp[Zan]
 |k::l,s=>by
  show a∈Zan (if k∈s then s else s++[k]) l↔_
  rw[ZcE a l]
  by_cases h:k∈s
  ·rw[if_pos h,List.mem_cons];grind
  ·rw[if_neg h,List.mem_cons,List.mem_append,List.mem_singleton];grind
theorem ZbU:∀(l s:List Int),s.Nodup→(Zan s l).Nodup
 |[],_,h=>h
 |k::l,s,h=>by
  show(Zan (if k∈s then s else s++[k]) l).Nodup
  refine ZbU l _ ?_
  split
  ·exact h
  ·rename_i hk
   rw[List.nodup_append];exact⟨h,by simp,fun a ha b hb=>by rw[List.mem_singleton]at hb;subst hb;exact fun e=>hk (e▸ha)⟩
theorem ZiA (a:Int):∀(l:List HTx) (s:List Int),a∈Zz l s↔a∈s∨∃t∈l,t.done=true∧a∈Z8 t.ops
 |[],s=>by simp[Zz]
 |t::l,s=>by
  show a∈Zz l (if t.done then Zan s (Z8 t.ops) else s)↔_
  rw[ZiA a l]
  by_cases h:t.done=true
  ·rw[if_pos h,ZcE];simp only[List.mem_cons,exists_eq_or_imp,h];grind
  ·rw[if_neg h];simp only[List.mem_cons,exists_eq_or_imp,h];grind
theorem ZfX:∀(l:List HTx) (s:List Int),s.Nodup→(Zz l s).Nodup
 |[],_,h=>h
 |t::l,s,h=>by
  show(Zz l (if t.done then Zan s (Z8 t.ops) else s)).Nodup
  refine ZfX l _ ?_
  split
  ·exact ZbU _ _ h
  ·exact h
theorem Zap {l:List Int} (h:l.Pairwise (·<·)):l.Nodup:=h.imp fun h=>Int.ne_of_lt h
theorem Zmq (txs:List HTx):(Z9 [] txs).Perm (Zz txs []):=
 (List.perm_ext_iff_of_nodup (Zap (Zgt txs [] List.Pairwise.nil)) (ZfX txs [] List.nodup_nil)).2 fun a=>by rw[Ze7,ZiA]
theorem ZiH (txs:List HTx):(Z9 [] txs).length=(Zz txs []).length:=(Zmq txs).length_eq
theorem Zf8 (txs:List HTx) (key:Int):(Ze txs key)≠[]↔key∈Z9 [] txs:=by
 rw[Ze7];unfold Ze;rw[Ne,List.map_eq_nil_iff,List.filter_eq_nil_iff];simp only[List.contains_eq_mem,Bool.and_eq_true,decide_eq_true_eq]
 constructor
 ·intro h
  right
  apply Classical.byContradiction
  intro hn;exact h fun t ht hd=>hn ⟨t,ht,hd⟩
 ·rintro(h|⟨t,ht,hd⟩) hn
  ·cases h
  ·exact hn t ht hd
theorem ZnS (l:List HOp) (key:Int):key∈Z8 l↔0<Zc l key:=by
 unfold Z8 Zc wrN Zam;rw[ZaJ,List.take_length,List.mem_map,List.length_pos_iff,Ne,List.filter_eq_nil_iff];unfold isW
 constructor
 ·rintro⟨o,ho,rfl⟩ hn;rw[List.mem_filter]at ho;exact hn o ho.1 (by rw[ho.2];simp)
 ·intro h
  apply Classical.byContradiction
  intro hn;refine h fun o ho hw=>hn ⟨o,?_,?_⟩
  ·rw[List.mem_filter];grind
  ·grind
theorem Zmc (id:Int) (o:HOp):Zba id o=Zbr id o:=by
 unfold Zba Zbr ZA
 cases h:o.read<;>simp
theorem Zhe (id:Int) (l:List HOp):∀k,k≤l.length→ZF id (Z6 id l k) (l.drop k)=ZF id [] l
 |0,_=>rfl
 |k+1,hk=>by
  rw[←Zhe id l k (by omega),List.drop_eq_getElem_cons (show k<l.length by omega),Zd1,Zmc]
  congr 1
  show(match l[k]? with|some o=>_|none=>_)=_
  rw[Qg (show k<l.length by omega)]
theorem ZnN (id:Int) (l:List HOp):ZF id [] l=Ze4 id l:=by
 rw[←Zhe id l l.length (Nat.le_refl _),List.drop_length];rfl
/-! is a history right,by the document -/
def Zgm (txs:List HTx) (keys:List Int) (ords:List HOrd) (i:Nat):Bool:=
 match ords[i]?,keys[i]? with
 |some o,some k=>o.key==k&&ZfG o.txs (Ze txs o.key)
 |_,_=>true
def ZjJ (h:Hist):Bool:=
 decide (h.txs.length≤4096)&&(List.range h.txs.length).all (Zcj h.txs)&&h.ords.length==(Z9 [] h.txs).length&&(List.range h.ords.length).all (Zgm h.txs (Z9 [] h.txs) h.ords)
theorem ZhS {l:List Int} (h:∀i,i+1<l.length→l.getD i 0<l.getD (i+1) 0):l.Pairwise (·<·):=by
 have key:∀d i:Nat,i+d+1<l.length→l.getD i 0<l.getD (i+d+1) 0:=by
  intro d
  induction d with
  |zero=>intro i hi;exact h i hi
  |succ d ih=>
   intro i hi;have h1:=ih i (by omega);have h2:=h (i+d+1) (by omega);exact Int.lt_trans h1 h2
 rw[List.pairwise_iff_getElem];intro i j hi hj hij;have:=key (j-i-1) i (by omega);rw[show i+(j-i-1)+1=j by omega]at this
 simpa[List.getD_eq_getElem?_getD,Qg hi,Qg hj]using this
theorem Zer {txs:List HTx} {ords:List HOrd} {i:Nat} (hi:i<ords.length):ZcI txs ords i=true↔(∀j,j+1=i→(ords.map (·.key)).getD j 0<ords[i].key)∧ords[i].txs≠[]∧ZfG ords[i].txs (Ze txs ords[i].key)=true:=by
 unfold ZcI;rw[Qg hi,Zep]
 cases i with
 |zero=>simp
 |succ j=>
  have hj:j<ords.length:=by omega
  simp only[Qg hj];simp[List.getD_eq_getElem?_getD,Qg hj]
  grind
theorem Znr (h:Hist):ZjJ h=Zb h:=by
 obtain⟨txs,ords,A,c,B,d⟩:=h;unfold ZjJ Zb;simp only;rw[ZiH]
 by_cases hl:ords.length=(Zz txs []).length
 ·rw[show(ords.length==(Zz txs []).length)=true by simpa using hl,show((Zz txs []).length==ords.length)=true by simpa using hl.symm]
  congr 1
  rw[Bool.eq_iff_iff,List.all_eq_true,List.all_eq_true];have hk:=ZiH txs;have hkl:=Zgt txs [] List.Pairwise.nil
  constructor
  ·intro hr i hi;have hi':i<ords.length:=List.mem_range.1 hi
   have hordL:∀i (hi:i<ords.length),ords[i].key=(Z9 [] txs)[i]'(by omega)∧ZfG ords[i].txs (Ze txs ords[i].key)=true:=fun i hi=>by
    have:=hr i (List.mem_range.2 hi);unfold Zgm at this;rw[Qg hi,Qg (show i<(Z9 [] txs).length by omega)]at this
    simpa using this
   rw[Zer hi'];refine⟨fun j hj=> ?_,fun e=> ?_,(hordL i hi').2⟩
   ·have hj':j<ords.length:=by omega
    rw[List.getD_eq_getElem?_getD,List.getElem?_map,Qg hj'];simp only[Option.map_some,Option.getD_some];rw[(hordL i hi').1,(hordL j hj').1];exact List.pairwise_iff_getElem.1 hkl j i (by omega) (by omega) (by omega)
   ·have h1:=(hordL i hi').2;rw[e,Zep,beq_iff_eq]at h1;have h2:=(Zf8 txs ords[i].key).2 (by rw[(hordL i hi').1];exact List.getElem_mem _);have h3:=(Z4 (Ze txs ords[i].key)).length_eq;rw[←h1]at h3;exact h2 (List.eq_nil_of_length_eq_zero h3.symm)
  ·intro hr i hi;have hi':i<ords.length:=List.mem_range.1 hi;have hordL:=fun i (hi:i<ords.length)=>(Zer hi).1 (hr i (List.mem_range.2 hi))
   have hrise:(ords.map (·.key)).Pairwise (·<·):=ZhS fun j hj=>by
    rw[List.length_map]at hj;have:=(hordL (j+1) hj).1 j rfl;rw[show(ords.map (·.key)).getD (j+1) 0=ords[j+1].key by rw[List.getD_eq_getElem?_getD,List.getElem?_map,Qg hj];rfl];exact this
   have hsub:∀k∈ords.map (·.key),k∈Z9 [] txs:=fun k hk=>by
    obtain⟨o,ho,rfl⟩:=List.mem_map.1 hk;obtain⟨j,hj,rfl⟩:=List.mem_iff_getElem.1 ho;rw[←Zf8];intro e;have h1:=(hordL j hj).2.2;rw[e,Zep,beq_iff_eq]at h1;have h3:=(Z4 ords[j].txs).length_eq;rw[h1]at h3;exact(hordL j hj).2.1 (List.eq_nil_of_length_eq_zero h3.symm)
   have heq:ords.map (·.key)=Z9 [] txs:=by
    refine Zld hrise hkl fun a=>⟨hsub a,fun ha=> ?_⟩
    apply Classical.byContradiction
    intro hn
    have:=(List.nodup_cons.2 ⟨hn,Zap hrise⟩).length_le_of_subset (l₂:=Z9 [] txs) fun x hx=>by
     rcases List.mem_cons.1 hx with rfl|hx
     ·exact ha
     ·exact hsub x hx
    rw[List.length_cons,List.length_map]at this;omega
   unfold Zgm;rw[Qg hi',Qg (show i<(Z9 [] txs).length by omega)];have e1:(Z9 [] txs)[i]'(by omega)=ords[i].key:=by simp only[←heq,List.getElem_map]
   simp[e1,(hordL i hi').2.2]
 ·rw[show(ords.length==(Zz txs []).length)=false by simpa using hl,show((Zz txs []).length==ords.length)=false by simpa using fun e=>hl e.symm];simp
end
/- Orders:the first order that goes along all edges,in plain words;what is kept while ids are taken one by one. -/
section
open Go.RowKit
def Za2 (l:List Edge) (left:List Int) (x:Int):Bool:=l.all fun e=> !(decide (e.t=x)&&decide (e.f∈left))
def Zd0 (l:List Edge):Nat→List Int→List Int→Option (List Int)
 |0,_,out=>some out
 |n+1,left,out=>match left.find? (Za2 l left)with
  |none=>none
  |some x=>Zd0 l n (left.erase x) (out++[x])
def ZbW (ids:List Int) (l:List Edge):Option (List Int):=Zd0 l (ZaI ids).length (ZaI ids) []
def ZH (l:List Edge) (L:List Int) (x:Int):Nat:=(l.filter fun e=>decide (e.t=x)&&decide (e.f∈L)).length
def Zaz (l:List Edge) (ids:List Int) (a:Int):List Int:=(l.filter fun e=>decide (e.f=a)&&(decide (e.f∈ids)&&decide (e.t∈ids))).map (·.t)
theorem ZgA (l:List Edge) (L:List Int) (x:Int):Za2 l L x=(ZH l L x==0):=by
 rw[Bool.eq_iff_iff];unfold Za2 ZH;simp only[List.all_eq_true,beq_iff_eq,List.length_eq_zero_iff,List.filter_eq_nil_iff]
 grind
theorem ZlO (l:List Edge) (L:List Int) (x:Int):ZH l L x≤l.length:=List.length_filter_le _ _
theorem ZjY (l:List Edge) (ids:List Int) (x:Int):(Zaz l ids x).length≤l.length:=by unfold Zaz;rw[List.length_map];exact List.length_filter_le _ _
theorem Zi1 (e:Edge) (l:List Edge) (L:List Int) (x:Int):ZH (e::l) L x=(if e.t=x∧e.f∈L then 1 else 0)+ZH l L x:=by
 unfold ZH
 by_cases h:e.t=x∧e.f∈L
 ·rw[if_pos h,List.filter_cons_of_pos (by simpa using h),List.length_cons];omega
 ·rw[if_neg h,List.filter_cons_of_neg (by simpa using h)];omega
theorem Zl9 (e:Edge) (l:List Edge) (ids:List Int) (a:Int):Zaz (e::l) ids a=(if e.f=a∧e.f∈ids∧e.t∈ids then [e.t] else [])++Zaz l ids a:=by
 unfold Zaz
 by_cases h:e.f=a∧e.f∈ids∧e.t∈ids
 ·rw[if_pos h,List.filter_cons_of_pos (by simpa using h)];rfl
 ·rw[if_neg h,List.filter_cons_of_neg (by simpa using h)];rfl
theorem ZiZ (ids L:List Int) (m x:Int) (hm:m∈L) (hd:L.Nodup) (hi:m∈ids) (hx:x∈ids):∀l:List Edge,ZH l L x=ZH l (L.erase m) x+(Zaz l ids m).count x
 |[]=>rfl
 |e::l=>by
  have ih:=ZiZ ids L m x hm hd hi hx l;rw[Zi1,Zi1,Zl9,List.count_append,ih];have he:e.f∈L.erase m↔e.f≠m∧e.f∈L:=hd.mem_erase_iff
  by_cases h1:e.t=x
  ·subst h1
   by_cases h2:e.f=m
   ·rw[if_pos ⟨rfl,by rw[h2];exact hm⟩,if_neg (by rw[he];exact fun h=>h.2.1 h2),if_pos ⟨h2,by rw[h2];exact hi,hx⟩];simp;omega
   ·rw[if_neg (c:=e.f=m∧_) (fun h=>h2 h.1)]
    by_cases h3:e.f∈L
    ·rw[if_pos ⟨rfl,h3⟩,if_pos ⟨rfl,he.2 ⟨h2,h3⟩⟩];simp;omega
    ·rw[if_neg (fun h=>h3 h.2),if_neg (fun h=>h3 (he.1 h.2).2)];simp
  ·rw[if_neg (fun h=>h1 h.1),if_neg (fun h=>h1 h.1)]
   split
   ·rw[show[e.t].count x=0 by rw[List.count_singleton];simp[h1]];omega
   ·simp
theorem Zpq (l:List Edge) (ids:List Int) (a x:Int) (h:x∈Zaz l ids a):x∈ids:=by
 unfold Zaz at h;obtain⟨e,he,rfl⟩:=List.mem_map.1 h;rw[List.mem_filter]at he;simp only[Bool.and_eq_true,decide_eq_true_eq]at he;exact he.2.2.2
structure TpI (l:List Edge) (ids L nx ys:List Int) (g:Int→Int):Prop where
 rise:L.Pairwise (·<·)
 sub:∀x∈L,x∈ids
 cnt:∀x∈ids,g x=1+((ZH l L x+nx.count x:Nat):Int)
 heap:ys.Perm (L.filter fun x=>ZH l L x+nx.count x==0)
 gone:∀x∈ids,x∉L→ZH l L x+nx.count x=0
 nxs:∀x∈nx,x∈ids
theorem TpI.mem {l:List Edge} {ids L nx ys:List Int} {g:Int→Int} (h:TpI l ids L nx ys g) (x:Int):x∈ys↔x∈L∧ZH l L x+nx.count x=0:=by
 rw[h.heap.mem_iff,List.mem_filter,beq_iff_eq]
theorem TpI.nodup {l:List Edge} {ids L nx ys:List Int} {g:Int→Int} (h:TpI l ids L nx ys g):ys.Nodup:=h.heap.nodup_iff.2 ((Zap h.rise).filter _)
theorem TpI.step {l:List Edge} {ids L nx ys:List Int} {x:Int} {g:Int→Int} (h:TpI l ids L (x::nx) ys g):
  TpI l ids L nx (if g x-1=1 then ys++[x] else ys) (fun y=>if y=x then g x-1 else g y):=by
 have hx:=h.nxs x (List.mem_cons_self ..);have hgx:=h.cnt x hx;rw[List.count_cons_self]at hgx
 have hxL:x∈L:=Classical.byContradiction fun hn=>by
  have:=h.gone x hx hn;rw[List.count_cons_self]at this;omega
 have hco:∀y,y≠x→(x::nx).count y=nx.count y:=fun y hy=>List.count_cons_of_ne (Ne.symm hy)
 have hxn:x∉ys:=fun hm=>by
  have:=((h.mem x).1 hm).2;rw[List.count_cons_self]at this;omega
 refine⟨h.rise,h.sub,fun y hy=> ?_,?_,fun y hy hn=> ?_,fun y hy=>h.nxs y (List.mem_cons_of_mem _ hy)⟩
 ·by_cases e:y=x
  ·subst e;rw[if_pos rfl];omega
  ·rw[if_neg e,h.cnt y hy,hco y e]
 ·have hnd:(L.filter fun y=>ZH l L y+nx.count y==0).Nodup:=(Zap h.rise).filter _
  split
  ·rename_i he
   refine(List.perm_ext_iff_of_nodup ?_ hnd).2 fun y=> ?_
   ·rw[List.nodup_append];exact⟨h.nodup,by simp,fun a ha b hb=>by rw[List.mem_singleton]at hb;subst hb;exact fun e=>hxn (e▸ha)⟩
   ·rw[List.mem_append,List.mem_singleton,h.mem,List.mem_filter,beq_iff_eq]
    by_cases e:y=x
    ·subst e
     constructor
     ·intro _;exact⟨hxL,by omega⟩
     ·intro _;exact Or.inr rfl
    ·rw[hco y e];simp[e]
  ·rename_i he
   refine(List.perm_ext_iff_of_nodup h.nodup hnd).2 fun y=> ?_
   rw[h.mem,List.mem_filter,beq_iff_eq]
   by_cases e:y=x
   ·subst e;rw[List.count_cons_self]
    constructor
    ·rintro⟨_,h2⟩;omega
    ·rintro⟨_,h2⟩;omega
   ·rw[hco y e]
 ·have:=h.gone y hy hn
  by_cases e:y=x
  ·subst e;exact absurd hxL hn
  ·rw[hco y e]at this;exact this
theorem Zmi {L:List Int} {p:Int→Bool} {m:Int} (hr:L.Pairwise (·<·)) (hm:m∈L) (hp:p m=true) (hl:∀y∈L,p y=true→m≤y):L.find? p=some m:=by
 cases hf:L.find? p with
 |none=>rw[List.find?_eq_none]at hf;exact absurd hp (hf m hm)
 |some x=>
  have hx:=List.find?_some hf;have hxm:=List.mem_of_find?_eq_some hf;have h1:=hl x hxm hx;rw[List.find?_eq_some_iff_append]at hf;obtain⟨_,l1,l2,rfl,hl1⟩:=hf;rcases List.mem_append.1 hm with h2|h2
  ·have:=hl1 m h2;rw[hp]at this;simp at this
  ·rcases List.mem_cons.1 h2 with rfl|h2
   ·rfl
   ·have:=(List.pairwise_cons.1 (List.pairwise_append.1 hr).2.1).1 m h2;omega
theorem TpI.find {l:List Edge} {ids L ys:List Int} {g:Int→Int} (h:TpI l ids L [] ys g) {m:Int} (hm:m∈ys) (hl:∀y∈ys,m≤y):L.find? (Za2 l L)=some m:=by
 have h1:=(h.mem m).1 hm;refine Zmi h.rise h1.1 (by rw[ZgA];simpa using h1.2) fun y hy hp=>hl y ((h.mem y).2 ⟨hy,by rw[ZgA]at hp;simpa using hp⟩)
theorem TpI.pop {l:List Edge} {ids L xs ys:List Int} {g:Int→Int} {m:Int} (h:TpI l ids L [] xs g) (hp:(ys++[m]).Perm xs):TpI l ids (L.erase m) (Zaz l ids m) ys g:=by
 have hmx:m∈xs:=hp.mem_iff.1 (by simp);have hmL:=(h.mem m).1 hmx;have hnd:=Zap h.rise;have hmi:=h.sub m hmL.1;have hs:∀x∈ids,ZH l L x=ZH l (L.erase m) x+(Zaz l ids m).count x:=fun x hx=>ZiZ ids L m x hmL.1 hnd hmi hx l
 have hyn:(ys++[m]).Nodup:=hp.nodup_iff.2 h.nodup;refine⟨h.rise.sublist List.erase_sublist,fun x hx=>h.sub x (List.mem_of_mem_erase hx),fun x hx=> ?_,?_,fun x hx hn=> ?_,fun x hx=>Zpq l ids m x hx⟩
 ·rw[h.cnt x hx,←hs x hx];simp
 ·refine(List.perm_ext_iff_of_nodup (List.nodup_append.1 hyn).1 ((hnd.erase m).filter _)).2 fun x=> ?_
  rw[List.mem_filter,beq_iff_eq,hnd.mem_erase_iff];have h1:x∈xs↔x∈ys∨x=m:=by rw[←hp.mem_iff,List.mem_append,List.mem_singleton]
  have h2:=h.mem x;have h3:m∉ys:=fun hm=>(List.nodup_append.1 hyn).2.2 m hm m (by simp) rfl
  constructor
  ·intro hx;have h4:=h2.1 (h1.2 (Or.inl hx));refine⟨⟨fun e=>h3 (e▸hx),h4.1⟩,?_⟩;rw[←hs x (h.sub x h4.1)];simpa using h4.2
  ·rintro⟨⟨h4,h5⟩,h6⟩;rw[←hs x (h.sub x h5)]at h6;rcases h1.1 (h2.2 ⟨h5,by simpa using h6⟩)with h7|h7
   ·exact h7
   ·exact absurd h7 h4
 ·rw[←hs x hx];rw[hnd.mem_erase_iff]at hn
  by_cases e:x=m
  ·subst e;simpa using hmL.2
  ·simpa using h.gone x hx (fun h=>hn ⟨e,h⟩)
theorem TpI.start {l:List Edge} {ids L xs:List Int} {g:Int→Int} (hL:L.Pairwise (·<·)) (hm:∀x,x∈L↔x∈ids) (hg:∀x∈ids,g x=1+((ZH l ids x:Nat):Int)) (hx:xs.Perm (L.filter fun x=>g x==1)):TpI l ids L [] xs g:=by
 have hc:∀x,ZH l L x=ZH l ids x:=fun x=>by unfold ZH;simp only[hm]
 refine⟨hL,fun x hx=>(hm x).1 hx,fun x hx=>by rw[hg x hx,hc];simp,?_,fun x hx hn=>absurd ((hm x).2 hx) hn,fun _ h=>by cases h⟩
 have:(L.filter fun x=>ZH l L x+([]:List Int).count x==0)=L.filter fun x=>g x==1:=List.filter_congr fun x hx=>by
  rw[hg x ((hm x).1 hx),hc,Bool.eq_iff_iff,beq_iff_eq,beq_iff_eq,List.count_nil];omega
 rw[this];exact hx
theorem TpI.stuck {l:List Edge} {ids L:List Int} {g:Int→Int} (h:TpI l ids L [] [] g):L.find? (Za2 l L)=none:=by
 rw[List.find?_eq_none];intro x hx hf;rw[ZgA]at hf;have:=(h.mem x).2 ⟨hx,by simpa using hf⟩
 cases this
theorem ZnI {l:List Edge} {L out:List Int} (h:L.find? (Za2 l L)=none) (hn:L≠[]):Zd0 l L.length L out=none:=by
 cases L with
 |nil=>exact absurd rfl hn
 |cons a L=>show(match (a::L).find? (Za2 l (a::L))with|none=>none|some x=>_)=none;rw[h]
theorem ZnH {l:List Edge} {L out:List Int} {m:Int} (h:L.find? (Za2 l L)=some m):Zd0 l L.length L out=Zd0 l (L.erase m).length (L.erase m) (out++[m]):=by
 have hm:=List.mem_of_find?_eq_some h
 cases L with
 |nil=>cases hm
 |cons a L=>
  rw[List.length_erase_of_mem hm]
  show(match (a::L).find? (Za2 l (a::L))with|none=>none|some x=>_)=_
  rw[h];rfl
theorem Zop {l:List Edge} {k:Nat} {e:Edge} (hk:k<l.length) (he:l[k]=e) (L:List Int) (x:Int):ZH (l.take (k+1)) L x=ZH (l.take k) L x+if e.t=x∧e.f∈L then 1 else 0:=by
 subst he;unfold ZH;rw[List.take_succ_eq_append_getElem hk,List.filter_append,List.length_append]
 congr 1
 split
 ·rename_i h;rw[List.filter_cons_of_pos (by simpa using h)];rfl
 ·rename_i h;rw[List.filter_cons_of_neg (by simpa using h)];rfl
theorem Zl8 {l:List Edge} {k:Nat} {e:Edge} (hk:k<l.length) (he:l[k]=e) (ids:List Int) (a:Int):Zaz (l.take (k+1)) ids a=Zaz (l.take k) ids a++if e.f=a∧e.f∈ids∧e.t∈ids then [e.t] else []:=by
 subst he;unfold Zaz;rw[List.take_succ_eq_append_getElem hk,List.filter_append,List.map_append]
 congr 1
 split
 ·rename_i h;rw[List.filter_cons_of_pos (by simpa using h)];rfl
 ·rename_i h;rw[List.filter_cons_of_neg (by simpa using h)];rfl
def ZlU (o:Option (List Int)) (none_:Int):List Int×Int:=match o with
 |some l=>(l,0)
 |none=>([],none_)
end
/- Edges,reads and witnesses by the document,in plain words;for right histories they are what the program tells. -/
section
open Go.RowKit
section
variable {h:Hist}
theorem ZgY (hr:Zb h=true) {i:Nat} (hi:i<h.txs.length):Zcj h.txs i=true:=by
 unfold Zb at hr;simp only[Bool.and_eq_true,List.all_eq_true,List.mem_range]at hr;exact hr.1.1.2 i hi
theorem Zc9 (hr:Zb h=true):(h.txs.map (·.id)).Pairwise (·<·):=ZhS fun j hj=>by
 rw[List.length_map]at hj;have:=ZgY hr hj;unfold Zcj at this;rw[Qg hj]at this;simp only[Bool.and_eq_true]at this;have h1:=this.1.1;simp only[Qg (show j<h.txs.length by omega),decide_eq_true_eq]at h1;rw[List.getD_eq_getElem?_getD,List.getD_eq_getElem?_getD,List.getElem?_map,List.getElem?_map,Qg hj,Qg (show j<h.txs.length by omega)];exact h1
theorem Zg1 (hr:Zb h=true) {t:HTx} (ht:t∈h.txs):Zd h.txs t.id=some t:=by
 obtain⟨k,hk,rfl⟩:=List.mem_iff_getElem.1 ht;have hp:=List.pairwise_iff_getElem.1 (Zc9 hr);refine ZeF hk (fun j hj=> ?_) (by simp);have:=hp j k (by simp;omega) (by simpa using hk) hj;simp only[List.getElem_map]at this;rw[beq_eq_false_iff_ne];omega
theorem Zee {txs:List HTx} {i:Int} {t:HTx} (hf:Zd txs i=some t):t∈txs∧t.id=i:=by
 refine⟨ZcX hf,?_⟩;unfold Zd at hf;have:=List.find?_some hf
 simpa using this
theorem ZbZ (hr:Zb h=true) {t:HTx} (ht:t∈h.txs):ZS t.id t.ops=0∧Zbb h.txs t.id t.ops=true:=by
 obtain⟨k,hk,rfl⟩:=List.mem_iff_getElem.1 ht;have:=ZgY hr hk;unfold Zcj at this;rw[Qg hk]at this;simp only[Bool.and_eq_true,beq_iff_eq]at this;exact⟨this.1.2,this.2⟩
theorem ZjI (hr:Zb h=true) {t:HTx} (ht:t∈h.txs):1≤t.id:=by
 have:=(ZbZ hr ht).1;unfold ZS at this
 split at this
 ·cases this
 ·rename_i hid
  unfold idB at hid;simp at hid;exact hid.1
theorem Zix (id:Int) (l:List HOp):∀k,k≤l.length→∀j (hj:j<k) (hl:j<l.length),Zbr id l[j]=true→ZA l[j]∈Z6 id l k
 |0,_,j,hj,_,_=>by omega
 |k+1,hk,j,hj,hl,hn=>by
  have ih:=Zix id l k (by omega)
  show ZA l[j]∈(match l[k]? with|some o=>_|none=>_)
  rw[Qg (show k<l.length by omega)]
  by_cases e:j=k
  ·subst e;simp only[hn,Bool.true_and]
   by_cases hc:ZA l[j]∈Z6 id l j
   ·simp[hc]
   ·simp[hc]
  ·have:=ih j (by omega) hl hn;simp only
   split
   ·exact List.mem_append_left _ this
   ·exact this
theorem Zno (hr:Zb h=true) {t:HTx} (ht:t∈h.txs) {o:HOp} (ho:o∈t.ops) (hn:Zbr t.id o=true):Zaj h.txs (ZA o)=true:=by
 have h1:=(ZbZ hr ht).2;unfold Zbb at h1;rw[List.all_eq_true]at h1;obtain⟨j,hj,rfl⟩:=List.mem_iff_getElem.1 ho;exact h1 _ (Zix t.id t.ops _ (Nat.le_refl _) j hj hj hn)
theorem ZkR (hr:Zb h=true) {t:HTx} (ht:t∈h.txs) {o:HOp} (ho:o∈t.ops) (hrd:o.read=true) (h0:o.tx≠0) (h1:o.tx≠t.id):∃u,Zd h.txs o.tx=some u:=by
 have hv:ZA o=⟨o.tx,o.key,o.nth⟩:=by unfold ZA;rw[if_pos hrd]
 have:=Zno hr ht ho (by unfold Zbr;rw[hv];simp[hrd,h0,h1]);rw[hv]at this
 cases hf:Zd h.txs o.tx with
 |some u=>exact⟨u,rfl⟩
 |none=>
  unfold Zaj at this;simp[h0,hf]at this
end
/-! how often there is a reason for an edge -/
def p2 (f key:Int) (n:Nat) (o:HOp):Bool:=o.read&&o.key==key&&o.tx==f&&o.nth==(n:Int)
def p3 (h:Hist) (id key t:Int) (o:HOp):Bool:=o.read&&o.key==key&& !(o.tx==id)&&Zbx h.txs ⟨o.tx,o.key,o.nth⟩&&Zct h.ords key o.tx t
def ZB (h:Hist) (e:Edge):Nat:=
 match ZG h.txs e.f,ZG h.txs e.t with
 |some a,some b=>
  if e.f=e.t then 0
  else if e.k=1 then (if Zct h.ords e.key e.f e.t then 1 else 0)
  else if e.k=2 then b.ops.countP (p2 e.f e.key (Zc a.ops e.key))
  else if e.k=3 then a.ops.countP (p3 h a.id e.key e.t)
  else 0
 |_,_=>0
theorem Zbp {txs:List HTx} {i:Int} {t:HTx} (hd:ZG txs i=some t):Zd txs i=some t∧t.done=true:=by
 unfold ZG at hd
 split at hd
 ·split at hd
  ·rename_i u hf hu
   cases hd
   exact⟨hf,hu⟩
  ·cases hd
 ·cases hd
/-! bad reads -/
def ZaL (txs:List HTx) (t:HTx) (p:Int) (o:HOp):Bool:=
 t.done&&o.read&& !(o.tx==0)&& !(o.tx==t.id)&&(match Zd txs o.tx with|none=>false|some u=>if p=2 then !u.done else p==3&&decide (o.nth<(Zc u.ops o.key:Int)))
def Zbq (txs:List HTx) (p:Int) (t:HTx) (i:Nat) (acc:List HBad):List HOp→List HBad
 |[]=>acc
 |o::l=>Zbq txs p t (i+1) (if ZaL txs t p o then acc++[⟨t.id,i,ZA o⟩] else acc) l
def ZbS (txs:List HTx) (p:Int) (acc:List HBad):List HTx→List HBad
 |[]=>acc
 |t::l=>ZbS txs p (Zbq txs p t 0 acc t.ops) l
def Za4 (h:Hist) (p:Int):List HBad:=if Zb h=true then ZbS h.txs p [] h.txs else []
/-! witnesses -/
end
/- The document:who is next,which version is the last one,which read may not be. -/
section
open Go.RowKit
theorem Zkk (x:Int):∀(l:List Int) (k:Nat),Zbl x l k=if Zg l x<l.length then ((Zg l x+k:Nat):Int) else -1
 |[],k=>by simp[Zbl,Zg]
 |y::l,k=>by
  rw[ZdT,Zkk x l (k+1)];unfold Zg;rw[List.findIdx_cons]
  by_cases h:y=x
  ·rw[if_pos h,show(y==x)=true by simpa using h];simp
  ·rw[if_neg h,show(y==x)=false by simpa using h];simp only[cond_false,List.length_cons]
   by_cases h2:l.findIdx (·==x)<l.length
   ·rw[if_pos h2,if_pos (by omega)];congr 1;omega
   ·rw[if_neg h2,if_neg (by omega)]
theorem Zrq (x:Int) (l:List Int):Zbl x l 0=if Zg l x<l.length then (Zg l x:Int) else -1:=by
 rw[Zkk];rfl
set_option maxRecDepth 100000 in
theorem Zti (F:Nat→Prop) (w:World) (A:Option Addr) (c:Nat) (l:List Int) (tx:Int) (h:Ints F w A l) (hl:l.length≤17592186044415):
  Calls Tryz.prog 113 #[.slice A l.length c,.int .i64 tx] w (ZoB w (Zae l tx)):=by
 have hidx:=Zr9 F w A c l tx h hl;rw[Zrq]at hidx
 by_cases h0:tx=0
 ·have hn:=Qh (show Zae l tx=l[0]? by unfold Zae;rw[if_pos h0]);have h0b:(tx==0)=true:=by simpa using h0
  obtain⟨iv,hiv⟩:∃iv,(if Zg l tx<l.length then (Zg l tx:Int) else -1)=iv:=⟨_,rfl⟩;rw[hiv]at hidx;have Hidx:=Qh hidx;clear hidx hiv h0
  by_cases hz:l.length=0
  ·have hn2:=Qh (show Zae l tx=none by rw[hn.out];exact List.getElem?_eq_none (by omega));obtain rfl:l=[]:=List.eq_nil_of_length_eq_zero hz;clear hz
   go_enter Tryz.func113,Tryz.ntmps113
   go_wp2_with fail
   refine(Hidx.out).mono ?_;rintro e w1 ⟨rfl,hu1⟩;go_wp2
   go_ret2
   exact⟨by rw[hn2.out];rfl,hu1⟩
  ·have hp:0<l.length:=by omega
   have hn2:=Qh (show Zae l tx=some l[0] by rw[hn.out];exact Qg hp);have hpI:(0:Int)<(l.length:Int):=by omega
   have hpI2:¬l=[]:=fun e=>by rw[e]at hp;simp at hp
   have hC:∀W,Upd No w W→∃ad,A=some ad∧W.cell? ad=some (.int .i64 l[0]):=fun W hW=>by
    obtain⟨ad,hA,_,_,hc⟩:=(h.upd hW (fun _ _=>id)).at_ hp;have ha:ad.add 0=ad:=by unfold Addr.add;simp
    rw[ha]at hc;exact⟨ad,hA,hc⟩
   obtain⟨ad,rfl,_⟩:=hC w (Upd.refl _ _)
   have hc1:∀W,Upd No w W→W.cell? ad=some (.int .i64 l[0]):=fun W hW=>by
    obtain⟨ad',e,hc⟩:=hC W hW
    cases e
    exact hc
   clear hz hC
   go_enter Tryz.func113,Tryz.ntmps113
   go_wp2_with fail
   refine(Hidx.out).mono ?_;rintro e w1 ⟨rfl,hu1⟩;go_wp2
   go_ret2
   exact⟨by rw[hn2.out];rfl,hu1⟩
 ·have hn:=Qh (show Zae l tx=if Zg l tx<l.length then l[Zg l tx+1]? else none by unfold Zae;rw[if_neg h0]);have h0b:(tx==0)=false:=by simpa using h0
  clear h0
  by_cases hp:Zg l tx<l.length
  ·rw[if_pos hp]at hidx;have Hidx:=Qh hidx;clear hidx;obtain⟨k,hk⟩:∃k,Zg l tx=k:=⟨_,rfl⟩;rw[hk]at Hidx hn hp;clear hk;have hk0:(0:Int)≤(k:Int)+1:=by omega
   by_cases he:k+1=l.length
   ·have hn2:=Qh (show Zae l tx=none by rw[hn.out,if_pos hp];exact List.getElem?_eq_none (by omega));have heb:(l.length:Int)≤(k:Int)+1:=by omega
    have He:=Qh he;clear he
    go_enter Tryz.func113,Tryz.ntmps113
    go_wp2_with fail
    refine(Hidx.out).mono ?_;rintro e w1 ⟨rfl,hu1⟩;go_wp2
    go_ret2
    exact⟨by rw[hn2.out];rfl,hu1⟩
   ·have hlt:k+1<l.length:=by omega
    have hn2:=Qh (show Zae l tx=some l[k+1] by rw[hn.out,if_pos hp];exact Qg hlt);have heb:¬(l.length:Int)≤(k:Int)+1:=by omega
    obtain⟨ad,hA,_,_,_⟩:=h.at_ hlt;subst hA
    have hc2:∀W,Upd No w W→W.cell? ⟨ad.block,ad.off+(k+1),none⟩=some (.int .i64 l[k+1]):=fun W hW=>by
     obtain⟨ad',e,_,_,hc⟩:=(h.upd hW (fun _ _=>id)).at_ hlt
     cases e
     rw[←hc]
     congr 1
    have hltI:(k:Int)+1<(l.length:Int):=by omega
    clear he
    go_enter Tryz.func113,Tryz.ntmps113
    go_wp2_with fail
    refine(Hidx.out).mono ?_;rintro e w1 ⟨rfl,hu1⟩;go_wp2
    go_ret2
    exact⟨by rw[hn2.out];rfl,hu1⟩
  ·rw[if_neg hp]at hidx;have Hidx:=Qh hidx;clear hidx;have hn2:=Qh (show Zae l tx=none by rw[hn.out,if_neg hp]);clear hp
   go_enter Tryz.func113,Tryz.ntmps113
   go_wp2_with fail
   refine(Hidx.out).mono ?_;rintro e w1 ⟨rfl,hu1⟩;go_wp2
   go_ret2
   exact⟨by rw[hn2.out];rfl,hu1⟩
end
/- Looking at a history:reads that may not be. -/
section
open Go.RowKit
def ZaM (txs:List HTx) (i:Int):Bool:=match Zd txs i with|some u=>u.done|none=>false
def Za6 (txs:List HTx) (i:Int):List HOp:=match Zd txs i with|some u=>u.ops|none=>[]
section
variable {txs:List HTx} {p:Int} {b:HBad}
end
theorem Zup (w:World) (k t n:Int):Calls Tryz.prog 116 #[.agg #[.bool true,.int .i64 k,.int .i64 t,.int .i64 n]] w fun e w'=>e= .returned (.agg #[.int .i64 t,.int .i64 k,.int .i64 n])∧Upd No w w':=oof w ⟨true,k,t,n⟩
end
/- Looking at a history:witnesses. -/
section
open Go.RowKit
section
variable {h:Hist} {p:Int} {l:List Edge} {b:HBad}
end
theorem Zrt {F:Nat→Prop} {w:World} {txs:List HTx} {ords:List HOrd} {A:Option Addr} {c:Nat} {B:Option Addr} {d:Nat} {r:Bool} (H:Hist.lies F w ⟨txs,ords,A,c,B,d⟩) (hr:Zb ⟨txs,ords,A,c,B,d⟩=r):
  Calls Tryz.prog 94 #[.agg #[.slice A txs.length c,.slice B ords.length d]] w fun e w'=>e= .returned (.bool r)∧Upd No w w':=by subst hr;exact Zn6 F w ⟨txs,ords,A,c,B,d⟩ H
end
/- The document:which version is the last one,which reads may not be. -/
section
open Go.RowKit
theorem Zml {txs:List HTx} {v:Ver} (h:v.tx=0):Zbx txs v=true:=by unfold Zbx;rw[if_pos h]
theorem Zmn {txs:List HTx} {v:Ver} (h:¬v.tx=0) (hf:Zd txs v.tx=none):Zbx txs v=false:=by unfold Zbx ZG;rw[if_neg h,hf]
theorem Zmm {txs:List HTx} {v:Ver} {t:HTx} (h:¬v.tx=0) (hf:Zd txs v.tx=some t):Zbx txs v=(t.done&&v.nth==(Zc t.ops v.key:Int)):=by
 unfold Zbx ZG;rw[if_neg h,hf]
 cases hd:t.done<;>simp[hd]
set_option maxRecDepth 100000 in
set_option maxHeartbeats 1000000 in
theorem Ztj (F:Nat→Prop) (w:World) (txs:List HTx) (ords:List HOrd) (A:Option Addr) (c:Nat) (B:Option Addr) (d:Nat) (o:HOp) (H:Hist.lies F w ⟨txs,ords,A,c,B,d⟩):
  Calls Tryz.prog 114 #[.agg #[.slice A txs.length c,.slice B ords.length d],.agg o.cells.toArray] w fun e w'=>e= .returned (.bool (Zbx txs ⟨o.tx,o.key,o.nth⟩))∧Upd No w w':=by
 obtain⟨rd,ky,tx,nt⟩:=o;unfold HOp.cells;simp only;have u0:=((Upd.refl No w).alloc (.cells #[.slice A txs.length c,.slice B ords.length d] 25)).alloc (.cells #[.bool rd,.int .i64 ky,.int .i64 tx,.int .i64 nt] 113);have bH:=Qh ((Blk.new w 25 [.slice A txs.length c,.slice B ords.length d]).alloc (.cells #[.bool rd,.int .i64 ky,.int .i64 tx,.int .i64 nt] 113));have b1:=Blk.new (w.alloc (.cells #[.slice A txs.length c,.slice B ords.length d] 25)) 113 [.bool rd,.int .i64 ky,.int .i64 tx,.int .i64 nt];simp only[World.size_alloc]at b1;have bX:=Qh b1;have U0:=Qh u0;clear b1 u0;have HH:=Qh (H.upd U0.out (fun _ _=>id))
 by_cases h0:tx=0
 ·have HV:=Qh (Zml (txs:=txs) (v:=⟨tx,ky,nt⟩) h0);have hb:(tx==0)=true:=by simpa using h0
  clear h0
  go_enter Tryz.func114,Tryz.ntmps114
  go_wp2
  go_ret
  exact⟨by rw[HV.out];rfl,U0.out⟩
 ·have hb:(tx==0)=false:=by simpa using h0
  cases hf:Zd txs tx with
  |none=>
   have HV:=Qh (Zmn (txs:=txs) (v:=⟨tx,ky,nt⟩) h0 hf);have HF:=Qh hf;clear hf h0
   go_enter Tryz.func114,Tryz.ntmps114
   go_wp2_with fail
   refine(Zco HH.out HF.out).mono ?_;rintro e w1 ⟨rfl,hu1⟩;have uT:=hu1.alloc (.cells #[.int .i64 0,.bool false,.slice none 0 0] 40);clear hu1;go_wp2;refine wp_region_noPanic ?_;refine wp_region_held_drew (S:=(fun w'=>Upd No (w1.alloc (.cells #[.int .i64 0,.bool false,.slice none 0 0] 40)) w')) (by kernel_rfl) ?_ (fun hHeld=> ?_)
   ·(first|exact(Upd.refl No _).drew|exact hHeld.trans hu3)
   refine wpK 0 rfl ?_;refine wpK 1 rfl ?_;refine wpN 2 rfl ?_;refine wpN 3 rfl ?_;refine wpK 4 rfl ?_;refine wpK 5 rfl ?_;refine wpN 6 rfl ?_;refine wpN 7 rfl ?_;refine wpN 8 rfl ?_;refine wpN 9 rfl ?_;refine wpN 10 rfl ?_;refine wpN 11 rfl ?_;refine wpR [12] ?_;refine wpC rfl (fun K hK=> ?_) AllReadyH.nil;go_simp;refine hK.out _ _ ?_ (fun hHeld=> ?_)
   ·exact hHeld
   clear hK K
   try simp only[Act.put,sT,sS,sZ]
   refine wpN 13 rfl ?_;refine wpK 14 rfl ?_;refine wpK 15 rfl ?_;refine wpD (NoPanic.normal ?_);have HU:=Qh (U0.out.trans (uT.trans hHeld));clear hHeld;go_wp2
   go_ret
   exact⟨by rw[HV.out];rfl,HU.out⟩
  |some t=>
   have HV:=Qh (Zmm (txs:=txs) (v:=⟨tx,ky,nt⟩) h0 hf);have HF:=Qh hf;have HT:=Qh (H.tx t (ZeE hf));clear hf h0;obtain⟨ti,td,tO,tA,tc⟩:=t
   go_enter Tryz.func114,Tryz.ntmps114
   go_wp2_with fail
   refine(ZaS HH.out HF.out).mono ?_;rintro e w1 ⟨A1,c1,rfl,hc1,hh1,hu1⟩;simp only at hc1 hh1 HV;have bT:=Blk.new w1 40 [.int .i64 ti,.bool td,.slice A1 tO.length c1];have uT:=hu1.alloc (.cells #[.int .i64 ti,.bool td,.slice A1 tO.length c1] 40);have t1:∀W,Upd No (w1.alloc (.cells #[.int .i64 ti,.bool td,.slice A1 tO.length c1] 40)) W→W.cell? ⟨w1.heap.size,1,none⟩=some (.bool td):=fun W hW=>(bT.upd hW id).cell 1
   have t2:∀W,Upd No (w1.alloc (.cells #[.int .i64 ti,.bool td,.slice A1 tO.length c1] 40)) W→W.cell? ⟨w1.heap.size,2,none⟩=some (.slice A1 tO.length c1):=fun W hW=>(bT.upd hW id).cell 2
   have x1:∀W,Upd No (w1.alloc (.cells #[.int .i64 ti,.bool td,.slice A1 tO.length c1] 40)) W→W.cell? ⟨w.heap.size+1,1,none⟩=some (.int .i64 ky):=fun W hW=>(bX.out.upd (uT.trans hW) id).cell 1
   have x3:∀W,Upd No (w1.alloc (.cells #[.int .i64 ti,.bool td,.slice A1 tO.length c1] 40)) W→W.cell? ⟨w.heap.size+1,3,none⟩=some (.int .i64 nt):=fun W hW=>(bX.out.upd (uT.trans hW) id).cell 3
   have HW:=Qh fun W (hW:Upd No (w1.alloc (.cells #[.int .i64 ti,.bool td,.slice A1 tO.length c1] 40)) W)=>ZbM F W A1 c1 tO ky (HOps.upd hh1 (((Upd.refl No _).alloc _).trans hW) (fun _ _=>id)) HT.out.2.2.1
   have UT:=Qh uT;clear bT uT hu1 hh1
   cases td
   ·go_wp2;refine wp_region_noPanic ?_;refine wp_region_held_drew (S:=(fun w'=>Upd No (w1.alloc (.cells #[.int .i64 ti,.bool false,.slice A1 tO.length c1] 40)) w')) (by kernel_rfl) ?_ (fun hHeld=> ?_)
    ·(first|exact(Upd.refl No _).drew|exact hHeld.trans hu3)
    refine wpK 0 rfl ?_;refine wpK 1 rfl ?_;refine wpK 2 rfl ?_;refine wpK 3 rfl ?_;refine wpK 4 rfl ?_;refine wpK 5 rfl ?_;refine wpN 6 rfl ?_;refine wpN 7 rfl ?_;refine wpN 8 rfl ?_;refine wpN 9 rfl ?_;refine wpN 10 rfl ?_;refine wpN 11 rfl ?_;refine wpR [12] ?_;refine wpC rfl (fun K hK=> ?_) AllReadyH.nil;go_simp;refine hK.out _ _ ?_ (fun hHeld=> ?_)
    ·exact hHeld
    clear hK K
    try simp only[Act.put,sT,sS,sZ]
    refine wpN 13 rfl ?_;refine wpK 14 rfl ?_;refine wpK 15 rfl ?_;refine wpD (NoPanic.normal ?_);have HU:=Qh (U0.out.trans (UT.out.trans hHeld));clear hHeld;go_wp2
    go_ret
    exact⟨by rw[HV.out];rfl,HU.out⟩
   ·go_wp2;refine wp_region_noPanic ?_;refine wp_region_held_drew (S:=(fun w'=>Upd No (w1.alloc (.cells #[.int .i64 ti,.bool true,.slice A1 tO.length c1] 40)) w')) (by kernel_rfl) ?_ (fun hHeld=> ?_)
    ·(first|exact(Upd.refl No _).drew|exact hHeld.trans hu3)
    refine wpK 0 rfl ?_;refine wpK 1 rfl ?_;refine wpK 2 rfl ?_;refine wpK 3 rfl ?_;refine wpK 4 rfl ?_;refine wpK 5 rfl ?_;refine wpK 6 rfl ?_;refine wpK 7 rfl ?_;refine wpK 8 rfl ?_;refine wpK 9 rfl ?_;refine wpK 10 rfl ?_;refine wpK 11 rfl ?_;refine wpR [12] ?_;refine wpC rfl (fun K hK=> ?_) AllReadyH.nil;go_simp
    (first
  |(go_at_call 110;refine(HW.out _ hHeld).mono ?_;rintro e w3 ⟨rfl,hu3⟩))
    try (go_wp2_with fail)
    refine hK.out _ _ ?_ (fun hHeld=> ?_)
    ·(first|exact(Upd.refl No _).drew|exact hHeld.trans hu3)
    clear hK K
    try simp only[Act.put,sT,sS,sZ]
    refine wpK 13 rfl ?_;refine wpK 14 rfl ?_;refine wpK 15 rfl ?_;refine wpD (NoPanic.normal ?_);have HU:=Qh (U0.out.trans (UT.out.trans hHeld));clear hHeld;go_wp2
    go_ret
    exact⟨by rw[HV.out];rfl,HU.out⟩
theorem ZrO (txs:List HTx) (i0:Int) (dn:Bool) (l:List HOp) (A:Option Addr) (c:Nat) (p:Int) (rd:Bool) (ky tx nt:Int):
  ZaL txs ⟨i0,dn,l,A,c⟩ p ⟨rd,ky,tx,nt⟩=(dn&&(rd&&(!(tx==0)&&(!(tx==i0)&&(match Zd txs tx with|none=>false|some u=>if p=2 then !u.done else p==3&&decide (nt<(Zc u.ops ky:Int))))))):=by
 unfold ZaL;simp only[Bool.and_assoc]
 try rfl
set_option maxRecDepth 100000 in
set_option maxHeartbeats 1000000 in
theorem Zuh (F:Nat→Prop) (w:World) (txs:List HTx) (ords:List HOrd) (A:Option Addr) (c:Nat) (B:Option Addr) (d:Nat) (i0:Int) (dn:Bool) (A1:Option Addr) (c1:Nat) (l:List HOp) (k:Nat) (p:Int) (o:HOp)
  (H:Hist.lies F w ⟨txs,ords,A,c,B,d⟩) (h:HOps F w A1 l) (hl:Zh l.length) (hk:k<l.length) (ho:l[k]=o):
  Calls Tryz.prog 70 #[.agg #[.slice A txs.length c,.slice B ords.length d],.agg #[.int .i64 i0,.bool dn,.slice A1 l.length c1],.int .i64 (k:Int),.int .i64 p] w fun e w'=>e= .returned (.bool (ZaL txs ⟨i0,dn,l,A1,c1⟩ p o))∧Upd No w w':=by
 unfold Zh at hl;have u0:=((Upd.refl No w).alloc (.cells #[.slice A txs.length c,.slice B ords.length d] 25)).alloc (.cells #[.int .i64 i0,.bool dn,.slice A1 l.length c1] 40);have bH:=Qh ((Blk.new w 25 [.slice A txs.length c,.slice B ords.length d]).alloc (.cells #[.int .i64 i0,.bool dn,.slice A1 l.length c1] 40));have b1:=Blk.new (w.alloc (.cells #[.slice A txs.length c,.slice B ords.length d] 25)) 40 [.int .i64 i0,.bool dn,.slice A1 l.length c1];simp only[World.size_alloc]at b1;have bX:=Qh b1;have U0:=Qh u0;clear b1 u0;obtain⟨rd,ky,tx,nt⟩:=o;obtain⟨ad,hAd,q0,q1,q2,q3⟩:=(h.upd U0.out (fun _ _=>id)).at_ hk;rw[ho]at q0 q1 q2 q3;simp only at q0 q1 q2 q3;subst hAd;have hv:=ZrO txs i0 dn l (some ad) c1 p rd ky tx nt;have b1:(0:Int)≤(k:Int):=Qn _;have b2:(k:Int)<(l.length:Int):=by omega
 have U1:=Qh (U0.out.alloc (.cells #[.bool rd,.int .i64 ky,.int .i64 tx,.int .i64 nt] 113));have hbo:=Blk.new ((w.alloc (.cells #[.slice A txs.length c,.slice B ords.length d] 25)).alloc (.cells #[.int .i64 i0,.bool dn,.slice (some ad) l.length c1] 40)) 113 [.bool rd,.int .i64 ky,.int .i64 tx,.int .i64 nt];simp only[World.size_alloc]at hbo;have bO:=Qh hbo;clear ho hbo
 cases dn
 ·have HV:=Qh (show ZaL txs ⟨i0,false,l,some ad,c1⟩ p ⟨rd,ky,tx,nt⟩=false by rw[hv];rfl);clear hv
  go_enter Tryz.func70,Tryz.ntmps70
  go_wp2
  go_ret
  exact⟨by rw[HV.out];rfl,U1.out⟩
 ·cases rd
  ·have HV:=Qh (show ZaL txs ⟨i0,true,l,some ad,c1⟩ p ⟨false,ky,tx,nt⟩=false by rw[hv];rfl);clear hv
   go_enter Tryz.func70,Tryz.ntmps70
   go_wp2
   go_ret
   exact⟨by rw[HV.out];rfl,U1.out⟩
  ·by_cases h0:tx=0
   ·have HV:=Qh (show ZaL txs ⟨i0,true,l,some ad,c1⟩ p ⟨true,ky,tx,nt⟩=false by rw[hv,h0];rfl);have h0b:(tx==0)=true:=by simpa using h0
    clear hv h0
    go_enter Tryz.func70,Tryz.ntmps70
    go_wp2
    go_ret
    exact⟨by rw[HV.out];rfl,U1.out⟩
   ·have h0b:(tx==0)=false:=by simpa using h0
    by_cases h1:tx=i0
    ·have HV:=Qh (show ZaL txs ⟨i0,true,l,some ad,c1⟩ p ⟨true,ky,tx,nt⟩=false by rw[hv,h1];simp);have h1b:(tx==i0)=true:=by simpa using h1
     clear hv h0 h1
     go_enter Tryz.func70,Tryz.ntmps70
     go_wp2
     go_ret
     exact⟨by rw[HV.out];rfl,U1.out⟩
    ·have h1b:(tx==i0)=false:=by simpa using h1
     have HH:=Qh (H.upd U1.out (fun _ _=>id))
     cases hf:Zd txs tx with
     |none=>
      have HV:=Qh (show ZaL txs ⟨i0,true,l,some ad,c1⟩ p ⟨true,ky,tx,nt⟩=false by rw[hv,hf];simp);have HF:=Qh hf;clear hv h0 h1 hf
      go_enter Tryz.func70,Tryz.ntmps70
      go_wp2_with fail
      refine(Zco HH.out HF.out).mono ?_;rintro e w1 ⟨rfl,hu1⟩;have HU:=Qh (U1.out.trans (hu1.alloc (.cells #[.int .i64 0,.bool false,.slice none 0 0] 40)));clear hu1;go_wp2
      go_ret
      exact⟨by rw[HV.out];rfl,HU.out⟩
     |some t=>
      have hv2:ZaL txs ⟨i0,true,l,some ad,c1⟩ p ⟨true,ky,tx,nt⟩=(if p=2 then !t.done else p==3&&decide (nt<(Zc t.ops ky:Int))):=by rw[hv,hf,h0b,h1b];rfl
      have HF:=Qh hf;have HT:=Qh (H.tx t (ZeE hf));clear hv h0 h1 hf;obtain⟨ti,td,tO,tA,tc⟩:=t;simp only at hv2
      by_cases h2:p=2
      ·have HV:=Qh (show ZaL txs ⟨i0,true,l,some ad,c1⟩ p ⟨true,ky,tx,nt⟩= !td by rw[hv2,if_pos h2]);have h2b:(p==2)=true:=by simpa using h2
       clear hv2 h2
       go_enter Tryz.func70,Tryz.ntmps70
       go_wp2_with fail
       refine(ZaS HH.out HF.out).mono ?_;rintro e w1 ⟨A2,c2,rfl,hc2,hh2,hu1⟩;have HU:=Qh (U1.out.trans (hu1.alloc (.cells #[.int .i64 ti,.bool td,.slice A2 tO.length c2] 40)));clear hu1 hc2 hh2;go_wp2
       go_ret
       exact⟨by rw[HV.out];rfl,HU.out⟩
      ·rw[if_neg h2]at hv2;have h2b:(p==2)=false:=by simpa using h2
       have HV2:=Qh hv2;clear hv2 h2
       go_enter Tryz.func70,Tryz.ntmps70
       go_wp2_with fail
       refine(ZaS HH.out HF.out).mono ?_;rintro e w1 ⟨A2,c2,rfl,hc2,hh2,hu1⟩;simp only at hc2 hh2;have bT:=Blk.new w1 40 [.int .i64 ti,.bool td,.slice A2 tO.length c2];have uT:=hu1.alloc (.cells #[.int .i64 ti,.bool td,.slice A2 tO.length c2] 40);have t2:∀W,Upd No (w1.alloc (.cells #[.int .i64 ti,.bool td,.slice A2 tO.length c2] 40)) W→W.cell? ⟨w1.heap.size,2,none⟩=some (.slice A2 tO.length c2):=fun W hW=>(bT.upd hW id).cell 2
       have x1:∀W,Upd No (w1.alloc (.cells #[.int .i64 ti,.bool td,.slice A2 tO.length c2] 40)) W→W.cell? ⟨w.heap.size+1+1,1,none⟩=some (.int .i64 ky):=fun W hW=>(bO.out.upd (uT.trans hW) id).cell 1
       have x3:∀W,Upd No (w1.alloc (.cells #[.int .i64 ti,.bool td,.slice A2 tO.length c2] 40)) W→W.cell? ⟨w.heap.size+1+1,3,none⟩=some (.int .i64 nt):=fun W hW=>(bO.out.upd (uT.trans hW) id).cell 3
       have HW:=Qh fun W (hW:Upd No (w1.alloc (.cells #[.int .i64 ti,.bool td,.slice A2 tO.length c2] 40)) W)=>ZbM F W A2 c2 tO ky (HOps.upd hh2 (((Upd.refl No _).alloc _).trans hW) (fun _ _=>id)) HT.out.2.2.1
       have UT:=Qh uT;clear bT uT hu1 hh2
       by_cases h3:p=3
       ·have h3b:(p==3)=true:=by simpa using h3
        clear h3;go_wp2;refine wp_region_noPanic ?_;refine wp_region_held_drew (S:=(fun w'=>Upd No (w1.alloc (.cells #[.int .i64 ti,.bool td,.slice A2 tO.length c2] 40)) w')) (by kernel_rfl) ?_ (fun hHeld=> ?_)
        ·(first|exact(Upd.refl No _).drew|exact hHeld.trans hu3)
        refine wpK 0 rfl ?_;refine wpK 1 rfl ?_;refine wpK 2 rfl ?_;refine wpK 3 rfl ?_;refine wpK 4 rfl ?_;refine wpK 5 rfl ?_;refine wpK 6 rfl ?_;refine wpK 7 rfl ?_;refine wpK 8 rfl ?_;refine wpR [9] ?_;refine wpC rfl (fun K hK=> ?_) AllReadyH.nil;go_simp
        (first
  |(go_at_call 110;refine(HW.out _ hHeld).mono ?_;rintro e w3 ⟨rfl,hu3⟩))
        try (go_wp2_with fail)
        refine hK.out _ _ ?_ (fun hHeld=> ?_)
        ·(first|exact(Upd.refl No _).drew|exact hHeld.trans hu3)
        clear hK K
        try simp only[Act.put,sT,sS,sZ]
        refine wpK 10 rfl ?_;refine wpK 11 rfl ?_;refine wpK 12 rfl ?_;refine wpD (NoPanic.normal ?_);have HU:=Qh (U1.out.trans (UT.out.trans hHeld));clear hHeld;go_wp2
        go_ret
        exact⟨by rw[HV2.out,h3b];rfl,HU.out⟩
       ·have h3b:(p==3)=false:=by simpa using h3
        clear h3;go_wp2;refine wp_region_noPanic ?_;refine wp_region_held_drew (S:=(fun w'=>Upd No (w1.alloc (.cells #[.int .i64 ti,.bool td,.slice A2 tO.length c2] 40)) w')) (by kernel_rfl) ?_ (fun hHeld=> ?_)
        ·(first|exact(Upd.refl No _).drew|exact hHeld.trans hu3)
        refine wpK 0 rfl ?_;refine wpK 1 rfl ?_;refine wpK 2 rfl ?_;refine wpN 3 rfl ?_;refine wpN 4 rfl ?_;refine wpN 5 rfl ?_;refine wpN 6 rfl ?_;refine wpN 7 rfl ?_;refine wpN 8 rfl ?_;refine wpR [9] ?_;refine wpC rfl (fun K hK=> ?_) AllReadyH.nil;go_simp;refine hK.out _ _ ?_ (fun hHeld=> ?_)
        ·exact hHeld
        clear hK K
        try simp only[Act.put,sT,sS,sZ]
        refine wpN 10 rfl ?_;refine wpK 11 rfl ?_;refine wpK 12 rfl ?_;refine wpD (NoPanic.normal ?_);have HU:=Qh (U1.out.trans (UT.out.trans hHeld));clear hHeld;go_wp2
        go_ret
        exact⟨by rw[HV2.out,h3b];rfl,HU.out⟩
end
/- Right histories:the document's own steps come to what the program tells. -/
section
open Go.RowKit
theorem ZiI:∀(l:List HTx) (s:List Int),Zav s l=Z9 s l
 |[],_=>rfl
 |t::l,s=>by
  rw[Zga,Zrp,ZiI l];rfl
theorem Zoy (txs:List HTx) (k:Nat) (id:Int):ZhJ txs k id=ZcY txs k id:=by
 cases k<;>rfl
theorem ZrX {txs:List HTx} {k:Nat} (hk:k<txs.length):txR txs k txs[k]=Zcj txs k:=by
 rw[Zk4 hk rfl];unfold txR Zbb;rw[Zoy,ZnN];rfl
theorem Zjt (txs:List HTx):∀(m k:Nat),k+m=txs.length→(Zb7 txs (txs.drop k) k=true↔∀i,k≤i→i<txs.length→Zcj txs i=true)
 |0,k,hk=>by
  obtain rfl:k=txs.length:=by omega
  rw[List.drop_length];exact⟨fun _ i h1 h2=>by omega,fun _=>rfl⟩
 |m+1,k,hk=>by
  have hlt:k<txs.length:=by omega
  rw[List.drop_eq_getElem_cons hlt,ZeV,Bool.and_eq_true,Zjt txs m (k+1) (by omega),ZrX hlt]
  constructor
  ·rintro⟨h1,h2⟩ i hi hi2
   by_cases e:i=k
   ·subst e;exact h1
   ·exact h2 i (by omega) hi2
  ·intro h;exact⟨h k (Nat.le_refl _) hlt,fun i hi hi2=>h i (by omega) hi2⟩
theorem ZmX (key:Int):∀(l:List HTx) (acc:List Int),wrS key acc l=acc++Ze l key
 |[],acc=>by simp[wrS,Ze]
 |t::l,acc=>by
  rw[Zge,ZmX key l]
  have hc:(Z8 t.ops).contains key=decide (0<Zc t.ops key):=by
   rw[List.contains_eq_mem]
   congr 1
   simp only[ZnS]
  unfold Ze;rw[List.filter_cons];simp only[hc]
  split<;>simp
theorem Zs6 (key:Int) (l:List HTx):wrS key [] l=Ze l key:=by rw[ZmX];simp
theorem Zis (txs:List HTx) (keys:List Int) (ords:List HOrd) (hl:ords.length=keys.length):∀(m k:Nat),k+m=ords.length→(Zcr txs keys (ords.drop k) k=true↔∀i,k≤i→i<ords.length→Zgm txs keys ords i=true)
 |0,k,hk=>by
  obtain rfl:k=ords.length:=by omega
  rw[List.drop_length];exact⟨fun _ i h1 h2=>by omega,fun _=>rfl⟩
 |m+1,k,hk=>by
  have hlt:k<ords.length:=by omega
  have hlt2:k<keys.length:=by omega
  have hone:(ords[k].key==keys.getD k 0&&(ords[k].txs.length==(wrS ords[k].key [] txs).length&&ords[k].txs.all fun x=>ords[k].txs.count x==(wrS ords[k].key [] txs).count x))=Zgm txs keys ords k:=by
   unfold Zgm ZfG;rw[Qg hlt,Qg hlt2,Zs6,List.getD_eq_getElem?_getD,Qg hlt2];rfl
  rw[List.drop_eq_getElem_cons hlt,Zg8,hone,Bool.and_eq_true,Zis txs keys ords hl m (k+1) (by omega)]
  constructor
  ·rintro⟨h1,h2⟩ i hi hi2
   by_cases e:i=k
   ·subst e;exact h1
   ·exact h2 i (by omega) hi2
  ·intro h;exact⟨h k (Nat.le_refl _) hlt,fun i hi hi2=>h i (by omega) hi2⟩
theorem Znq (h:Hist):Zat h.txs h.ords=Zb h:=by
 rw[←Znr];unfold Zat ZjJ;rw[ZiI]
 have h1:Zb7 h.txs h.txs 0=(List.range h.txs.length).all (Zcj h.txs):=by
  rw[Bool.eq_iff_iff,List.all_eq_true];have:=Zjt h.txs h.txs.length 0 (by omega);rw[List.drop_zero]at this;rw[this];exact⟨fun k i hi=>k i (Nat.zero_le _) (List.mem_range.1 hi),fun k i _ hi=>k i (List.mem_range.2 hi)⟩
 rw[h1]
 by_cases hl:h.ords.length=(Z9 [] h.txs).length
 ·have h2:Zcr h.txs (Z9 [] h.txs) h.ords 0=(List.range h.ords.length).all (Zgm h.txs (Z9 [] h.txs) h.ords):=by
   rw[Bool.eq_iff_iff,List.all_eq_true];have:=Zis h.txs (Z9 [] h.txs) h.ords hl h.ords.length 0 (by omega);rw[List.drop_zero]at this;rw[this];exact⟨fun k i hi=>k i (Nat.zero_le _) (List.mem_range.1 hi),fun k i _ hi=>k i (List.mem_range.2 hi)⟩
  rw[h2,Bool.and_assoc,Bool.and_assoc]
 ·rw[show(h.ords.length==(Z9 [] h.txs).length)=false by simpa using hl];simp
theorem Zlf (F:Nat→Prop) (w:World) (txs:List HTx) (ords:List HOrd) (A:Option Addr) (c:Nat) (B:Option Addr) (d:Nat) (H:Hist.lies F w ⟨txs,ords,A,c,B,d⟩):
  Calls Tryz.prog 69 #[.agg #[.slice A txs.length c,.slice B ords.length d]] w fun e w'=>e= .returned (.bool (Zb ⟨txs,ords,A,c,B,d⟩))∧Upd No w w':=by
 have:=Zsg F w txs ords A c B d H
 rwa [show Zat txs ords=Zb ⟨txs,ords,A,c,B,d⟩ from Znq ⟨txs,ords,A,c,B,d⟩]at this
theorem Zq7 {F:Nat→Prop} {w:World} {txs:List HTx} {ords:List HOrd} {A:Option Addr} {c:Nat} {B:Option Addr} {d:Nat} {b:Bool} (H:Hist.lies F w ⟨txs,ords,A,c,B,d⟩) (hb:Zb ⟨txs,ords,A,c,B,d⟩=b):
  Calls Tryz.prog 69 #[.agg #[.slice A txs.length c,.slice B ords.length d]] w fun e w'=>e= .returned (.bool b)∧Upd No w w':=by subst hb;exact Zlf F w txs ords A c B d H
end
/- The document:the reads that may not be. -/
section
open Go.RowKit
theorem Upd.noR {S:Nat→Prop} {a w w':World} (h:Upd S a w) (k:Upd No w w'):Upd S a w':=h.trans_ k fun _ _ t=>t.elim
def Bads (F:Nat→Prop) (w:World) (A:Option Addr) (l:List HBad):Prop:=Recs F w A 5 (l.map HBad.cells)
theorem Bads.at_ {F:Nat→Prop} {w:World} {A:Option Addr} {l:List HBad} (h:Bads F w A l) {k:Nat} (hk:k<l.length):∃ad,A=some ad∧
  w.cell? (ad.add (k*5))=some (.int .i64 l[k].tx)∧w.cell? ⟨(ad.add (k*5)).block,(ad.add (k*5)).off+1,none⟩=some (.int .i64 l[k].place)∧
  w.cell? ⟨(ad.add (k*5)).block,(ad.add (k*5)).off+2,none⟩=some (.int .i64 l[k].of.tx)∧w.cell? ⟨(ad.add (k*5)).block,(ad.add (k*5)).off+3,none⟩=some (.int .i64 l[k].of.key)∧
  w.cell? ⟨(ad.add (k*5)).block,(ad.add (k*5)).off+4,none⟩=some (.int .i64 l[k].of.nth):=by
 have hk':k<(l.map HBad.cells).length:=by simpa using hk
 obtain⟨ad,e,_,_,hc⟩:=Recs.at_ h hk';rw[List.getElem_map]at hc;exact⟨ad,e,by simpa using hc 0 _ rfl,by simpa using hc 1 _ rfl,by simpa using hc 2 _ rfl,by simpa using hc 3 _ rfl,by simpa using hc 4 _ rfl⟩
theorem Bads.upd {F S:Nat→Prop} {w w':World} {A:Option Addr} {l:List HBad} (h:Bads F w A l) (k:Upd S w w') (hn:∀i,F i→¬S i):Bads F w' A l:=Recs.upd h k hn
theorem Zjz:SlT Tryz.prog 63 119 5 40:=SlT.mk_ Tryz.underlying63 (z:= .agg #[.int .i64 0,.int .i64 0,.int .i64 0,.int .i64 0,.int .i64 0]) (by kernel_rfl) rfl (by omega)
def Zid (w:World) (l:List HBad) (e:Ending) (w':World):Prop:=∃A c,e= .returned (.slice A l.length c)∧w'.ownsRow w.heap.size 119 5 (.slice A l.length c) l.length (l.map HBad.cells).flatten∧Upd No w w'
theorem ZmL (txs:List HTx) (p:Int) (t:HTx) (i:Nat) (acc:List HBad) (o:HOp) (l:List HOp):Zbq txs p t i acc (o::l)=Zbq txs p t (i+1) (if ZaL txs t p o then acc++[⟨t.id,i,ZA o⟩] else acc) l:=rfl
theorem ZmM (txs:List HTx) (p:Int) (acc:List HBad) (t:HTx) (l:List HTx):ZbS txs p acc (t::l)=ZbS txs p (Zbq txs p t 0 acc t.ops) l:=rfl
theorem Zue (w:World) (ky tx nt:Int):Calls Tryz.prog 71 #[.agg #[.bool true,.int .i64 ky,.int .i64 tx,.int .i64 nt]] w fun e w'=>e= .returned (.agg #[.int .i64 tx,.int .i64 ky,.int .i64 nt])∧Upd No w w':=rof w ⟨true,ky,tx,nt⟩
theorem Zi4 {txs:List HTx} {t:HTx} {p:Int} {rd:Bool} {ky tx nt:Int} (h:ZaL txs t p ⟨rd,ky,tx,nt⟩=true):rd=true:=by
 unfold ZaL at h
 cases rd
 ·simp at h
 ·rfl
set_option maxRecDepth 100000 in
set_option maxHeartbeats 4000000 in
theorem Zqm (F:Nat→Prop) (w:World) (txs:List HTx) (ords:List HOrd) (A:Option Addr) (c:Nat) (B:Option Addr) (d:Nat) (p:Int) (H:Hist.lies F w ⟨txs,ords,A,c,B,d⟩):
  Calls Tryz.prog 38 #[.agg #[.slice A txs.length c,.slice B ords.length d],.int .i64 p] w (Zid w (Za4 ⟨txs,ords,A,c,B,d⟩ p)):=by
 have u0:=(Upd.refl No w).alloc (.cells #[.slice A txs.length c,.slice B ords.length d] 25);have bH:=Qh (Blk.new w 25 [.slice A txs.length c,.slice B ords.length d]);obtain⟨b,hb⟩:∃b,Zb ⟨txs,ords,A,c,B,d⟩=b:=⟨_,rfl⟩;have HR:=Qh (Zq7 (H.upd u0 (fun _ _=>id)) hb);have U0:=Qh u0;clear u0
 cases b
 ·have HV:=Qh (show([]:List HBad)=Za4 ⟨txs,ords,A,c,B,d⟩ p by unfold Za4;rw[if_neg (by rw[hb];decide)]);clear hb
  go_enter Tryz.func38,Tryz.ntmps38
  go_wp2_with fail
  refine(HR.out).mono ?_;rintro e w1 ⟨rfl,hu1⟩;have HU:=Qh (U0.out.trans hu1);go_wp2
  go_ret
  exact⟨none,0,by rw[←HV.out];rfl,by rw[←HV.out];exact World.ownsRow_nil _ _ _ _,HU.out⟩
 ·have HV:=Qh (show ZbS txs p [] txs=Za4 ⟨txs,ords,A,c,B,d⟩ p by unfold Za4;rw[if_pos hb])
  have hmany:txs.length≤4096:=by
   unfold Zb at hb;simp only[Bool.and_eq_true,decide_eq_true_eq]at hb;exact hb.1.1.1
  have hlen:=Qh (show∀t∈txs,t.ops.length≤4095 from fun t ht=>ZdL (ZbZ hb ht).1);clear hb
  go_enter Tryz.func38,Tryz.ntmps38
  go_wp2_with fail
  refine(HR.out).mono ?_;rintro e w1 ⟨rfl,hu1⟩;have HU:=Qh (U0.out.trans hu1);have BH:=Qh (bH.out.upd hu1 id);have g0:=BH.out.cell 0;simp only[Qz]at g0;have hzw:=HU.out.size;clear hu1;go_wp2;clear g0
  go_loopg [5,16] txs.length (fun gk s i wr=>∃(k:Nat) (A3:Option Addr) (c3:Nat) (xs:List HBad),k+gk=txs.length∧i= .int .i64 k∧s= .slice A3 xs.length c3∧Hid (ZbS txs p xs (txs.drop k)=ZbS txs p [] txs)∧xs.length≤4095*k∧
   Hid (wr.ownsRow w1.heap.size 119 5 (.slice A3 xs.length c3) xs.length (xs.map HBad.cells).flatten)∧Upd No w1 wr)
  case atStart=>exact⟨0,none,0,[],by omega,rfl,rfl,Qh rfl,by simp,Qh (World.ownsRow_nil _ _ _ _),Upd.refl _ _⟩
  case round=>
   obtain⟨k,A3,c3,xs,hgk,rfl,rfl,hs,hxl,hown,hu1⟩:=hrel
   by_cases hlt:k<txs.length
   ·have hu:=HU.out.trans hu1;obtain⟨ad,hAd,q0,q1,q2⟩:=(H.upd hu (fun _ _=>id)).tx_at hlt;have hlo:=H.tx txs[k] (List.getElem_mem hlt);simp only at hAd q0 q1 q2;obtain⟨x,hx⟩:∃x,txs[k]=x:=⟨_,rfl⟩;rw[hx]at q0 q1 q2 hlo;obtain⟨xi,xd,xo,xA,xc⟩:=x;simp only at q0 q1 q2;subst hAd;have X:=Qh (show txs.drop k=⟨xi,xd,xo,xA,xc⟩::txs.drop (k+1) by rw[←hx];exact List.drop_eq_getElem_cons hlt);have HL:=Qh hlo;have XM:=Qh (show(⟨xi,xd,xo,xA,xc⟩:HTx)∈txs by rw[←hx];exact List.getElem_mem hlt);have b1:(0:Int)≤(k:Int):=Qn _;have b2:(k:Int)<(txs.length:Int):=by omega
    have uA:=hu.alloc (.cells #[.int .i64 xi,.bool xd,.slice xA xo.length xc] 40);clear hx hlo;have hst:=hs.out;rw[X.out,ZmM]at hst;have HST:=Qh hst;have hol:=hlen.out _ XM.out;simp only at hol;have UA:=Qh (hu1.alloc (.cells #[.int .i64 xi,.bool xd,.slice xA xo.length xc] 40));have BT:=Qh (Blk.new wr 40 [.int .i64 xi,.bool xd,.slice xA xo.length xc]);have HO:=Qh (Za hown.out ((Upd.refl No wr).alloc (.cells #[.int .i64 xi,.bool xd,.slice xA xo.length xc] 40)) (fun _ _=>id));have hzr:=hu1.size;clear hst uA hu;have HOL:=Qh (fun i e=>hown.out.lt i e);have HW1:=Qh fun W (hW:Upd (Own (.slice A3 xs.length c3)) (wr.alloc (.cells #[.int .i64 xi,.bool xd,.slice xA xo.length xc] 40)) W)=>(show Upd No w W from(HU.out.trans UA.out).then_ hW fun i e=> .inr (Nat.le_trans hzw (HOL.out i e).1))
    have HW2:=Qh fun W (hW:Upd (Own (.slice A3 xs.length c3)) (wr.alloc (.cells #[.int .i64 xi,.bool xd,.slice xA xo.length xc] 40)) W)=>(show Upd No w1 W from UA.out.then_ hW fun i e=> .inr (HOL.out i e).1)
    have hnT:¬Own (.slice A3 xs.length c3) wr.heap.size:=fun e=>by have:=(HOL.out _ e).2;omega
    have hnH:¬Own (.slice A3 xs.length c3) w.heap.size:=fun e=>by have:=(HOL.out _ e).1;have:=BH.out.lt;omega
    have HBd:=Qh fun(o:HOp) (j:Nat) (hj:j<xo.length) (ho:xo[j]=o) W (hW:Upd (Own (.slice A3 xs.length c3)) (wr.alloc (.cells #[.int .i64 xi,.bool xd,.slice xA xo.length xc] 40)) W)=>Zuh F W txs ords (some ad) c B d xi xd xA xc xo j p o (H.upd (HW1.out _ hW) (fun _ _=>id)) (HOps.upd HL.out.1 (HW1.out _ hW) (fun _ _=>id)) HL.out.2.2.1 hj ho
    have HOps1:=Qh fun W (hW:Upd (Own (.slice A3 xs.length c3)) (wr.alloc (.cells #[.int .i64 xi,.bool xd,.slice xA xo.length xc] 40)) W)=>HOps.upd HL.out.1 (HW1.out _ hW) (fun _ _=>id)
    have t0:∀W,Upd (Own (.slice A3 xs.length c3)) (wr.alloc (.cells #[.int .i64 xi,.bool xd,.slice xA xo.length xc] 40)) W→W.cell? ⟨wr.heap.size,0,none⟩=some (.int .i64 xi):=fun W hW=>(BT.out.upd hW hnT).cell 0
    have t1:∀W,Upd (Own (.slice A3 xs.length c3)) (wr.alloc (.cells #[.int .i64 xi,.bool xd,.slice xA xo.length xc] 40)) W→W.cell? ⟨wr.heap.size,1,none⟩=some (.bool xd):=fun W hW=>(BT.out.upd hW hnT).cell 1
    have t2:∀W,Upd (Own (.slice A3 xs.length c3)) (wr.alloc (.cells #[.int .i64 xi,.bool xd,.slice xA xo.length xc] 40)) W→W.cell? ⟨wr.heap.size,2,none⟩=some (.slice xA xo.length xc):=fun W hW=>(BT.out.upd hW hnT).cell 2
    have g0:∀W,Upd (Own (.slice A3 xs.length c3)) (wr.alloc (.cells #[.int .i64 xi,.bool xd,.slice xA xo.length xc] 40)) W→W.cell? ⟨w.heap.size,0,none⟩=some (.slice (some ad) txs.length c):=fun W hW=>((BH.out.upd UA.out id).upd hW hnH).cell 0
    have g1:∀W,Upd (Own (.slice A3 xs.length c3)) (wr.alloc (.cells #[.int .i64 xi,.bool xd,.slice xA xo.length xc] 40)) W→W.cell? ⟨w.heap.size,1,none⟩=some (.slice B ords.length d):=fun W hW=>((BH.out.upd UA.out id).upd hW hnH).cell 1
    have hrefl:Upd (Own (.slice A3 xs.length c3)) (wr.alloc (.cells #[.int .i64 xi,.bool xd,.slice xA xo.length xc] 40)) (wr.alloc (.cells #[.int .i64 xi,.bool xd,.slice xA xo.length xc] 40)):=Upd.refl _ _;have hmul:4095*k≤4095*4096:=Nat.mul_le_mul_left _ (by omega);obtain⟨wo,hwo⟩:∃wo,wo=wr:=⟨_,rfl⟩;subst hwo
    generalize gk=m0 at*
    go_wp2
    go_loopg [5,23] xo.length (fun gm s i wr=>∃(j:Nat) (A4:Option Addr) (c4:Nat) (ys:List HBad),j+gm=xo.length∧i= .int .i64 j∧s= .slice A4 ys.length c4∧Hid (Zbq txs p ⟨xi,xd,xo,xA,xc⟩ j ys (xo.drop j)=Zbq txs p ⟨xi,xd,xo,xA,xc⟩ 0 xs xo)∧ys.length≤xs.length+j∧
     Hid (wr.ownsRow w1.heap.size 119 5 (.slice A4 ys.length c4) ys.length (ys.map HBad.cells).flatten)∧Hid (∀i,Own (.slice A4 ys.length c4) i→Own (.slice A3 xs.length c3) i∨wo.heap.size+1≤i)∧Upd (Own (.slice A3 xs.length c3)) (wo.alloc (.cells #[.int .i64 xi,.bool xd,.slice xA xo.length xc] 40)) wr)
    case atStart=>exact⟨0,A3,c3,xs,by omega,rfl,rfl,Qh rfl,by omega,HO,Qh (fun _=> .inl),hrefl⟩
    case round=>
     obtain⟨j,A4,c4,ys,hgm,rfl,rfl,hs2,hyl,hown2,hgr2,hu2⟩:=hrel;clear hrefl
     by_cases hlt2:j<xo.length
     ·obtain⟨ad2,hAd2,q0,q1,q2,q3⟩:=(HOps1.out _ hu2).at_ hlt2;obtain⟨x,hx⟩:∃x,xo[j]=x:=⟨_,rfl⟩;rw[hx]at q0 q1 q2 q3;obtain⟨rd,ky,tx,nt⟩:=x;simp only at q0 q1 q2 q3;subst hAd2;have Y:=Qh (show xo.drop j=⟨rd,ky,tx,nt⟩::xo.drop (j+1) by rw[←hx];exact List.drop_eq_getElem_cons hlt2);have c1:(0:Int)≤(j:Int):=Qn _;have c2:(j:Int)<(xo.length:Int):=by omega
      have hub:=hu2.alloc (.cells #[.bool rd,.int .i64 ky,.int .i64 tx,.int .i64 nt] 113);have HC:=Qh (HBd.out _ j hlt2 hx _ hub);have BO:=Qh (Blk.new wr 113 [.bool rd,.int .i64 ky,.int .i64 tx,.int .i64 nt]);have HO2:=Qh (Za hown2.out ((Upd.refl No wr).alloc (.cells #[.bool rd,.int .i64 ky,.int .i64 tx,.int .i64 nt] 113)) (fun _ _=>id));have HLT:=Qh (fun i e=>hown2.out.lt i e);have hz2:=hu2.size;have hzq:=(HW2.out _ hu2).size;simp only[World.size_alloc]at hz2;have hst:=hs2.out;rw[Y.out,ZmL]at hst;obtain⟨b,hb⟩:∃b,ZaL txs ⟨xi,xd,xo,some ad2,xc⟩ p ⟨rd,ky,tx,nt⟩=b:=⟨_,rfl⟩;rw[hb]at HC hst;clear hx
      cases b
      ·have HS:=Qh (show Zbq txs p ⟨xi,xd,xo,some ad2,xc⟩ (j+1) ys (xo.drop (j+1))=Zbq txs p ⟨xi,xd,xo,some ad2,xc⟩ 0 xs xo from hst);clear hst hb
       go_wp2_with fail
       refine(HC.out).mono ?_;rintro e w3 ⟨rfl,hu3⟩;have HO3:=Qh (Za HO2.out hu3 (fun _ _=>id));have HU3:=Qh (hub.noR hu3);clear hub hu3;go_wp2
       go_roundg (gk-1)
       case measure=>omega
       case rel=>exact⟨j+1,A4,c4,ys,by omega,by go_num,rfl,HS,by omega,HO3,hgr2,HU3.out⟩
      ·have HS:=Qh (show Zbq txs p ⟨xi,xd,xo,some ad2,xc⟩ (j+1) (ys++[⟨xi,(j:Int),⟨tx,ky,nt⟩⟩]) (xo.drop (j+1))=Zbq txs p ⟨xi,xd,xo,some ad2,xc⟩ 0 xs xo by
        rw[←hst,if_pos rfl];have:=Zi4 hb;subst this;rfl)
       have hrd:=Zi4 hb;subst hrd;clear hst hb
       go_wp2_with fail
       refine(HC.out).mono ?_;rintro e w3 ⟨rfl,hu3⟩;have HO3:=Qh (Za HO2.out hu3 (fun _ _=>id));have HU3:=Qh (hub.noR hu3);have BO3:=Qh (BO.out.upd hu3 id);have hz3:=hu3.size;simp only[World.size_alloc]at hz3;have hnO:¬Own (.slice A4 ys.length c4) wr.heap.size:=fun e=>by have:=(HLT.out _ e).2;omega
       have hnT4:¬Own (.slice A4 ys.length c4) wo.heap.size:=fun e=>by
        rcases hgr2.out _ e with e|e
        ·exact hnT e
        ·omega
       have o0:∀W,Upd (Own (.slice A4 ys.length c4)) w3 W→W.cell? ⟨wr.heap.size,0,none⟩=some (.bool true):=fun W hW=>(BO3.out.upd hW hnO).cell 0
       have o1:∀W,Upd (Own (.slice A4 ys.length c4)) w3 W→W.cell? ⟨wr.heap.size,1,none⟩=some (.int .i64 ky):=fun W hW=>(BO3.out.upd hW hnO).cell 1
       have o2:∀W,Upd (Own (.slice A4 ys.length c4)) w3 W→W.cell? ⟨wr.heap.size,2,none⟩=some (.int .i64 tx):=fun W hW=>(BO3.out.upd hW hnO).cell 2
       have o3:∀W,Upd (Own (.slice A4 ys.length c4)) w3 W→W.cell? ⟨wr.heap.size,3,none⟩=some (.int .i64 nt):=fun W hW=>(BO3.out.upd hW hnO).cell 3
       have s0:∀W,Upd (Own (.slice A4 ys.length c4)) w3 W→W.cell? ⟨wo.heap.size,0,none⟩=some (.int .i64 xi):=fun W hW=>by
        have h0:=t0 _ HU3.out;exact hW.keep h0 hnT4
       have HGR:=Qh (fun i e=>(HLT.out i e).1);clear hub hu3 t0 t1 t2 g0 g1;go_wp2;refine wp_region_noPanic ?_;refine wp_region_held_drew (S:=(fun w'=>Upd (Own (.slice A4 ys.length c4)) w3 w')) (by kernel_rfl) ?_ (fun hHeld=> ?_)
       ·(first|exact(Upd.refl _ _).drew|exact hHeld.noR hu4|exact hHeld.alloc _|exact hU6)
       refine wpK 0 rfl ?_;refine wpK 1 rfl ?_;refine wpK 2 rfl ?_;refine wpK 3 rfl ?_;refine wpK 4 rfl ?_;refine wpR [5] ?_;refine wpC rfl (fun K hK=> ?_) AllReadyH.nil;go_simp
       (first
  |(go_at_call 71;refine(Zue _ ky tx nt).mono ?_;rintro e w4 ⟨rfl,hu4⟩;have ho4:=Za HO3.out hu4.of_drew (fun _ _=>id);have hz4:=hu4.of_drew.size))
       try (go_wp2_with fail)
       refine hK.out _ _ ?_ (fun hHeld=> ?_)
       ·(first|exact(Upd.refl _ _).drew|exact hHeld.noR hu4|exact hHeld.alloc _|exact hU6)
       clear hK K
       try simp only[Act.put,sT,sS,sZ]
       refine wpK 6 rfl ?_;refine wpR [7] ?_;refine wpC rfl (fun K hK=> ?_) AllReadyH.nil;go_simp;refine hK.out _ _ ?_ (fun hHeld=> ?_)
       ·(first|exact(Upd.refl _ _).drew|exact hHeld.noR hu4|exact hHeld.alloc _|exact hU6)
       clear hK K
       try simp only[Act.put,sT,sS,sZ]
       refine wpR [8] ?_;refine wpC rfl (fun K hK=> ?_) AllReadyH.nil
       (first
  |(refine ZbC (by rfl) (by rfl) Zjz (v:= .slice A4 ys.length c4) (cells:=[.int .i64 xi,.int .i64 (j:Int),.int .i64 tx,.int .i64 ky,.int .i64 nt]) (by rfl) (by rfl) (by exact ho4.alloc _) rfl (by exact ZbG) (by rfl) (by omega) (by omega) (by simp;omega) ?_;intro g6 c6 w6 hown6 hu6 hg6 hlt6;have hU6:Upd (Own (.slice A4 ys.length c4)) w3 w6:=hHeld.trans hu6))
       refine hK.out _ _ ?_ (fun hHeld=> ?_)
       ·(first|exact(Upd.refl _ _).drew|exact hHeld.noR hu4|exact hHeld.alloc _|exact hU6)
       clear hK K
       try simp only[Act.put,sT,sS,sZ]
       refine wpK 9 rfl ?_;refine wpD (NoPanic.normal ?_)
       have HU6:=Qh (HU3.out.then_ hHeld fun i e=>by
        rcases hgr2.out i e with e|e
        ·exact .inl e
        ·exact .inr (by simp only[World.size_alloc];exact e))
       have HG6:=Qh (show∀i,Own (.slice (some ⟨g6,0,none⟩) (ys.length+1) c6) i→Own (.slice A3 xs.length c3) i∨wo.heap.size+1≤i from fun i e=>by
        rcases hg6 with h|⟨k6,hk6,hlk⟩
        ·exact hgr2.out i (h.symm.trans e)
        ·have e2:(some k6:Option Nat)=some i:=hk6.symm.trans e
         cases e2
         simp only[World.size_alloc]at hlk;exact .inr (by omega))
       clear hHeld o0 o1 o2 o3 s0 hg6;go_wp2
       go_roundg (gk-1)
       case measure=>omega
       case rel=>exact⟨j+1,some ⟨g6,0,none⟩,c6,ys++[⟨xi,(j:Int),⟨tx,ky,nt⟩⟩],by omega,by go_num,by simp,HS,by simp;omega,Qh (by simpa[HBad.cells]using hown6),Qh (by simpa using HG6.out),HU6.out⟩
     ·obtain rfl:j=xo.length:=by omega
      have HS:=Qh (show ZbS txs p ys (txs.drop (k+1))=ZbS txs p [] txs by
       have:=hs2.out;rw[List.drop_length]at this;rw[←HST.out,←this];rfl)
      go_wp2
      go_roundg (m0-1)
      case measure=>omega
      case rel=>exact⟨k+1,A4,c4,ys,by omega,by go_num,rfl,HS,by omega,hown2,HW2.out _ hu2⟩
   ·obtain rfl:k=txs.length:=by omega
    have HS:=Qh (show xs=Za4 ⟨txs,ords,A,c,B,d⟩ p by rw[←HV.out,←hs.out,List.drop_length];rfl);go_wp2
    go_ret
    exact⟨A3,c3,by rw[←HS.out];rfl,by rw[←HS.out];exact ZY hown.out hzw,HU.out.trans hu1⟩
end
end Go.Proofs.YtklmahmfmbppkaaGreat
