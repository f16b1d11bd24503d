/- What the document tells of histories, in plain words; it is what the program tells. -/
import Derived.Test.YtonblekdfinpkaaGreatSyak
import Derived.Test.YtonblekdfinpkaaGreatSyav
import Derived.Test.YtonblekdfinpkaaGreatSyba
import Derived.Test.YtonblekdfinpkaaGreatSybf
namespace Go.Proofs.YtonblekdfinpkaaGreat
set_option linter.unusedVariables false
set_option linter.unusedSimpArgs false
section
open Go.RowKit
theorem ZfG {l m:List Int} (hl:l.Pairwise (·<·)) (hm:m.Pairwise (·<·)) (h:∀a,a∈l↔a∈m):l=m:=
 ZcF ((List.perm_ext_iff_of_nodup (hl.imp fun h=>Int.ne_of_lt h) (hm.imp fun h=>Int.ne_of_lt h)).2 h) (hl.imp Int.le_of_lt) (hm.imp Int.le_of_lt)
theorem Zk8 (xs:List Int) (n:Int):Zp n (Zam xs)=Zam (xs++[n]):=
 ZfG (Zel n _ (ZaR xs)) (ZaR _) fun a=>by rw[Zcz,ZaC,ZaC,List.mem_append,List.mem_singleton];grind
def ZaP (a b:List Int):Bool:=a.length==b.length&&a.all fun x=>a.count x==b.count x
theorem ZdB:∀(a b:List Int),a.length=b.length→(∀x∈a,a.count x=b.count x)→a.Perm b
 |[],b,hl,_=>by
  have:b=[]:=List.eq_nil_of_length_eq_zero (by simpa using hl.symm);subst this;exact List.Perm.refl _
 |x::a,b,hl,h=>by
  have hx:=h x (List.mem_cons_self ..)
  have hxb:x∈b:=by
   rw[List.count_cons_self]at hx;exact List.count_pos_iff.1 (by omega)
  have hp:=List.perm_cons_erase hxb;refine((ZdB a (b.erase x) ?_ fun y hy=> ?_).cons x).trans hp.symm
  ·have:=hp.length_eq;simp only[List.length_cons]at*;omega
  ·have h1:=h y (List.mem_cons_of_mem _ hy);rw[hp.count_eq]at h1;simp only[List.count_cons]at h1;omega
theorem ZbS (a b:List Int):ZaP a b=(Zat a==Zat b):=by
 rw[Bool.eq_iff_iff];unfold ZaP;simp only[Bool.and_eq_true,beq_iff_eq,List.all_eq_true]
 constructor
 ·rintro⟨h1,h2⟩;have hp:=ZdB a b h1 h2;exact ZcF (((Zo a).trans hp).trans (Zo b).symm) (Za0 a) (Za0 b)
 ·intro h;have hp:a.Perm b:=((Zo a).symm.trans (by rw[h];exact Zo b));exact⟨hp.length_eq,fun x _=>hp.count_eq x⟩
/-! keys -/
theorem ZdY (tch:Bool):∀(l:List HOp) (xs:List Int),ZaF tch (Zam xs) l=Zam (xs++Zaa l fun o=>tch|| !o.read)
 |[],xs=>by simp[ZaF,Zaa]
 |o::l,xs=>by
  rw[Zdn]
  by_cases h:(tch|| !o.read)=true
  ·rw[if_pos h,Zk8,ZdY tch l];unfold Zaa;rw[List.filter_cons_of_pos (by exact h)];simp
  ·rw[if_neg h,ZdY tch l];unfold Zaa;rw[List.filter_cons_of_neg (by exact h)]
theorem Zim (l:List HOp):ZaF false [] l=Zl l:=by
 have:=ZdY false l []
 simpa[Zl,show Zam []=[] from rfl]using this
def ZY (s:List Int):List HTx→List Int
 |[]=>s
 |t::l=>ZY (if t.done then Zr s (Zl t.ops) else s) l
theorem ZdS (a:Int):∀(l:List HTx) (s:List Int),a∈ZY s l↔a∈s∨∃t∈l,t.done=true∧a∈Zl t.ops
 |[],s=>by simp[ZY]
 |t::l,s=>by
  show a∈ZY (if t.done then Zr s (Zl t.ops) else s) l↔_
  rw[ZdS a l]
  by_cases h:t.done=true
  ·rw[if_pos h,Zcp];simp only[List.mem_cons,exists_eq_or_imp,h];grind
  ·rw[if_neg h];simp only[List.mem_cons,exists_eq_or_imp,h];grind
theorem ZeP:∀(l:List HTx) (s:List Int),s.Pairwise (·<·)→(ZY s l).Pairwise (·<·)
 |[],_,h=>h
 |t::l,s,h=>by
  show(ZY (if t.done then Zr s (Zl t.ops) else s) l).Pairwise (·<·)
  refine ZeP l _ ?_
  split
  ·exact ZcI _ _ h
  ·exact h
theorem ZbW (a:Int):∀(l s:List Int),a∈ZZ s l↔a∈s∨a∈l
 |[],s=>by simp[ZZ]
 |k::l,s=>by
  show a∈ZZ (if k∈s then s else s++[k]) l↔_
  rw[ZbW a l]
  by_cases h:k∈s
  ·rw[if_pos h,List.mem_cons];grind
  ·rw[if_neg h,List.mem_cons,List.mem_append,List.mem_singleton];grind
theorem Zbi:∀(l s:List Int),s.Nodup→(ZZ s l).Nodup
 |[],_,h=>h
 |k::l,s,h=>by
  show(ZZ (if k∈s then s else s++[k]) l).Nodup
  refine Zbi l _ ?_
  split
  ·exact h
  ·rename_i hk
   rw[List.nodup_append];exact⟨h,by simp,fun a ha b hb=>by rw[List.mem_singleton]at hb;subst hb;exact fun e=>hk (e▸ha)⟩
theorem Zgm (a:Int):∀(l:List HTx) (s:List Int),a∈Zw l s↔a∈s∨∃t∈l,t.done=true∧a∈Zl t.ops
 |[],s=>by simp[Zw]
 |t::l,s=>by
  show a∈Zw l (if t.done then ZZ s (Zl t.ops) else s)↔_
  rw[Zgm a l]
  by_cases h:t.done=true
  ·rw[if_pos h,ZbW];simp only[List.mem_cons,exists_eq_or_imp,h];grind
  ·rw[if_neg h];simp only[List.mem_cons,exists_eq_or_imp,h];grind
theorem Zev:∀(l:List HTx) (s:List Int),s.Nodup→(Zw l s).Nodup
 |[],_,h=>h
 |t::l,s,h=>by
  show(Zw l (if t.done then ZZ s (Zl t.ops) else s)).Nodup
  refine Zev l _ ?_
  split
  ·exact Zbi _ _ h
  ·exact h
theorem Zad {l:List Int} (h:l.Pairwise (·<·)):l.Nodup:=h.imp fun h=>Int.ne_of_lt h
theorem Zi7 (txs:List HTx):(ZY [] txs).Perm (Zw txs []):=
 (List.perm_ext_iff_of_nodup (Zad (ZeP txs [] List.Pairwise.nil)) (Zev txs [] List.nodup_nil)).2 fun a=>by rw[ZdS,Zgm]
theorem Zgs (txs:List HTx):(ZY [] txs).length=(Zw txs []).length:=(Zi7 txs).length_eq
theorem ZeC (txs:List HTx) (key:Int):(Zf txs key)≠[]↔key∈ZY [] txs:=by
 rw[ZdS];unfold Zf;rw[Ne,List.map_eq_nil_iff,List.filter_eq_nil_iff];simp only[List.contains_eq_mem,Bool.and_eq_true,decide_eq_true_eq]
 constructor
 ·intro h
  right
  apply Classical.byContradiction
  intro hn;exact h fun t ht hd=>hn ⟨t,ht,hd⟩
 ·rintro(h|⟨t,ht,hd⟩) hn
  ·cases h
  ·exact hn t ht hd
theorem Zcc (l:List HOp) (key:Int):key∈Zl l↔0<Zc l key:=by
 unfold Zl Zc wrN Zaa;rw[ZaC,List.take_length,List.mem_map,List.length_pos_iff,Ne,List.filter_eq_nil_iff];unfold isW
 constructor
 ·rintro⟨o,ho,rfl⟩ hn;rw[List.mem_filter]at ho;exact hn o ho.1 (by rw[ho.2];simp)
 ·intro h
  apply Classical.byContradiction
  intro hn;refine h fun o ho hw=>hn ⟨o,?_,?_⟩
  ·rw[List.mem_filter];grind
  ·grind
theorem ZiT (id:Int) (o:HOp):ZaJ id o=ZbQ id o:=by
 unfold ZaJ ZbQ ZN
 cases h:o.read<;>simp
theorem Zfj (id:Int) (l:List HOp):∀k,k≤l.length→Zy id (Z9 id l k) (l.drop k)=Zy id [] l
 |0,_=>rfl
 |k+1,hk=>by
  rw[←Zfj id l k (by omega),List.drop_eq_getElem_cons (show k<l.length by omega),ZcR,ZiT]
  congr 1
  show(match l[k]? with|some o=>_|none=>_)=_
  rw[Qg (show k<l.length by omega)]
theorem Zka (id:Int) (l:List HOp):Zy id [] l=ZdO id l:=by
 rw[←Zfj id l l.length (Nat.le_refl _),List.drop_length];rfl
/-! is a history right,by the document -/
def ZeN (txs:List HTx) (keys:List Int) (ords:List HOrd) (i:Nat):Bool:=
 match ords[i]?,keys[i]? with
 |some o,some k=>o.key==k&&ZaP o.txs (Zf txs o.key)
 |_,_=>true
def Zhd (h:Hist):Bool:=
 decide (h.txs.length≤4096)&&(List.range h.txs.length).all (ZbG h.txs)&&h.ords.length==(ZY [] h.txs).length&&(List.range h.ords.length).all (ZeN h.txs (ZY [] h.txs) h.ords)
theorem ZfH {l:List Int} (h:∀i,i+1<l.length→l.getD i 0<l.getD (i+1) 0):l.Pairwise (·<·):=by
 have key:∀d i:Nat,i+d+1<l.length→l.getD i 0<l.getD (i+d+1) 0:=by
  intro d
  induction d with
  |zero=>intro i hi;exact h i hi
  |succ d ih=>
   intro i hi;have h1:=ih i (by omega);have h2:=h (i+d+1) (by omega);exact Int.lt_trans h1 h2
 rw[List.pairwise_iff_getElem];intro i j hi hj hij;have:=key (j-i-1) i (by omega);rw[show i+(j-i-1)+1=j by omega]at this
 simpa[List.getD_eq_getElem?_getD,Qg hi,Qg hj]using this
theorem Zdh {txs:List HTx} {ords:List HOrd} {i:Nat} (hi:i<ords.length):Zb2 txs ords i=true↔(∀j,j+1=i→(ords.map (·.key)).getD j 0<ords[i].key)∧ords[i].txs≠[]∧ZaP ords[i].txs (Zf txs ords[i].key)=true:=by
 unfold Zb2;rw[Qg hi,ZbS]
 cases i with
 |zero=>simp
 |succ j=>
  have hj:j<ords.length:=by omega
  simp only[Qg hj];simp[List.getD_eq_getElem?_getD,Qg hj]
  grind
theorem ZjV (h:Hist):Zhd h=Za h:=by
 obtain⟨txs,ords,A,c,B,d⟩:=h;unfold Zhd Za;simp only;rw[Zgs]
 by_cases hl:ords.length=(Zw txs []).length
 ·rw[show(ords.length==(Zw txs []).length)=true by simpa using hl,show((Zw txs []).length==ords.length)=true by simpa using hl.symm]
  congr 1
  rw[Bool.eq_iff_iff,List.all_eq_true,List.all_eq_true];have hk:=Zgs txs;have hkl:=ZeP txs [] List.Pairwise.nil
  constructor
  ·intro hr i hi;have hi':i<ords.length:=List.mem_range.1 hi
   have hordL:∀i (hi:i<ords.length),ords[i].key=(ZY [] txs)[i]'(by omega)∧ZaP ords[i].txs (Zf txs ords[i].key)=true:=fun i hi=>by
    have:=hr i (List.mem_range.2 hi);unfold ZeN at this;rw[Qg hi,Qg (show i<(ZY [] txs).length by omega)]at this
    simpa using this
   rw[Zdh hi'];refine⟨fun j hj=> ?_,fun e=> ?_,(hordL i hi').2⟩
   ·have hj':j<ords.length:=by omega
    rw[List.getD_eq_getElem?_getD,List.getElem?_map,Qg hj'];simp only[Option.map_some,Option.getD_some];rw[(hordL i hi').1,(hordL j hj').1];exact List.pairwise_iff_getElem.1 hkl j i (by omega) (by omega) (by omega)
   ·have h1:=(hordL i hi').2;rw[e,ZbS,beq_iff_eq]at h1;have h2:=(ZeC txs ords[i].key).2 (by rw[(hordL i hi').1];exact List.getElem_mem _);have h3:=(Zo (Zf txs ords[i].key)).length_eq;rw[←h1]at h3;exact h2 (List.eq_nil_of_length_eq_zero h3.symm)
  ·intro hr i hi;have hi':i<ords.length:=List.mem_range.1 hi;have hordL:=fun i (hi:i<ords.length)=>(Zdh hi).1 (hr i (List.mem_range.2 hi))
   have hrise:(ords.map (·.key)).Pairwise (·<·):=ZfH fun j hj=>by
    rw[List.length_map]at hj;have:=(hordL (j+1) hj).1 j rfl;rw[show(ords.map (·.key)).getD (j+1) 0=ords[j+1].key by rw[List.getD_eq_getElem?_getD,List.getElem?_map,Qg hj];rfl];exact this
   have hsub:∀k∈ords.map (·.key),k∈ZY [] txs:=fun k hk=>by
    obtain⟨o,ho,rfl⟩:=List.mem_map.1 hk;obtain⟨j,hj,rfl⟩:=List.mem_iff_getElem.1 ho;rw[←ZeC];intro e;have h1:=(hordL j hj).2.2;rw[e,ZbS,beq_iff_eq]at h1;have h3:=(Zo ords[j].txs).length_eq;rw[h1]at h3;exact(hordL j hj).2.1 (List.eq_nil_of_length_eq_zero h3.symm)
   have heq:ords.map (·.key)=ZY [] txs:=by
    refine ZfG hrise hkl fun a=>⟨hsub a,fun ha=> ?_⟩
    apply Classical.byContradiction
    intro hn
    have:=(List.nodup_cons.2 ⟨hn,Zad hrise⟩).length_le_of_subset (l₂:=ZY [] txs) fun x hx=>by
     rcases List.mem_cons.1 hx with rfl|hx
     ·exact ha
     ·exact hsub x hx
    rw[List.length_cons,List.length_map]at this;omega
   unfold ZeN;rw[Qg hi',Qg (show i<(ZY [] txs).length by omega)];have e1:(ZY [] txs)[i]'(by omega)=ords[i].key:=by simp only[←heq,List.getElem_map]
   simp[e1,(hordL i hi').2.2]
 ·rw[show(ords.length==(Zw txs []).length)=false by simpa using hl,show((Zw txs []).length==ords.length)=false by simpa using fun e=>hl e.symm];simp
end
/- Orders:the first order that goes along all edges,in plain words;what is kept while ids are taken one by one. -/
section
open Go.RowKit
def ZF (l:List Edge) (left:List Int) (x:Int):Bool:=l.all fun e=> !(decide (e.t=x)&&decide (e.f∈left))
def ZcQ (l:List Edge):Nat→List Int→List Int→Option (List Int)
 |0,_,out=>some out
 |n+1,left,out=>match left.find? (ZF l left)with
  |none=>none
  |some x=>ZcQ l n (left.erase x) (out++[x])
def Zbk (ids:List Int) (l:List Edge):Option (List Int):=ZcQ l (Zam ids).length (Zam ids) []
def Zz (l:List Edge) (L:List Int) (x:Int):Nat:=(l.filter fun e=>decide (e.t=x)&&decide (e.f∈L)).length
def Zal (l:List Edge) (ids:List Int) (a:Int):List Int:=(l.filter fun e=>decide (e.f=a)&&(decide (e.f∈ids)&&decide (e.t∈ids))).map (·.t)
theorem ZeR (l:List Edge) (L:List Int) (x:Int):ZF l L x=(Zz l L x==0):=by
 rw[Bool.eq_iff_iff];unfold ZF Zz;simp only[List.all_eq_true,beq_iff_eq,List.length_eq_zero_iff,List.filter_eq_nil_iff]
 grind
theorem Ziy (l:List Edge) (L:List Int) (x:Int):Zz l L x≤l.length:=List.length_filter_le _ _
theorem Zhm (l:List Edge) (ids:List Int) (x:Int):(Zal l ids x).length≤l.length:=by unfold Zal;rw[List.length_map];exact List.length_filter_le _ _
theorem ZgF (e:Edge) (l:List Edge) (L:List Int) (x:Int):Zz (e::l) L x=(if e.t=x∧e.f∈L then 1 else 0)+Zz l L x:=by
 unfold Zz
 by_cases h:e.t=x∧e.f∈L
 ·rw[if_pos h,List.filter_cons_of_pos (by simpa using h),List.length_cons];omega
 ·rw[if_neg h,List.filter_cons_of_neg (by simpa using h)];omega
theorem ZiQ (e:Edge) (l:List Edge) (ids:List Int) (a:Int):Zal (e::l) ids a=(if e.f=a∧e.f∈ids∧e.t∈ids then [e.t] else [])++Zal l ids a:=by
 unfold Zal
 by_cases h:e.f=a∧e.f∈ids∧e.t∈ids
 ·rw[if_pos h,List.filter_cons_of_pos (by simpa using h)];rfl
 ·rw[if_neg h,List.filter_cons_of_neg (by simpa using h)];rfl
theorem ZgE (ids L:List Int) (m x:Int) (hm:m∈L) (hd:L.Nodup) (hi:m∈ids) (hx:x∈ids):∀l:List Edge,Zz l L x=Zz l (L.erase m) x+(Zal l ids m).count x
 |[]=>rfl
 |e::l=>by
  have ih:=ZgE ids L m x hm hd hi hx l;rw[ZgF,ZgF,ZiQ,List.count_append,ih];have he:e.f∈L.erase m↔e.f≠m∧e.f∈L:=hd.mem_erase_iff
  by_cases h1:e.t=x
  ·subst h1
   by_cases h2:e.f=m
   ·rw[if_pos ⟨rfl,by rw[h2];exact hm⟩,if_neg (by rw[he];exact fun h=>h.2.1 h2),if_pos ⟨h2,by rw[h2];exact hi,hx⟩];simp;omega
   ·rw[if_neg (c:=e.f=m∧_) (fun h=>h2 h.1)]
    by_cases h3:e.f∈L
    ·rw[if_pos ⟨rfl,h3⟩,if_pos ⟨rfl,he.2 ⟨h2,h3⟩⟩];simp;omega
    ·rw[if_neg (fun h=>h3 h.2),if_neg (fun h=>h3 (he.1 h.2).2)];simp
  ·rw[if_neg (fun h=>h1 h.1),if_neg (fun h=>h1 h.1)]
   split
   ·rw[show[e.t].count x=0 by rw[List.count_singleton];simp[h1]];omega
   ·simp
theorem Zlk (l:List Edge) (ids:List Int) (a x:Int) (h:x∈Zal l ids a):x∈ids:=by
 unfold Zal at h;obtain⟨e,he,rfl⟩:=List.mem_map.1 h;rw[List.mem_filter]at he;simp only[Bool.and_eq_true,decide_eq_true_eq]at he;exact he.2.2.2
structure TpI (l:List Edge) (ids L nx ys:List Int) (g:Int→Int):Prop where
 rise:L.Pairwise (·<·)
 sub:∀x∈L,x∈ids
 cnt:∀x∈ids,g x=1+((Zz l L x+nx.count x:Nat):Int)
 heap:ys.Perm (L.filter fun x=>Zz l L x+nx.count x==0)
 gone:∀x∈ids,x∉L→Zz l L x+nx.count x=0
 nxs:∀x∈nx,x∈ids
theorem TpI.mem {l:List Edge} {ids L nx ys:List Int} {g:Int→Int} (h:TpI l ids L nx ys g) (x:Int):x∈ys↔x∈L∧Zz l L x+nx.count x=0:=by
 rw[h.heap.mem_iff,List.mem_filter,beq_iff_eq]
theorem TpI.nodup {l:List Edge} {ids L nx ys:List Int} {g:Int→Int} (h:TpI l ids L nx ys g):ys.Nodup:=h.heap.nodup_iff.2 ((Zad h.rise).filter _)
theorem TpI.step {l:List Edge} {ids L nx ys:List Int} {x:Int} {g:Int→Int} (h:TpI l ids L (x::nx) ys g):
  TpI l ids L nx (if g x-1=1 then ys++[x] else ys) (fun y=>if y=x then g x-1 else g y):=by
 have hx:=h.nxs x (List.mem_cons_self ..);have hgx:=h.cnt x hx;rw[List.count_cons_self]at hgx
 have hxL:x∈L:=Classical.byContradiction fun hn=>by
  have:=h.gone x hx hn;rw[List.count_cons_self]at this;omega
 have hco:∀y,y≠x→(x::nx).count y=nx.count y:=fun y hy=>List.count_cons_of_ne (Ne.symm hy)
 have hxn:x∉ys:=fun hm=>by
  have:=((h.mem x).1 hm).2;rw[List.count_cons_self]at this;omega
 refine⟨h.rise,h.sub,fun y hy=> ?_,?_,fun y hy hn=> ?_,fun y hy=>h.nxs y (List.mem_cons_of_mem _ hy)⟩
 ·by_cases e:y=x
  ·subst e;rw[if_pos rfl];omega
  ·rw[if_neg e,h.cnt y hy,hco y e]
 ·have hnd:(L.filter fun y=>Zz l L y+nx.count y==0).Nodup:=(Zad h.rise).filter _
  split
  ·rename_i he
   refine(List.perm_ext_iff_of_nodup ?_ hnd).2 fun y=> ?_
   ·rw[List.nodup_append];exact⟨h.nodup,by simp,fun a ha b hb=>by rw[List.mem_singleton]at hb;subst hb;exact fun e=>hxn (e▸ha)⟩
   ·rw[List.mem_append,List.mem_singleton,h.mem,List.mem_filter,beq_iff_eq]
    by_cases e:y=x
    ·subst e
     constructor
     ·intro _;exact⟨hxL,by omega⟩
     ·intro _;exact Or.inr rfl
    ·rw[hco y e];simp[e]
  ·rename_i he
   refine(List.perm_ext_iff_of_nodup h.nodup hnd).2 fun y=> ?_
   rw[h.mem,List.mem_filter,beq_iff_eq]
   by_cases e:y=x
   ·subst e;rw[List.count_cons_self]
    constructor
    ·rintro⟨_,h2⟩;omega
    ·rintro⟨_,h2⟩;omega
   ·rw[hco y e]
 ·have:=h.gone y hy hn
  by_cases e:y=x
  ·subst e;exact absurd hxL hn
  ·rw[hco y e]at this;exact this
theorem ZiY {L:List Int} {p:Int→Bool} {m:Int} (hr:L.Pairwise (·<·)) (hm:m∈L) (hp:p m=true) (hl:∀y∈L,p y=true→m≤y):L.find? p=some m:=by
 cases hf:L.find? p with
 |none=>rw[List.find?_eq_none]at hf;exact absurd hp (hf m hm)
 |some x=>
  have hx:=List.find?_some hf;have hxm:=List.mem_of_find?_eq_some hf;have h1:=hl x hxm hx;rw[List.find?_eq_some_iff_append]at hf;obtain⟨_,l1,l2,rfl,hl1⟩:=hf;rcases List.mem_append.1 hm with h2|h2
  ·have:=hl1 m h2;rw[hp]at this;simp at this
  ·rcases List.mem_cons.1 h2 with rfl|h2
   ·rfl
   ·have:=(List.pairwise_cons.1 (List.pairwise_append.1 hr).2.1).1 m h2;omega
theorem TpI.find {l:List Edge} {ids L ys:List Int} {g:Int→Int} (h:TpI l ids L [] ys g) {m:Int} (hm:m∈ys) (hl:∀y∈ys,m≤y):L.find? (ZF l L)=some m:=by
 have h1:=(h.mem m).1 hm;refine ZiY h.rise h1.1 (by rw[ZeR];simpa using h1.2) fun y hy hp=>hl y ((h.mem y).2 ⟨hy,by rw[ZeR]at hp;simpa using hp⟩)
theorem TpI.pop {l:List Edge} {ids L xs ys:List Int} {g:Int→Int} {m:Int} (h:TpI l ids L [] xs g) (hp:(ys++[m]).Perm xs):TpI l ids (L.erase m) (Zal l ids m) ys g:=by
 have hmx:m∈xs:=hp.mem_iff.1 (by simp);have hmL:=(h.mem m).1 hmx;have hnd:=Zad h.rise;have hmi:=h.sub m hmL.1;have hs:∀x∈ids,Zz l L x=Zz l (L.erase m) x+(Zal l ids m).count x:=fun x hx=>ZgE ids L m x hmL.1 hnd hmi hx l
 have hyn:(ys++[m]).Nodup:=hp.nodup_iff.2 h.nodup;refine⟨h.rise.sublist List.erase_sublist,fun x hx=>h.sub x (List.mem_of_mem_erase hx),fun x hx=> ?_,?_,fun x hx hn=> ?_,fun x hx=>Zlk l ids m x hx⟩
 ·rw[h.cnt x hx,←hs x hx];simp
 ·refine(List.perm_ext_iff_of_nodup (List.nodup_append.1 hyn).1 ((hnd.erase m).filter _)).2 fun x=> ?_
  rw[List.mem_filter,beq_iff_eq,hnd.mem_erase_iff];have h1:x∈xs↔x∈ys∨x=m:=by rw[←hp.mem_iff,List.mem_append,List.mem_singleton]
  have h2:=h.mem x;have h3:m∉ys:=fun hm=>(List.nodup_append.1 hyn).2.2 m hm m (by simp) rfl
  constructor
  ·intro hx;have h4:=h2.1 (h1.2 (Or.inl hx));refine⟨⟨fun e=>h3 (e▸hx),h4.1⟩,?_⟩;rw[←hs x (h.sub x h4.1)];simpa using h4.2
  ·rintro⟨⟨h4,h5⟩,h6⟩;rw[←hs x (h.sub x h5)]at h6;rcases h1.1 (h2.2 ⟨h5,by simpa using h6⟩)with h7|h7
   ·exact h7
   ·exact absurd h7 h4
 ·rw[←hs x hx];rw[hnd.mem_erase_iff]at hn
  by_cases e:x=m
  ·subst e;simpa using hmL.2
  ·simpa using h.gone x hx (fun h=>hn ⟨e,h⟩)
theorem TpI.start {l:List Edge} {ids L xs:List Int} {g:Int→Int} (hL:L.Pairwise (·<·)) (hm:∀x,x∈L↔x∈ids) (hg:∀x∈ids,g x=1+((Zz l ids x:Nat):Int)) (hx:xs.Perm (L.filter fun x=>g x==1)):TpI l ids L [] xs g:=by
 have hc:∀x,Zz l L x=Zz l ids x:=fun x=>by unfold Zz;simp only[hm]
 refine⟨hL,fun x hx=>(hm x).1 hx,fun x hx=>by rw[hg x hx,hc];simp,?_,fun x hx hn=>absurd ((hm x).2 hx) hn,fun _ h=>by cases h⟩
 have:(L.filter fun x=>Zz l L x+([]:List Int).count x==0)=L.filter fun x=>g x==1:=List.filter_congr fun x hx=>by
  rw[hg x ((hm x).1 hx),hc,Bool.eq_iff_iff,beq_iff_eq,beq_iff_eq,List.count_nil];omega
 rw[this];exact hx
theorem TpI.stuck {l:List Edge} {ids L:List Int} {g:Int→Int} (h:TpI l ids L [] [] g):L.find? (ZF l L)=none:=by
 rw[List.find?_eq_none];intro x hx hf;rw[ZeR]at hf;have:=(h.mem x).2 ⟨hx,by simpa using hf⟩
 cases this
theorem Zgj {l:List Edge} {L out:List Int} (h:L.find? (ZF l L)=none) (hn:L≠[]):ZcQ l L.length L out=none:=by
 cases L with
 |nil=>exact absurd rfl hn
 |cons a L=>show(match (a::L).find? (ZF l (a::L))with|none=>none|some x=>_)=none;rw[h]
theorem Zgi {l:List Edge} {L out:List Int} {m:Int} (h:L.find? (ZF l L)=some m):ZcQ l L.length L out=ZcQ l (L.erase m).length (L.erase m) (out++[m]):=by
 have hm:=List.mem_of_find?_eq_some h
 cases L with
 |nil=>cases hm
 |cons a L=>
  rw[List.length_erase_of_mem hm]
  show(match (a::L).find? (ZF l (a::L))with|none=>none|some x=>_)=_
  rw[h];rfl
theorem ZkB {l:List Edge} {k:Nat} {e:Edge} (hk:k<l.length) (he:l[k]=e) (L:List Int) (x:Int):Zz (l.take (k+1)) L x=Zz (l.take k) L x+if e.t=x∧e.f∈L then 1 else 0:=by
 subst he;unfold Zz;rw[List.take_succ_eq_append_getElem hk,List.filter_append,List.length_append]
 congr 1
 split
 ·rename_i h;rw[List.filter_cons_of_pos (by simpa using h)];rfl
 ·rename_i h;rw[List.filter_cons_of_neg (by simpa using h)];rfl
theorem ZiP {l:List Edge} {k:Nat} {e:Edge} (hk:k<l.length) (he:l[k]=e) (ids:List Int) (a:Int):Zal (l.take (k+1)) ids a=Zal (l.take k) ids a++if e.f=a∧e.f∈ids∧e.t∈ids then [e.t] else []:=by
 subst he;unfold Zal;rw[List.take_succ_eq_append_getElem hk,List.filter_append,List.map_append]
 congr 1
 split
 ·rename_i h;rw[List.filter_cons_of_pos (by simpa using h)];rfl
 ·rename_i h;rw[List.filter_cons_of_neg (by simpa using h)];rfl
def Ze0 (o:Option (List Int)) (none_:Int):List Int×Int:=match o with
 |some l=>(l,0)
 |none=>([],none_)
end
/- Edges,reads and witnesses by the document,in plain words;for right histories they are what the program tells. -/
section
open Go.RowKit
section
variable {h:Hist}
theorem Ze8 (hr:Za h=true) {i:Nat} (hi:i<h.txs.length):ZbG h.txs i=true:=by
 unfold Za at hr;simp only[Bool.and_eq_true,List.all_eq_true,List.mem_range]at hr;exact hr.1.1.2 i hi
theorem Zcm (hr:Za h=true):(h.txs.map (·.id)).Pairwise (·<·):=ZfH fun j hj=>by
 rw[List.length_map]at hj;have:=Ze8 hr hj;unfold ZbG at this;rw[Qg hj]at this;simp only[Bool.and_eq_true]at this;have h1:=this.1.1;simp only[Qg (show j<h.txs.length by omega),decide_eq_true_eq]at h1;rw[List.getD_eq_getElem?_getD,List.getD_eq_getElem?_getD,List.getElem?_map,List.getElem?_map,Qg hj,Qg (show j<h.txs.length by omega)];exact h1
theorem Zfb (hr:Za h=true) {t:HTx} (ht:t∈h.txs):Ze h.txs t.id=some t:=by
 obtain⟨k,hk,rfl⟩:=List.mem_iff_getElem.1 ht;have hp:=List.pairwise_iff_getElem.1 (Zcm hr);refine Zdu hk (fun j hj=> ?_) (by simp);have:=hp j k (by simp;omega) (by simpa using hk) hj;simp only[List.getElem_map]at this;rw[beq_eq_false_iff_ne];omega
theorem ZbC {txs:List HTx} {i:Int} {t:HTx} (hf:Ze txs i=some t):t∈txs∧t.id=i:=by
 refine⟨Za8 hf,?_⟩;unfold Ze at hf;have:=List.find?_some hf
 simpa using this
theorem ZcM (hr:Za h=true) {t:HTx} (ht:t∈h.txs):ZE t.id t.ops=0∧ZaU h.txs t.id t.ops=true:=by
 obtain⟨k,hk,rfl⟩:=List.mem_iff_getElem.1 ht;have:=Ze8 hr hk;unfold ZbG at this;rw[Qg hk]at this;simp only[Bool.and_eq_true,beq_iff_eq]at this;exact⟨this.1.2,this.2⟩
theorem ZeI (hr:Za h=true) {t:HTx} (ht:t∈h.txs):1≤t.id:=by
 have:=(ZcM hr ht).1;unfold ZE at this
 split at this
 ·cases this
 ·rename_i hid
  unfold idB at hid;simp at hid;exact hid.1
end
/-! how often there is a reason for an edge -/
def p2 (f key:Int) (n:Nat) (o:HOp):Bool:=o.read&&o.key==key&&o.tx==f&&o.nth==(n:Int)
def p3 (h:Hist) (id key t:Int) (o:HOp):Bool:=o.read&&o.key==key&& !(o.tx==id)&&ZaY h.txs ⟨o.tx,o.key,o.nth⟩&&ZbP h.ords key o.tx t
def Zx (h:Hist) (e:Edge):Nat:=
 match Zq h.txs e.f,Zq h.txs e.t with
 |some a,some b=>
  if e.f=e.t then 0
  else if e.k=1 then (if ZbP h.ords e.key e.f e.t then 1 else 0)
  else if e.k=2 then b.ops.countP (p2 e.f e.key (Zc a.ops e.key))
  else if e.k=3 then a.ops.countP (p3 h a.id e.key e.t)
  else 0
 |_,_=>0
theorem ZaQ {txs:List HTx} {i:Int} {t:HTx} (hd:Zq txs i=some t):Ze txs i=some t∧t.done=true:=by
 unfold Zq at hd
 split at hd
 ·split at hd
  ·rename_i u hf hu
   cases hd
   exact⟨hf,hu⟩
  ·cases hd
 ·cases hd
/-! bad reads -/
/-! witnesses -/
end
/- The document:who is next,which version is the last one,which read may not be. -/
section
open Go.RowKit
theorem Zhw (x:Int):∀(l:List Int) (k:Nat),ZbX x l k=if Zav l x<l.length then ((Zav l x+k:Nat):Int) else -1
 |[],k=>by simp[ZbX,Zav]
 |y::l,k=>by
  rw[Zd1,Zhw x l (k+1)];unfold Zav;rw[List.findIdx_cons]
  by_cases h:y=x
  ·rw[if_pos h,show(y==x)=true by simpa using h];simp
  ·rw[if_neg h,show(y==x)=false by simpa using h];simp only[cond_false,List.length_cons]
   by_cases h2:l.findIdx (·==x)<l.length
   ·rw[if_pos h2,if_pos (by omega)];congr 1;omega
   ·rw[if_neg h2,if_neg (by omega)]
theorem ZmN (x:Int) (l:List Int):ZbX x l 0=if Zav l x<l.length then (Zav l x:Int) else -1:=by
 rw[Zhw];rfl
set_option maxRecDepth 100000 in
theorem Zoh (F:Nat→Prop) (w:World) (A:Option Addr) (c:Nat) (l:List Int) (tx:Int) (h:Ints F w A l) (hl:l.length≤17592186044415):
  Calls Tryz.prog 203 #[.slice A l.length c,.int .i64 tx] w (ZkH w (Z2 l tx)):=by
 have hidx:=Zno F w A c l tx h hl;rw[ZmN]at hidx
 by_cases h0:tx=0
 ·have hn:=Qh (show Z2 l tx=l[0]? by unfold Z2;rw[if_pos h0]);have h0b:(tx==0)=true:=by simpa using h0
  obtain⟨iv,hiv⟩:∃iv,(if Zav l tx<l.length then (Zav l tx:Int) else -1)=iv:=⟨_,rfl⟩;rw[hiv]at hidx;have Hidx:=Qh hidx;clear hidx hiv h0
  by_cases hz:l.length=0
  ·have hn2:=Qh (show Z2 l tx=none by rw[hn.out];exact List.getElem?_eq_none (by omega));obtain rfl:l=[]:=List.eq_nil_of_length_eq_zero hz;clear hz
   go_enter Tryz.func203,Tryz.ntmps203
   go_wp2_with fail
   refine(Hidx.out).mono ?_;rintro e w1 ⟨rfl,hu1⟩;go_wp2
   go_ret2
   exact⟨by rw[hn2.out];rfl,hu1⟩
  ·have hp:0<l.length:=by omega
   have hn2:=Qh (show Z2 l tx=some l[0] by rw[hn.out];exact Qg hp);have hpI:(0:Int)<(l.length:Int):=by omega
   have hpI2:¬l=[]:=fun e=>by rw[e]at hp;simp at hp
   have hC:∀W,Upd No w W→∃ad,A=some ad∧W.cell? ad=some (.int .i64 l[0]):=fun W hW=>by
    obtain⟨ad,hA,_,_,hc⟩:=(h.upd hW (fun _ _=>id)).at_ hp;have ha:ad.add 0=ad:=by unfold Addr.add;simp
    rw[ha]at hc;exact⟨ad,hA,hc⟩
   obtain⟨ad,rfl,_⟩:=hC w (Upd.refl _ _)
   have hc1:∀W,Upd No w W→W.cell? ad=some (.int .i64 l[0]):=fun W hW=>by
    obtain⟨ad',e,hc⟩:=hC W hW
    cases e
    exact hc
   clear hz hC
   go_enter Tryz.func203,Tryz.ntmps203
   go_wp2_with fail
   refine(Hidx.out).mono ?_;rintro e w1 ⟨rfl,hu1⟩;go_wp2
   go_ret2
   exact⟨by rw[hn2.out];rfl,hu1⟩
 ·have hn:=Qh (show Z2 l tx=if Zav l tx<l.length then l[Zav l tx+1]? else none by unfold Z2;rw[if_neg h0]);have h0b:(tx==0)=false:=by simpa using h0
  clear h0
  by_cases hp:Zav l tx<l.length
  ·rw[if_pos hp]at hidx;have Hidx:=Qh hidx;clear hidx;obtain⟨k,hk⟩:∃k,Zav l tx=k:=⟨_,rfl⟩;rw[hk]at Hidx hn hp;clear hk;have hk0:(0:Int)≤(k:Int)+1:=by omega
   by_cases he:k+1=l.length
   ·have hn2:=Qh (show Z2 l tx=none by rw[hn.out,if_pos hp];exact List.getElem?_eq_none (by omega));have heb:(l.length:Int)≤(k:Int)+1:=by omega
    have He:=Qh he;clear he
    go_enter Tryz.func203,Tryz.ntmps203
    go_wp2_with fail
    refine(Hidx.out).mono ?_;rintro e w1 ⟨rfl,hu1⟩;go_wp2
    go_ret2
    exact⟨by rw[hn2.out];rfl,hu1⟩
   ·have hlt:k+1<l.length:=by omega
    have hn2:=Qh (show Z2 l tx=some l[k+1] by rw[hn.out,if_pos hp];exact Qg hlt);have heb:¬(l.length:Int)≤(k:Int)+1:=by omega
    obtain⟨ad,hA,_,_,_⟩:=h.at_ hlt;subst hA
    have hc2:∀W,Upd No w W→W.cell? ⟨ad.block,ad.off+(k+1),none⟩=some (.int .i64 l[k+1]):=fun W hW=>by
     obtain⟨ad',e,_,_,hc⟩:=(h.upd hW (fun _ _=>id)).at_ hlt
     cases e
     rw[←hc]
     congr 1
    have hltI:(k:Int)+1<(l.length:Int):=by omega
    clear he
    go_enter Tryz.func203,Tryz.ntmps203
    go_wp2_with fail
    refine(Hidx.out).mono ?_;rintro e w1 ⟨rfl,hu1⟩;go_wp2
    go_ret2
    exact⟨by rw[hn2.out];rfl,hu1⟩
  ·rw[if_neg hp]at hidx;have Hidx:=Qh hidx;clear hidx;have hn2:=Qh (show Z2 l tx=none by rw[hn.out,if_neg hp]);clear hp
   go_enter Tryz.func203,Tryz.ntmps203
   go_wp2_with fail
   refine(Hidx.out).mono ?_;rintro e w1 ⟨rfl,hu1⟩;go_wp2
   go_ret2
   exact⟨by rw[hn2.out];rfl,hu1⟩
end
/- Looking at a history:reads that may not be. -/
section
open Go.RowKit
def Zas (txs:List HTx) (i:Int):Bool:=match Ze txs i with|some u=>u.done|none=>false
def ZJ (txs:List HTx) (i:Int):List HOp:=match Ze txs i with|some u=>u.ops|none=>[]
section
variable {txs:List HTx} {p:Int} {b:HBad}
end
theorem Zo7 (w:World) (k t n:Int):Calls Tryz.prog 134 #[.agg #[.bool true,.int .i64 k,.int .i64 t,.int .i64 n]] w fun e w'=>e= .returned (.agg #[.int .i64 t,.int .i64 k,.int .i64 n])∧Upd No w w':=oof w ⟨true,k,t,n⟩
end
/- Looking at a history:witnesses. -/
section
open Go.RowKit
section
variable {h:Hist} {p:Int} {l:List Edge} {b:HBad}
end
theorem Zio {F:Nat→Prop} {w:World} {txs:List HTx} {ords:List HOrd} {A:Option Addr} {c:Nat} {B:Option Addr} {d:Nat} {r:Bool} (H:Hist.lies F w ⟨txs,ords,A,c,B,d⟩) (hr:Za ⟨txs,ords,A,c,B,d⟩=r):
  Calls Tryz.prog 41 #[.agg #[.slice A txs.length c,.slice B ords.length d]] w fun e w'=>e= .returned (.bool r)∧Upd No w w':=by subst hr;exact Zko F w ⟨txs,ords,A,c,B,d⟩ H
end
/- The document:which version is the last one,which reads may not be. -/
section
open Go.RowKit
theorem Zi2 {txs:List HTx} {v:Ver} (h:v.tx=0):ZaY txs v=true:=by unfold ZaY;rw[if_pos h]
theorem Zi4 {txs:List HTx} {v:Ver} (h:¬v.tx=0) (hf:Ze txs v.tx=none):ZaY txs v=false:=by unfold ZaY Zq;rw[if_neg h,hf]
theorem Zi3 {txs:List HTx} {v:Ver} {t:HTx} (h:¬v.tx=0) (hf:Ze txs v.tx=some t):ZaY txs v=(t.done&&v.nth==(Zc t.ops v.key:Int)):=by
 unfold ZaY Zq;rw[if_neg h,hf]
 cases hd:t.done<;>simp[hd]
set_option maxRecDepth 100000 in
set_option maxHeartbeats 1000000 in
theorem Zoi (F:Nat→Prop) (w:World) (txs:List HTx) (ords:List HOrd) (A:Option Addr) (c:Nat) (B:Option Addr) (d:Nat) (o:HOp) (H:Hist.lies F w ⟨txs,ords,A,c,B,d⟩):
  Calls Tryz.prog 204 #[.agg #[.slice A txs.length c,.slice B ords.length d],.agg o.cells.toArray] w fun e w'=>e= .returned (.bool (ZaY txs ⟨o.tx,o.key,o.nth⟩))∧Upd No w w':=by
 obtain⟨rd,ky,tx,nt⟩:=o;unfold HOp.cells;simp only;have u0:=((Upd.refl No w).alloc (.cells #[.slice A txs.length c,.slice B ords.length d] 50)).alloc (.cells #[.bool rd,.int .i64 ky,.int .i64 tx,.int .i64 nt] 82);have bH:=Qh ((Blk.new w 50 [.slice A txs.length c,.slice B ords.length d]).alloc (.cells #[.bool rd,.int .i64 ky,.int .i64 tx,.int .i64 nt] 82));have b1:=Blk.new (w.alloc (.cells #[.slice A txs.length c,.slice B ords.length d] 50)) 82 [.bool rd,.int .i64 ky,.int .i64 tx,.int .i64 nt];simp only[World.size_alloc]at b1;have bX:=Qh b1;have U0:=Qh u0;clear b1 u0;have HH:=Qh (H.upd U0.out (fun _ _=>id))
 by_cases h0:tx=0
 ·have HV:=Qh (Zi2 (txs:=txs) (v:=⟨tx,ky,nt⟩) h0);have hb:(tx==0)=true:=by simpa using h0
  clear h0
  go_enter Tryz.func204,Tryz.ntmps204
  go_wp2
  go_ret
  exact⟨by rw[HV.out];rfl,U0.out⟩
 ·have hb:(tx==0)=false:=by simpa using h0
  cases hf:Ze txs tx with
  |none=>
   have HV:=Qh (Zi4 (txs:=txs) (v:=⟨tx,ky,nt⟩) h0 hf);have HF:=Qh hf;clear hf h0
   go_enter Tryz.func204,Tryz.ntmps204
   go_wp2_with fail
   refine(Zcn HH.out HF.out).mono ?_;rintro e w1 ⟨rfl,hu1⟩;have uT:=hu1.alloc (.cells #[.int .i64 0,.bool false,.slice none 0 0] 85);clear hu1;go_wp2;refine wp_region_noPanic ?_;refine wp_region_held_drew (S:=(fun w'=>Upd No (w1.alloc (.cells #[.int .i64 0,.bool false,.slice none 0 0] 85)) w')) (by kernel_rfl) ?_ (fun hHeld=> ?_)
   ·(first|exact(Upd.refl No _).drew|exact hHeld.trans hu3)
   refine wpK 0 rfl ?_;refine wpK 1 rfl ?_;refine wpN 2 rfl ?_;refine wpN 3 rfl ?_;refine wpK 4 rfl ?_;refine wpK 5 rfl ?_;refine wpN 6 rfl ?_;refine wpN 7 rfl ?_;refine wpN 8 rfl ?_;refine wpN 9 rfl ?_;refine wpN 10 rfl ?_;refine wpN 11 rfl ?_;refine wpR [12] ?_;refine wpC rfl (fun K hK=> ?_) AllReadyH.nil;go_simp;refine hK.out _ _ ?_ (fun hHeld=> ?_)
   ·exact hHeld
   clear hK K
   try simp only[Act.put,sT,sS,sZ]
   refine wpN 13 rfl ?_;refine wpK 14 rfl ?_;refine wpK 15 rfl ?_;refine wpD (NoPanic.normal ?_);have HU:=Qh (U0.out.trans (uT.trans hHeld));clear hHeld;go_wp2
   go_ret
   exact⟨by rw[HV.out];rfl,HU.out⟩
  |some t=>
   have HV:=Qh (Zi3 (txs:=txs) (v:=⟨tx,ky,nt⟩) h0 hf);have HF:=Qh hf;have HT:=Qh (H.tx t (ZeS hf));clear hf h0;obtain⟨ti,td,tO,tA,tc⟩:=t
   go_enter Tryz.func204,Tryz.ntmps204
   go_wp2_with fail
   refine(Zbf HH.out HF.out).mono ?_;rintro e w1 ⟨A1,c1,rfl,hc1,hh1,hu1⟩;simp only at hc1 hh1 HV;have bT:=Blk.new w1 85 [.int .i64 ti,.bool td,.slice A1 tO.length c1];have uT:=hu1.alloc (.cells #[.int .i64 ti,.bool td,.slice A1 tO.length c1] 85);have t1:∀W,Upd No (w1.alloc (.cells #[.int .i64 ti,.bool td,.slice A1 tO.length c1] 85)) W→W.cell? ⟨w1.heap.size,1,none⟩=some (.bool td):=fun W hW=>(bT.upd hW id).cell 1
   have t2:∀W,Upd No (w1.alloc (.cells #[.int .i64 ti,.bool td,.slice A1 tO.length c1] 85)) W→W.cell? ⟨w1.heap.size,2,none⟩=some (.slice A1 tO.length c1):=fun W hW=>(bT.upd hW id).cell 2
   have x1:∀W,Upd No (w1.alloc (.cells #[.int .i64 ti,.bool td,.slice A1 tO.length c1] 85)) W→W.cell? ⟨w.heap.size+1,1,none⟩=some (.int .i64 ky):=fun W hW=>(bX.out.upd (uT.trans hW) id).cell 1
   have x3:∀W,Upd No (w1.alloc (.cells #[.int .i64 ti,.bool td,.slice A1 tO.length c1] 85)) W→W.cell? ⟨w.heap.size+1,3,none⟩=some (.int .i64 nt):=fun W hW=>(bX.out.upd (uT.trans hW) id).cell 3
   have HW:=Qh fun W (hW:Upd No (w1.alloc (.cells #[.int .i64 ti,.bool td,.slice A1 tO.length c1] 85)) W)=>ZaT F W A1 c1 tO ky (HOps.upd hh1 (((Upd.refl No _).alloc _).trans hW) (fun _ _=>id)) HT.out.2.2.1
   have UT:=Qh uT;clear bT uT hu1 hh1
   cases td
   ·go_wp2;refine wp_region_noPanic ?_;refine wp_region_held_drew (S:=(fun w'=>Upd No (w1.alloc (.cells #[.int .i64 ti,.bool false,.slice A1 tO.length c1] 85)) w')) (by kernel_rfl) ?_ (fun hHeld=> ?_)
    ·(first|exact(Upd.refl No _).drew|exact hHeld.trans hu3)
    refine wpK 0 rfl ?_;refine wpK 1 rfl ?_;refine wpK 2 rfl ?_;refine wpK 3 rfl ?_;refine wpK 4 rfl ?_;refine wpK 5 rfl ?_;refine wpN 6 rfl ?_;refine wpN 7 rfl ?_;refine wpN 8 rfl ?_;refine wpN 9 rfl ?_;refine wpN 10 rfl ?_;refine wpN 11 rfl ?_;refine wpR [12] ?_;refine wpC rfl (fun K hK=> ?_) AllReadyH.nil;go_simp;refine hK.out _ _ ?_ (fun hHeld=> ?_)
    ·exact hHeld
    clear hK K
    try simp only[Act.put,sT,sS,sZ]
    refine wpN 13 rfl ?_;refine wpK 14 rfl ?_;refine wpK 15 rfl ?_;refine wpD (NoPanic.normal ?_);have HU:=Qh (U0.out.trans (UT.out.trans hHeld));clear hHeld;go_wp2
    go_ret
    exact⟨by rw[HV.out];rfl,HU.out⟩
   ·go_wp2;refine wp_region_noPanic ?_;refine wp_region_held_drew (S:=(fun w'=>Upd No (w1.alloc (.cells #[.int .i64 ti,.bool true,.slice A1 tO.length c1] 85)) w')) (by kernel_rfl) ?_ (fun hHeld=> ?_)
    ·(first|exact(Upd.refl No _).drew|exact hHeld.trans hu3)
    refine wpK 0 rfl ?_;refine wpK 1 rfl ?_;refine wpK 2 rfl ?_;refine wpK 3 rfl ?_;refine wpK 4 rfl ?_;refine wpK 5 rfl ?_;refine wpK 6 rfl ?_;refine wpK 7 rfl ?_;refine wpK 8 rfl ?_;refine wpK 9 rfl ?_;refine wpK 10 rfl ?_;refine wpK 11 rfl ?_;refine wpR [12] ?_;refine wpC rfl (fun K hK=> ?_) AllReadyH.nil;go_simp
    (first
  |(go_at_call 160;refine(HW.out _ hHeld).mono ?_;rintro e w3 ⟨rfl,hu3⟩))
    try (go_wp2_with fail)
    refine hK.out _ _ ?_ (fun hHeld=> ?_)
    ·(first|exact(Upd.refl No _).drew|exact hHeld.trans hu3)
    clear hK K
    try simp only[Act.put,sT,sS,sZ]
    refine wpK 13 rfl ?_;refine wpK 14 rfl ?_;refine wpK 15 rfl ?_;refine wpD (NoPanic.normal ?_);have HU:=Qh (U0.out.trans (UT.out.trans hHeld));clear hHeld;go_wp2
    go_ret
    exact⟨by rw[HV.out];rfl,HU.out⟩
end
/- Right histories:the document's own steps come to what the program tells. -/
section
open Go.RowKit
theorem Zgt:∀(l:List HTx) (s:List Int),Zai s l=ZY s l
 |[],_=>rfl
 |t::l,s=>by
  rw[ZeE,Zim,Zgt l];rfl
theorem ZkE (txs:List HTx) (k:Nat) (id:Int):ZfB txs k id=Zcf txs k id:=by
 cases k<;>rfl
theorem Zna {txs:List HTx} {k:Nat} (hk:k<txs.length):txR txs k txs[k]=ZbG txs k:=by
 rw[Zh4 hk rfl];unfold txR ZaU;rw[ZkE,Zka];rfl
theorem ZgZ (txs:List HTx):∀(m k:Nat),k+m=txs.length→(Zbq txs (txs.drop k) k=true↔∀i,k≤i→i<txs.length→ZbG txs i=true)
 |0,k,hk=>by
  obtain rfl:k=txs.length:=by omega
  rw[List.drop_length];exact⟨fun _ i h1 h2=>by omega,fun _=>rfl⟩
 |m+1,k,hk=>by
  have hlt:k<txs.length:=by omega
  rw[List.drop_eq_getElem_cons hlt,ZdG,Bool.and_eq_true,ZgZ txs m (k+1) (by omega),Zna hlt]
  constructor
  ·rintro⟨h1,h2⟩ i hi hi2
   by_cases e:i=k
   ·subst e;exact h1
   ·exact h2 i (by omega) hi2
  ·intro h;exact⟨h k (Nat.le_refl _) hlt,fun i hi hi2=>h i (by omega) hi2⟩
theorem ZjA (key:Int):∀(l:List HTx) (acc:List Int),wrS key acc l=acc++Zf l key
 |[],acc=>by simp[wrS,Zf]
 |t::l,acc=>by
  rw[ZeG,ZjA key l]
  have hc:(Zl t.ops).contains key=decide (0<Zc t.ops key):=by
   rw[List.contains_eq_mem]
   congr 1
   simp only[Zcc]
  unfold Zf;rw[List.filter_cons];simp only[hc]
  split<;>simp
theorem Zn6 (key:Int) (l:List HTx):wrS key [] l=Zf l key:=by rw[ZjA];simp
theorem Zgf (txs:List HTx) (keys:List Int) (ords:List HOrd) (hl:ords.length=keys.length):∀(m k:Nat),k+m=ords.length→(ZbO txs keys (ords.drop k) k=true↔∀i,k≤i→i<ords.length→ZeN txs keys ords i=true)
 |0,k,hk=>by
  obtain rfl:k=ords.length:=by omega
  rw[List.drop_length];exact⟨fun _ i h1 h2=>by omega,fun _=>rfl⟩
 |m+1,k,hk=>by
  have hlt:k<ords.length:=by omega
  have hlt2:k<keys.length:=by omega
  have hone:(ords[k].key==keys.getD k 0&&(ords[k].txs.length==(wrS ords[k].key [] txs).length&&ords[k].txs.all fun x=>ords[k].txs.count x==(wrS ords[k].key [] txs).count x))=ZeN txs keys ords k:=by
   unfold ZeN ZaP;rw[Qg hlt,Qg hlt2,Zn6,List.getD_eq_getElem?_getD,Qg hlt2];rfl
  rw[List.drop_eq_getElem_cons hlt,Zfg,hone,Bool.and_eq_true,Zgf txs keys ords hl m (k+1) (by omega)]
  constructor
  ·rintro⟨h1,h2⟩ i hi hi2
   by_cases e:i=k
   ·subst e;exact h1
   ·exact h2 i (by omega) hi2
  ·intro h;exact⟨h k (Nat.le_refl _) hlt,fun i hi hi2=>h i (by omega) hi2⟩
theorem ZjU (h:Hist):Zag h.txs h.ords=Za h:=by
 rw[←ZjV];unfold Zag Zhd;rw[Zgt]
 have h1:Zbq h.txs h.txs 0=(List.range h.txs.length).all (ZbG h.txs):=by
  rw[Bool.eq_iff_iff,List.all_eq_true];have:=ZgZ h.txs h.txs.length 0 (by omega);rw[List.drop_zero]at this;rw[this];exact⟨fun k i hi=>k i (Nat.zero_le _) (List.mem_range.1 hi),fun k i _ hi=>k i (List.mem_range.2 hi)⟩
 rw[h1]
 by_cases hl:h.ords.length=(ZY [] h.txs).length
 ·have h2:ZbO h.txs (ZY [] h.txs) h.ords 0=(List.range h.ords.length).all (ZeN h.txs (ZY [] h.txs) h.ords):=by
   rw[Bool.eq_iff_iff,List.all_eq_true];have:=Zgf h.txs (ZY [] h.txs) h.ords hl h.ords.length 0 (by omega);rw[List.drop_zero]at this;rw[this];exact⟨fun k i hi=>k i (Nat.zero_le _) (List.mem_range.1 hi),fun k i _ hi=>k i (List.mem_range.2 hi)⟩
  rw[h2,Bool.and_assoc,Bool.and_assoc]
 ·rw[show(h.ords.length==(ZY [] h.txs).length)=false by simpa using hl];simp
theorem Zif (F:Nat→Prop) (w:World) (txs:List HTx) (ords:List HOrd) (A:Option Addr) (c:Nat) (B:Option Addr) (d:Nat) (H:Hist.lies F w ⟨txs,ords,A,c,B,d⟩):
  Calls Tryz.prog 69 #[.agg #[.slice A txs.length c,.slice B ords.length d]] w fun e w'=>e= .returned (.bool (Za ⟨txs,ords,A,c,B,d⟩))∧Upd No w w':=by
 have:=Znu F w txs ords A c B d H
 rwa [show Zag txs ords=Za ⟨txs,ords,A,c,B,d⟩ from ZjU ⟨txs,ords,A,c,B,d⟩]at this
theorem Zie {F:Nat→Prop} {w:World} {txs:List HTx} {ords:List HOrd} {A:Option Addr} {c:Nat} {B:Option Addr} {d:Nat} {b:Bool} (H:Hist.lies F w ⟨txs,ords,A,c,B,d⟩) (hb:Za ⟨txs,ords,A,c,B,d⟩=b):
  Calls Tryz.prog 69 #[.agg #[.slice A txs.length c,.slice B ords.length d]] w fun e w'=>e= .returned (.bool b)∧Upd No w w':=by subst hb;exact Zif F w txs ords A c B d H
end
/- The document:the reads that may not be. -/
section
open Go.RowKit
def Bads (F:Nat→Prop) (w:World) (A:Option Addr) (l:List HBad):Prop:=Recs F w A 5 (l.map HBad.cells)
theorem Bads.at_ {F:Nat→Prop} {w:World} {A:Option Addr} {l:List HBad} (h:Bads F w A l) {k:Nat} (hk:k<l.length):∃ad,A=some ad∧
  w.cell? (ad.add (k*5))=some (.int .i64 l[k].tx)∧w.cell? ⟨(ad.add (k*5)).block,(ad.add (k*5)).off+1,none⟩=some (.int .i64 l[k].place)∧
  w.cell? ⟨(ad.add (k*5)).block,(ad.add (k*5)).off+2,none⟩=some (.int .i64 l[k].of.tx)∧w.cell? ⟨(ad.add (k*5)).block,(ad.add (k*5)).off+3,none⟩=some (.int .i64 l[k].of.key)∧
  w.cell? ⟨(ad.add (k*5)).block,(ad.add (k*5)).off+4,none⟩=some (.int .i64 l[k].of.nth):=by
 have hk':k<(l.map HBad.cells).length:=by simpa using hk
 obtain⟨ad,e,_,_,hc⟩:=Recs.at_ h hk';rw[List.getElem_map]at hc;exact⟨ad,e,by simpa using hc 0 _ rfl,by simpa using hc 1 _ rfl,by simpa using hc 2 _ rfl,by simpa using hc 3 _ rfl,by simpa using hc 4 _ rfl⟩
theorem Bads.upd {F S:Nat→Prop} {w w':World} {A:Option Addr} {l:List HBad} (h:Bads F w A l) (k:Upd S w w') (hn:∀i,F i→¬S i):Bads F w' A l:=Recs.upd h k hn
end
end Go.Proofs.YtonblekdfinpkaaGreat
