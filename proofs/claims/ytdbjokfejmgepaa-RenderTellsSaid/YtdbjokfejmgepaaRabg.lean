/- Who writes each key. -/
import Derived.Shelf.SlicesG.CompactI
import Derived.Sort.Row
import Derived.Test.YtdbjokfejmgepaaProg
import Derived.Test.YtdbjokfejmgepaaRaah
import Derived.Test.YtdbjokfejmgepaaRaam
import Derived.Test.YtdbjokfejmgepaaRaaq
import Derived.Test.YtdbjokfejmgepaaRaar
import Derived.Test.YtdbjokfejmgepaaRaax
import Derived.Test.YtdbjokfejmgepaaRaay
import Derived.Test.YtdbjokfejmgepaaRabd
namespace Go.Proofs.Ytdbjokfejmgepaa
set_option linter.unusedVariables false
set_option linter.unusedSimpArgs false
section
open Go.RowKit
structure MapSl (w:World) (base b:Nat) (m:List (Int×Value)) (f:Int→List Int):Prop where
 is:MapIs w b (fun n:Int=>Value.int .i64 n) m
 row:∀key,∃A c,(Z8 m key).getD (.slice none 0 0)= .slice A (f key).length c∧w.ownsRow base 3 1 (.slice A (f key).length c) (f key).length ((f key).map (Value.int .i64))
 apart:∀k1 k2,k1≠k2→∀i,Own ((Z8 m k1).getD (.slice none 0 0)) i→¬Own ((Z8 m k2).getD (.slice none 0 0)) i
theorem MapSl.upd {S:Nat→Prop} {w w':World} {base b:Nat} {m:List (Int×Value)} {f:Int→List Int} (h:MapSl w base b m f) (k:Upd S w w') (hb:¬S b) (hS:∀i,base≤i→i<w.heap.size→¬S i):MapSl w' base b m f:=by
 refine⟨h.is.upd k hb,fun key=> ?_,h.apart⟩;obtain⟨A,c,h1,h2⟩:=h.row key;exact⟨A,c,h1,Zc h2 k fun i hi=>by have:=h2.lt i hi;exact hS i this.1 this.2⟩
theorem MapSl.new {w:World} {base b:Nat} (h:MapIs w b (fun n:Int=>Value.int .i64 n) []):MapSl w base b [] fun _=>[]:=
 ⟨h,fun _=>⟨none,0,rfl,World.ownsRow_nil _ _ _ _⟩,fun _ _ _ i hi=>by simp[ZdA,Own,Value.ownBlock]at hi⟩
theorem MapSl.congr {w:World} {base b:Nat} {m:List (Int×Value)} {f g:Int→List Int} (h:MapSl w base b m f) (hfg:∀key,f key=g key):MapSl w base b m g:=by
 have:f=g:=funext hfg;rw[←this];exact h
theorem MapSl.put {w w1 w2:World} {base b:Nat} {m:List (Int×Value)} {f:Int→List Int} {key x:Int} {A A':Option Addr} {c c':Nat} (h:MapSl w base b m f)
  (hA:(Z8 m key).getD (.slice none 0 0)= .slice A (f key).length c) (hb:b<base)
  (hown:w1.ownsRow base 3 1 (.slice A' ((f key).length+1) c') ((f key).length+1) ((f key++[x]).map (Value.int .i64)))
  (hu1:Upd (Own (.slice A (f key).length c)) w w1) (hg:∀i,Own (.slice A' ((f key).length+1) c') i→Own (.slice A (f key).length c) i∨w.heap.size≤i)
  (hm2:MapIs w2 b (fun n:Int=>Value.int .i64 n) (Zbh m key (.slice A' ((f key).length+1) c'))) (hu2:Upd (One b) w1 w2):
  MapSl w2 base b (Zbh m key (.slice A' ((f key).length+1) c')) (fun k=>if k=key then f key++[x] else f k):=by
 have hB:∀i,base≤i→¬One b i:=fun i hi e=>by cases e;omega
 refine⟨hm2,fun k=> ?_,fun k1 k2 hne i hi hi2=> ?_⟩
 ·by_cases hk:k=key
  ·subst hk;simp only[if_true];refine⟨A',c',by rw[Za2];simp,?_⟩;have:=Zc hown hu2 fun i hi=>hB i (hown.lt i hi).1
   simpa using this
  ·simp only[if_neg hk];obtain⟨B,d,h1,h2⟩:=h.row k;refine⟨B,d,by rw[ZR _ _ hk];exact h1,Zc (Zc h2 hu1 fun i hi e=> ?_) hu2 fun i hi=>hB i (h2.lt i hi).1⟩;exact h.apart k key hk i (by rw[h1];exact hi) (by rw[hA];exact e)
 ·by_cases e1:k1=key
  ·subst e1;have hne2:k2≠k1:=fun e=>hne e.symm
   rw[Za2]at hi;rw[ZR _ _ hne2]at hi2;rcases hg i hi with hi|hi
   ·exact h.apart k1 k2 hne i (by rw[hA];exact hi) hi2
   ·obtain⟨B,d,h1,h2⟩:=h.row k2;rw[h1]at hi2;have:=(h2.lt i hi2).2;omega
  ·rw[ZR _ _ e1]at hi
   by_cases e2:k2=key
   ·subst e2;rw[Za2]at hi2;rcases hg i hi2 with hi2|hi2
    ·exact h.apart k1 k2 hne i hi (by rw[hA];exact hi2)
    ·obtain⟨B,d,h1,h2⟩:=h.row k1;rw[h1]at hi;have:=(h2.lt i hi).2;omega
   ·rw[ZR _ _ e2]at hi2;exact h.apart k1 k2 hne i hi hi2
def Apart (m:List (Int×Value)) (g:Nat) (v:Value):Prop:=∀key i,Own ((Z8 m key).getD (.slice none 0 0)) i→i≠g∧¬Own v i
theorem Apart.put {m:List (Int×Value)} {g z:Nat} {v old new:Value} {key:Int} (h:Apart m g v) (ho:(Z8 m key).getD (.slice none 0 0)=old) (hn:∀i,Own new i→Own old i∨z≤i) (hg:g<z) (hv:∀i,Own v i→i<z):Apart (Zbh m key new) g v:=fun k i hi=>by
 by_cases e:k=key
 ·subst e;rw[Za2]at hi;rcases hn i hi with h1|h1
  ·exact h k i (by rw[ho];exact h1)
  ·exact⟨by omega,fun h2=>by have:=hv i h2;omega⟩
 ·rw[ZR _ _ e]at hi;exact h k i hi
end
/- Whether a history is right. -/
section
open Go.RowKit
section
variable {h:Hist} {k:Nat}
end
section
variable {txs:List HTx} {k:Nat} {x:HTx}
def ZhY (txs:List HTx) (k:Nat) (id:Int):Bool:=match k with|0=>true|j+1=>(match txs[j]? with|some u=>decide (u.id<id)|none=>true)
theorem Zlg (hk:k<txs.length) (hx:txs[k]=x):Zc1 txs k=(ZhY txs k x.id&&ZaC x.id x.ops==0&&Zeo txs x.id x.ops):=by
 unfold Zc1 ZhY;rw[Qg hk,hx]
 cases k<;>rfl
end
section
variable {txs:List HTx} {ords:List HOrd} {k:Nat} {x:HOrd}
end
section
variable {F:Nat→Prop} {w:World} {i0:Int} {dn:Bool} {A:Option Addr} {c:Nat} {l:List HOp}
end
end
/- What the document tells of histories,in plain words;it is what the program tells. -/
section
open Go.RowKit
theorem Zij {l m:List Int} (hl:l.Pairwise (·<·)) (hm:m.Pairwise (·<·)) (h:∀a,a∈l↔a∈m):l=m:=
 Zgg ((List.perm_ext_iff_of_nodup (hl.imp fun h=>Int.ne_of_lt h) (hm.imp fun h=>Int.ne_of_lt h)).2 h) (hl.imp Int.le_of_lt) (hm.imp Int.le_of_lt)
theorem Zkl (xs:List Int) (n:Int):Zd n (Zb0 xs)=Zb0 (xs++[n]):=
 Zij (Zdd n _ (ZbZ xs)) (ZbZ _) fun a=>by rw[Z9,Zbw,Zbw,List.mem_append,List.mem_singleton];grind
def Zen (a b:List Int):Bool:=a.length==b.length&&a.all fun x=>a.count x==b.count x
theorem ZdQ:∀(a b:List Int),a.length=b.length→(∀x∈a,a.count x=b.count x)→a.Perm b
 |[],b,hl,_=>by
  have:b=[]:=List.eq_nil_of_length_eq_zero (by simpa using hl.symm);subst this;exact List.Perm.refl _
 |x::a,b,hl,h=>by
  have hx:=h x (List.mem_cons_self ..)
  have hxb:x∈b:=by
   rw[List.count_cons_self]at hx;exact List.count_pos_iff.1 (by omega)
  have hp:=List.perm_cons_erase hxb;refine((ZdQ a (b.erase x) ?_ fun y hy=> ?_).cons x).trans hp.symm
  ·have:=hp.length_eq;simp only[List.length_cons]at*;omega
  ·have h1:=h y (List.mem_cons_of_mem _ hy);rw[hp.count_eq]at h1;simp only[List.count_cons]at h1;omega
theorem Zdt (a b:List Int):Zen a b=(ZbJ a==ZbJ b):=by
 rw[Bool.eq_iff_iff];unfold Zen;simp only[Bool.and_eq_true,beq_iff_eq,List.all_eq_true]
 constructor
 ·rintro⟨h1,h2⟩;have hp:=ZdQ a b h1 h2;exact Zgg (((ZN a).trans hp).trans (ZN b).symm) (Zdn a) (Zdn b)
 ·intro h;have hp:a.Perm b:=((ZN a).symm.trans (by rw[h];exact ZN b));exact⟨hp.length_eq,fun x _=>hp.count_eq x⟩
/-! keys -/
theorem Zd8 (tch:Bool):∀(l:List HOp) (xs:List Int),Zaw tch (Zb0 xs) l=Zb0 (xs++ZcJ l fun o=>tch|| !o.read)
 |[],xs=>by simp[Zaw,ZcJ]
 |o::l,xs=>by
  rw[ZdE]
  by_cases h:(tch|| !o.read)=true
  ·rw[if_pos h,Zkl,Zd8 tch l];unfold ZcJ;rw[List.filter_cons_of_pos (by exact h)];simp
  ·rw[if_neg h,Zd8 tch l];unfold ZcJ;rw[List.filter_cons_of_neg (by exact h)]
theorem ZlD (l:List HOp):Zaw false [] l=ZaF l:=by
 have:=Zd8 false l []
 simpa[ZaF,show Zb0 []=[] from rfl]using this
def ZL (s:List Int):List HTx→List Int
 |[]=>s
 |t::l=>ZL (if t.done then Zt s (ZaF t.ops) else s) l
theorem Zd4 (a:Int):∀(l:List HTx) (s:List Int),a∈ZL s l↔a∈s∨∃t∈l,t.done=true∧a∈ZaF t.ops
 |[],s=>by simp[ZL]
 |t::l,s=>by
  show a∈ZL (if t.done then Zt s (ZaF t.ops) else s) l↔_
  rw[Zd4 a l]
  by_cases h:t.done=true
  ·rw[if_pos h,ZdB];simp only[List.mem_cons,exists_eq_or_imp,h];grind
  ·rw[if_neg h];simp only[List.mem_cons,exists_eq_or_imp,h];grind
theorem ZeV:∀(l:List HTx) (s:List Int),s.Pairwise (·<·)→(ZL s l).Pairwise (·<·)
 |[],_,h=>h
 |t::l,s,h=>by
  show(ZL (if t.done then Zt s (ZaF t.ops) else s) l).Pairwise (·<·)
  refine ZeV l _ ?_
  split
  ·exact ZdY _ _ h
  ·exact h
theorem Zhu (a:Int):∀(l s:List Int),a∈ZdM s l↔a∈s∨a∈l
 |[],s=>by simp[ZdM]
 |k::l,s=>by
  show a∈ZdM (if k∈s then s else s++[k]) l↔_
  rw[Zhu a l]
  by_cases h:k∈s
  ·rw[if_pos h,List.mem_cons];grind
  ·rw[if_neg h,List.mem_cons,List.mem_append,List.mem_singleton];grind
theorem ZfQ:∀(l s:List Int),s.Nodup→(ZdM s l).Nodup
 |[],_,h=>h
 |k::l,s,h=>by
  show(ZdM (if k∈s then s else s++[k]) l).Nodup
  refine ZfQ l _ ?_
  split
  ·exact h
  ·rename_i hk
   rw[List.nodup_append];exact⟨h,by simp,fun a ha b hb=>by rw[List.mem_singleton]at hb;subst hb;exact fun e=>hk (e▸ha)⟩
theorem Zgs (a:Int):∀(l:List HTx) (s:List Int),a∈ZaR l s↔a∈s∨∃t∈l,t.done=true∧a∈ZaF t.ops
 |[],s=>by simp[ZaR]
 |t::l,s=>by
  show a∈ZaR l (if t.done then ZdM s (ZaF t.ops) else s)↔_
  rw[Zgs a l]
  by_cases h:t.done=true
  ·rw[if_pos h,Zhu];simp only[List.mem_cons,exists_eq_or_imp,h];grind
  ·rw[if_neg h];simp only[List.mem_cons,exists_eq_or_imp,h];grind
theorem Zeu:∀(l:List HTx) (s:List Int),s.Nodup→(ZaR l s).Nodup
 |[],_,h=>h
 |t::l,s,h=>by
  show(ZaR l (if t.done then ZdM s (ZaF t.ops) else s)).Nodup
  refine Zeu l _ ?_
  split
  ·exact ZfQ _ _ h
  ·exact h
theorem Za9 {l:List Int} (h:l.Pairwise (·<·)):l.Nodup:=h.imp fun h=>Int.ne_of_lt h
theorem ZiS (txs:List HTx):(ZL [] txs).Perm (ZaR txs []):=
 (List.perm_ext_iff_of_nodup (Za9 (ZeV txs [] List.Pairwise.nil)) (Zeu txs [] List.nodup_nil)).2 fun a=>by rw[Zd4,Zgs]
theorem Zgz (txs:List HTx):(ZL [] txs).length=(ZaR txs []).length:=(ZiS txs).length_eq
theorem ZeB (txs:List HTx) (key:Int):(ZB txs key)≠[]↔key∈ZL [] txs:=by
 rw[Zd4];unfold ZB;rw[Ne,List.map_eq_nil_iff,List.filter_eq_nil_iff];simp only[List.contains_eq_mem,Bool.and_eq_true,decide_eq_true_eq]
 constructor
 ·intro h
  right
  apply Classical.byContradiction
  intro hn;exact h fun t ht hd=>hn ⟨t,ht,hd⟩
 ·rintro(h|⟨t,ht,hd⟩) hn
  ·cases h
  ·exact hn t ht hd
theorem ZjG (l:List HOp) (key:Int):key∈ZaF l↔0<Ze l key:=by
 unfold ZaF Ze wrN ZcJ;rw[Zbw,List.take_length,List.mem_map,List.length_pos_iff,Ne,List.filter_eq_nil_iff];unfold isW
 constructor
 ·rintro⟨o,ho,rfl⟩ hn;rw[List.mem_filter]at ho;exact hn o ho.1 (by rw[ho.2];simp)
 ·intro h
  apply Classical.byContradiction
  intro hn;refine h fun o ho hw=>hn ⟨o,?_,?_⟩
  ·rw[List.mem_filter];grind
  ·grind
theorem ZiJ (id:Int) (o:HOp):ZaA id o=Zho id o:=by
 unfold ZaA Zho ZT
 cases h:o.read<;>simp
theorem Zfv (id:Int) (l:List HOp):∀k,k≤l.length→Zr id (Zdf id l k) (l.drop k)=Zr id [] l
 |0,_=>rfl
 |k+1,hk=>by
  rw[←Zfv id l k (by omega),List.drop_eq_getElem_cons (show k<l.length by omega),Zc4,ZiJ]
  congr 1
  show(match l[k]? with|some o=>_|none=>_)=_
  rw[Qg (show k<l.length by omega)]
theorem ZjB (id:Int) (l:List HOp):Zr id [] l=ZjC id l:=by
 rw[←Zfv id l l.length (Nat.le_refl _),List.drop_length];rfl
/-! is a history right,by the document -/
def ZeP (txs:List HTx) (keys:List Int) (ords:List HOrd) (i:Nat):Bool:=
 match ords[i]?,keys[i]? with
 |some o,some k=>o.key==k&&Zen o.txs (ZB txs o.key)
 |_,_=>true
def Zhc (h:Hist):Bool:=
 decide (h.txs.length≤4096)&&(List.range h.txs.length).all (Zc1 h.txs)&&h.ords.length==(ZL [] h.txs).length&&(List.range h.ords.length).all (ZeP h.txs (ZL [] h.txs) h.ords)
theorem Zf0 {l:List Int} (h:∀i,i+1<l.length→l.getD i 0<l.getD (i+1) 0):l.Pairwise (·<·):=by
 have key:∀d i:Nat,i+d+1<l.length→l.getD i 0<l.getD (i+d+1) 0:=by
  intro d
  induction d with
  |zero=>intro i hi;exact h i hi
  |succ d ih=>
   intro i hi;have h1:=ih i (by omega);have h2:=h (i+d+1) (by omega);exact Int.lt_trans h1 h2
 rw[List.pairwise_iff_getElem];intro i j hi hj hij;have:=key (j-i-1) i (by omega);rw[show i+(j-i-1)+1=j by omega]at this
 simpa[List.getD_eq_getElem?_getD,Qg hi,Qg hj]using this
theorem Zdw {txs:List HTx} {ords:List HOrd} {i:Nat} (hi:i<ords.length):ZgS txs ords i=true↔(∀j,j+1=i→(ords.map (·.key)).getD j 0<ords[i].key)∧ords[i].txs≠[]∧Zen ords[i].txs (ZB txs ords[i].key)=true:=by
 unfold ZgS;rw[Qg hi,Zdt]
 cases i with
 |zero=>simp
 |succ j=>
  have hj:j<ords.length:=by omega
  simp only[Qg hj];simp[List.getD_eq_getElem?_getD,Qg hj]
  grind
theorem Zjl (h:Hist):Zhc h=Zg h:=by
 obtain⟨txs,ords,A,c,B,d⟩:=h;unfold Zhc Zg;simp only;rw[Zgz]
 by_cases hl:ords.length=(ZaR txs []).length
 ·rw[show(ords.length==(ZaR txs []).length)=true by simpa using hl,show((ZaR txs []).length==ords.length)=true by simpa using hl.symm]
  congr 1
  rw[Bool.eq_iff_iff,List.all_eq_true,List.all_eq_true];have hk:=Zgz txs;have hkl:=ZeV txs [] List.Pairwise.nil
  constructor
  ·intro hr i hi;have hi':i<ords.length:=List.mem_range.1 hi
   have hordL:∀i (hi:i<ords.length),ords[i].key=(ZL [] txs)[i]'(by omega)∧Zen ords[i].txs (ZB txs ords[i].key)=true:=fun i hi=>by
    have:=hr i (List.mem_range.2 hi);unfold ZeP at this;rw[Qg hi,Qg (show i<(ZL [] txs).length by omega)]at this
    simpa using this
   rw[Zdw hi'];refine⟨fun j hj=> ?_,fun e=> ?_,(hordL i hi').2⟩
   ·have hj':j<ords.length:=by omega
    rw[List.getD_eq_getElem?_getD,List.getElem?_map,Qg hj'];simp only[Option.map_some,Option.getD_some];rw[(hordL i hi').1,(hordL j hj').1];exact List.pairwise_iff_getElem.1 hkl j i (by omega) (by omega) (by omega)
   ·have h1:=(hordL i hi').2;rw[e,Zdt,beq_iff_eq]at h1;have h2:=(ZeB txs ords[i].key).2 (by rw[(hordL i hi').1];exact List.getElem_mem _);have h3:=(ZN (ZB txs ords[i].key)).length_eq;rw[←h1]at h3;exact h2 (List.eq_nil_of_length_eq_zero h3.symm)
  ·intro hr i hi;have hi':i<ords.length:=List.mem_range.1 hi;have hordL:=fun i (hi:i<ords.length)=>(Zdw hi).1 (hr i (List.mem_range.2 hi))
   have hrise:(ords.map (·.key)).Pairwise (·<·):=Zf0 fun j hj=>by
    rw[List.length_map]at hj;have:=(hordL (j+1) hj).1 j rfl;rw[show(ords.map (·.key)).getD (j+1) 0=ords[j+1].key by rw[List.getD_eq_getElem?_getD,List.getElem?_map,Qg hj];rfl];exact this
   have hsub:∀k∈ords.map (·.key),k∈ZL [] txs:=fun k hk=>by
    obtain⟨o,ho,rfl⟩:=List.mem_map.1 hk;obtain⟨j,hj,rfl⟩:=List.mem_iff_getElem.1 ho;rw[←ZeB];intro e;have h1:=(hordL j hj).2.2;rw[e,Zdt,beq_iff_eq]at h1;have h3:=(ZN ords[j].txs).length_eq;rw[h1]at h3;exact(hordL j hj).2.1 (List.eq_nil_of_length_eq_zero h3.symm)
   have heq:ords.map (·.key)=ZL [] txs:=by
    refine Zij hrise hkl fun a=>⟨hsub a,fun ha=> ?_⟩
    apply Classical.byContradiction
    intro hn
    have:=(List.nodup_cons.2 ⟨hn,Za9 hrise⟩).length_le_of_subset (l₂:=ZL [] txs) fun x hx=>by
     rcases List.mem_cons.1 hx with rfl|hx
     ·exact ha
     ·exact hsub x hx
    rw[List.length_cons,List.length_map]at this;omega
   unfold ZeP;rw[Qg hi',Qg (show i<(ZL [] txs).length by omega)];have e1:(ZL [] txs)[i]'(by omega)=ords[i].key:=by simp only[←heq,List.getElem_map]
   simp[e1,(hordL i hi').2.2]
 ·rw[show(ords.length==(ZaR txs []).length)=false by simpa using hl,show((ZaR txs []).length==ords.length)=false by simpa using fun e=>hl e.symm];simp
end
/- Orders:the first order that goes along all edges,in plain words;what is kept while ids are taken one by one. -/
section
open Go.RowKit
def ZiV (l:List Edge) (left:List Int) (x:Int):Bool:=l.all fun e=> !(decide (e.t=x)&&decide (e.f∈left))
def ZaG (l:List Edge) (L:List Int) (x:Int):Nat:=(l.filter fun e=>decide (e.t=x)&&decide (e.f∈L)).length
def ZcW (l:List Edge) (ids:List Int) (a:Int):List Int:=(l.filter fun e=>decide (e.f=a)&&(decide (e.f∈ids)&&decide (e.t∈ids))).map (·.t)
theorem ZhM (l:List Edge) (L:List Int) (x:Int):ZiV l L x=(ZaG l L x==0):=by
 rw[Bool.eq_iff_iff];unfold ZiV ZaG;simp only[List.all_eq_true,beq_iff_eq,List.length_eq_zero_iff,List.filter_eq_nil_iff]
 grind
theorem ZgK (e:Edge) (l:List Edge) (L:List Int) (x:Int):ZaG (e::l) L x=(if e.t=x∧e.f∈L then 1 else 0)+ZaG l L x:=by
 unfold ZaG
 by_cases h:e.t=x∧e.f∈L
 ·rw[if_pos h,List.filter_cons_of_pos (by simpa using h),List.length_cons];omega
 ·rw[if_neg h,List.filter_cons_of_neg (by simpa using h)];omega
theorem ZiH (e:Edge) (l:List Edge) (ids:List Int) (a:Int):ZcW (e::l) ids a=(if e.f=a∧e.f∈ids∧e.t∈ids then [e.t] else [])++ZcW l ids a:=by
 unfold ZcW
 by_cases h:e.f=a∧e.f∈ids∧e.t∈ids
 ·rw[if_pos h,List.filter_cons_of_pos (by simpa using h)];rfl
 ·rw[if_neg h,List.filter_cons_of_neg (by simpa using h)];rfl
theorem ZgJ (ids L:List Int) (m x:Int) (hm:m∈L) (hd:L.Nodup) (hi:m∈ids) (hx:x∈ids):∀l:List Edge,ZaG l L x=ZaG l (L.erase m) x+(ZcW l ids m).count x
 |[]=>rfl
 |e::l=>by
  have ih:=ZgJ ids L m x hm hd hi hx l;rw[ZgK,ZgK,ZiH,List.count_append,ih];have he:e.f∈L.erase m↔e.f≠m∧e.f∈L:=hd.mem_erase_iff
  by_cases h1:e.t=x
  ·subst h1
   by_cases h2:e.f=m
   ·rw[if_pos ⟨rfl,by rw[h2];exact hm⟩,if_neg (by rw[he];exact fun h=>h.2.1 h2),if_pos ⟨h2,by rw[h2];exact hi,hx⟩];simp;omega
   ·rw[if_neg (c:=e.f=m∧_) (fun h=>h2 h.1)]
    by_cases h3:e.f∈L
    ·rw[if_pos ⟨rfl,h3⟩,if_pos ⟨rfl,he.2 ⟨h2,h3⟩⟩];simp;omega
    ·rw[if_neg (fun h=>h3 h.2),if_neg (fun h=>h3 (he.1 h.2).2)];simp
  ·rw[if_neg (fun h=>h1 h.1),if_neg (fun h=>h1 h.1)]
   split
   ·rw[show[e.t].count x=0 by rw[List.count_singleton];simp[h1]];omega
   ·simp
theorem Zkt (l:List Edge) (ids:List Int) (a x:Int) (h:x∈ZcW l ids a):x∈ids:=by
 unfold ZcW at h;obtain⟨e,he,rfl⟩:=List.mem_map.1 h;rw[List.mem_filter]at he;simp only[Bool.and_eq_true,decide_eq_true_eq]at he;exact he.2.2.2
structure TpI (l:List Edge) (ids L nx ys:List Int) (g:Int→Int):Prop where
 rise:L.Pairwise (·<·)
 sub:∀x∈L,x∈ids
 cnt:∀x∈ids,g x=1+((ZaG l L x+nx.count x:Nat):Int)
 heap:ys.Perm (L.filter fun x=>ZaG l L x+nx.count x==0)
 gone:∀x∈ids,x∉L→ZaG l L x+nx.count x=0
 nxs:∀x∈nx,x∈ids
theorem TpI.mem {l:List Edge} {ids L nx ys:List Int} {g:Int→Int} (h:TpI l ids L nx ys g) (x:Int):x∈ys↔x∈L∧ZaG l L x+nx.count x=0:=by
 rw[h.heap.mem_iff,List.mem_filter,beq_iff_eq]
theorem TpI.nodup {l:List Edge} {ids L nx ys:List Int} {g:Int→Int} (h:TpI l ids L nx ys g):ys.Nodup:=h.heap.nodup_iff.2 ((Za9 h.rise).filter _)
theorem TpI.step {l:List Edge} {ids L nx ys:List Int} {x:Int} {g:Int→Int} (h:TpI l ids L (x::nx) ys g):
  TpI l ids L nx (if g x-1=1 then ys++[x] else ys) (fun y=>if y=x then g x-1 else g y):=by
 have hx:=h.nxs x (List.mem_cons_self ..);have hgx:=h.cnt x hx;rw[List.count_cons_self]at hgx
 have hxL:x∈L:=Classical.byContradiction fun hn=>by
  have:=h.gone x hx hn;rw[List.count_cons_self]at this;omega
 have hco:∀y,y≠x→(x::nx).count y=nx.count y:=fun y hy=>List.count_cons_of_ne (Ne.symm hy)
 have hxn:x∉ys:=fun hm=>by
  have:=((h.mem x).1 hm).2;rw[List.count_cons_self]at this;omega
 refine⟨h.rise,h.sub,fun y hy=> ?_,?_,fun y hy hn=> ?_,fun y hy=>h.nxs y (List.mem_cons_of_mem _ hy)⟩
 ·by_cases e:y=x
  ·subst e;rw[if_pos rfl];omega
  ·rw[if_neg e,h.cnt y hy,hco y e]
 ·have hnd:(L.filter fun y=>ZaG l L y+nx.count y==0).Nodup:=(Za9 h.rise).filter _
  split
  ·rename_i he
   refine(List.perm_ext_iff_of_nodup ?_ hnd).2 fun y=> ?_
   ·rw[List.nodup_append];exact⟨h.nodup,by simp,fun a ha b hb=>by rw[List.mem_singleton]at hb;subst hb;exact fun e=>hxn (e▸ha)⟩
   ·rw[List.mem_append,List.mem_singleton,h.mem,List.mem_filter,beq_iff_eq]
    by_cases e:y=x
    ·subst e
     constructor
     ·intro _;exact⟨hxL,by omega⟩
     ·intro _;exact Or.inr rfl
    ·rw[hco y e];simp[e]
  ·rename_i he
   refine(List.perm_ext_iff_of_nodup h.nodup hnd).2 fun y=> ?_
   rw[h.mem,List.mem_filter,beq_iff_eq]
   by_cases e:y=x
   ·subst e;rw[List.count_cons_self]
    constructor
    ·rintro⟨_,h2⟩;omega
    ·rintro⟨_,h2⟩;omega
   ·rw[hco y e]
 ·have:=h.gone y hy hn
  by_cases e:y=x
  ·subst e;exact absurd hxL hn
  ·rw[hco y e]at this;exact this
theorem ZiN {L:List Int} {p:Int→Bool} {m:Int} (hr:L.Pairwise (·<·)) (hm:m∈L) (hp:p m=true) (hl:∀y∈L,p y=true→m≤y):L.find? p=some m:=by
 cases hf:L.find? p with
 |none=>rw[List.find?_eq_none]at hf;exact absurd hp (hf m hm)
 |some x=>
  have hx:=List.find?_some hf;have hxm:=List.mem_of_find?_eq_some hf;have h1:=hl x hxm hx;rw[List.find?_eq_some_iff_append]at hf;obtain⟨_,l1,l2,rfl,hl1⟩:=hf;rcases List.mem_append.1 hm with h2|h2
  ·have:=hl1 m h2;rw[hp]at this;simp at this
  ·rcases List.mem_cons.1 h2 with rfl|h2
   ·rfl
   ·have:=(List.pairwise_cons.1 (List.pairwise_append.1 hr).2.1).1 m h2;omega
theorem TpI.find {l:List Edge} {ids L ys:List Int} {g:Int→Int} (h:TpI l ids L [] ys g) {m:Int} (hm:m∈ys) (hl:∀y∈ys,m≤y):L.find? (ZiV l L)=some m:=by
 have h1:=(h.mem m).1 hm;refine ZiN h.rise h1.1 (by rw[ZhM];simpa using h1.2) fun y hy hp=>hl y ((h.mem y).2 ⟨hy,by rw[ZhM]at hp;simpa using hp⟩)
theorem TpI.pop {l:List Edge} {ids L xs ys:List Int} {g:Int→Int} {m:Int} (h:TpI l ids L [] xs g) (hp:(ys++[m]).Perm xs):TpI l ids (L.erase m) (ZcW l ids m) ys g:=by
 have hmx:m∈xs:=hp.mem_iff.1 (by simp);have hmL:=(h.mem m).1 hmx;have hnd:=Za9 h.rise;have hmi:=h.sub m hmL.1;have hs:∀x∈ids,ZaG l L x=ZaG l (L.erase m) x+(ZcW l ids m).count x:=fun x hx=>ZgJ ids L m x hmL.1 hnd hmi hx l
 have hyn:(ys++[m]).Nodup:=hp.nodup_iff.2 h.nodup;refine⟨h.rise.sublist List.erase_sublist,fun x hx=>h.sub x (List.mem_of_mem_erase hx),fun x hx=> ?_,?_,fun x hx hn=> ?_,fun x hx=>Zkt l ids m x hx⟩
 ·rw[h.cnt x hx,←hs x hx];simp
 ·refine(List.perm_ext_iff_of_nodup (List.nodup_append.1 hyn).1 ((hnd.erase m).filter _)).2 fun x=> ?_
  rw[List.mem_filter,beq_iff_eq,hnd.mem_erase_iff];have h1:x∈xs↔x∈ys∨x=m:=by rw[←hp.mem_iff,List.mem_append,List.mem_singleton]
  have h2:=h.mem x;have h3:m∉ys:=fun hm=>(List.nodup_append.1 hyn).2.2 m hm m (by simp) rfl
  constructor
  ·intro hx;have h4:=h2.1 (h1.2 (Or.inl hx));refine⟨⟨fun e=>h3 (e▸hx),h4.1⟩,?_⟩;rw[←hs x (h.sub x h4.1)];simpa using h4.2
  ·rintro⟨⟨h4,h5⟩,h6⟩;rw[←hs x (h.sub x h5)]at h6;rcases h1.1 (h2.2 ⟨h5,by simpa using h6⟩)with h7|h7
   ·exact h7
   ·exact absurd h7 h4
 ·rw[←hs x hx];rw[hnd.mem_erase_iff]at hn
  by_cases e:x=m
  ·subst e;simpa using hmL.2
  ·simpa using h.gone x hx (fun h=>hn ⟨e,h⟩)
theorem TpI.start {l:List Edge} {ids L xs:List Int} {g:Int→Int} (hL:L.Pairwise (·<·)) (hm:∀x,x∈L↔x∈ids) (hg:∀x∈ids,g x=1+((ZaG l ids x:Nat):Int)) (hx:xs.Perm (L.filter fun x=>g x==1)):TpI l ids L [] xs g:=by
 have hc:∀x,ZaG l L x=ZaG l ids x:=fun x=>by unfold ZaG;simp only[hm]
 refine⟨hL,fun x hx=>(hm x).1 hx,fun x hx=>by rw[hg x hx,hc];simp,?_,fun x hx hn=>absurd ((hm x).2 hx) hn,fun _ h=>by cases h⟩
 have:(L.filter fun x=>ZaG l L x+([]:List Int).count x==0)=L.filter fun x=>g x==1:=List.filter_congr fun x hx=>by
  rw[hg x ((hm x).1 hx),hc,Bool.eq_iff_iff,beq_iff_eq,beq_iff_eq,List.count_nil];omega
 rw[this];exact hx
end
/- Edges,reads and witnesses by the document,in plain words;for right histories they are what the program tells. -/
section
open Go.RowKit
section
variable {h:Hist}
theorem Zfh (hr:Zg h=true) {i:Nat} (hi:i<h.txs.length):Zc1 h.txs i=true:=by
 unfold Zg at hr;simp only[Bool.and_eq_true,List.all_eq_true,List.mem_range]at hr;exact hr.1.1.2 i hi
theorem Zcw (hr:Zg h=true):(h.txs.map (·.id)).Pairwise (·<·):=Zf0 fun j hj=>by
 rw[List.length_map]at hj;have:=Zfh hr hj;unfold Zc1 at this;rw[Qg hj]at this;simp only[Bool.and_eq_true]at this;have h1:=this.1.1;simp only[Qg (show j<h.txs.length by omega),decide_eq_true_eq]at h1;rw[List.getD_eq_getElem?_getD,List.getD_eq_getElem?_getD,List.getElem?_map,List.getElem?_map,Qg hj,Qg (show j<h.txs.length by omega)];exact h1
theorem Zfj (hr:Zg h=true) {t:HTx} (ht:t∈h.txs):Zi h.txs t.id=some t:=by
 obtain⟨k,hk,rfl⟩:=List.mem_iff_getElem.1 ht;have hp:=List.pairwise_iff_getElem.1 (Zcw hr);refine ZfH hk (fun j hj=> ?_) (by simp);have:=hp j k (by simp;omega) (by simpa using hk) hj;simp only[List.getElem_map]at this;rw[beq_eq_false_iff_ne];omega
theorem Zdi {txs:List HTx} {i:Int} {t:HTx} (hf:Zi txs i=some t):t∈txs∧t.id=i:=by
 refine⟨ZjN hf,?_⟩;unfold Zi at hf;have:=List.find?_some hf
 simpa using this
theorem Zew (hr:Zg h=true) {t:HTx} (ht:t∈h.txs):ZaC t.id t.ops=0∧Zeo h.txs t.id t.ops=true:=by
 obtain⟨k,hk,rfl⟩:=List.mem_iff_getElem.1 ht;have:=Zfh hr hk;unfold Zc1 at this;rw[Qg hk]at this;simp only[Bool.and_eq_true,beq_iff_eq]at this;exact⟨this.1.2,this.2⟩
theorem Zhb (hr:Zg h=true) {t:HTx} (ht:t∈h.txs):1≤t.id:=by
 have:=(Zew hr ht).1;unfold ZaC at this
 split at this
 ·cases this
 ·rename_i hid
  unfold idB at hid;simp at hid;exact hid.1
end
/-! how often there is a reason for an edge -/
def p2 (f key:Int) (n:Nat) (o:HOp):Bool:=o.read&&o.key==key&&o.tx==f&&o.nth==(n:Int)
def p3 (h:Hist) (id key t:Int) (o:HOp):Bool:=o.read&&o.key==key&& !(o.tx==id)&&ZaV h.txs ⟨o.tx,o.key,o.nth⟩&&ZbQ h.ords key o.tx t
def Zv (h:Hist) (e:Edge):Nat:=
 match Zs h.txs e.f,Zs h.txs e.t with
 |some a,some b=>
  if e.f=e.t then 0
  else if e.k=1 then (if ZbQ h.ords e.key e.f e.t then 1 else 0)
  else if e.k=2 then b.ops.countP (p2 e.f e.key (Ze a.ops e.key))
  else if e.k=3 then a.ops.countP (p3 h a.id e.key e.t)
  else 0
 |_,_=>0
theorem ZbU {txs:List HTx} {i:Int} {t:HTx} (hd:Zs txs i=some t):Zi txs i=some t∧t.done=true:=by
 unfold Zs at hd
 split at hd
 ·split at hd
  ·rename_i u hf hu
   cases hd
   exact⟨hf,hu⟩
  ·cases hd
 ·cases hd
/-! bad reads -/
def Zbx (txs:List HTx) (t:HTx) (p:Int) (o:HOp):Bool:=
 t.done&&o.read&& !(o.tx==0)&& !(o.tx==t.id)&&(match Zi txs o.tx with|none=>false|some u=>if p=2 then !u.done else p==3&&decide (o.nth<(Ze u.ops o.key:Int)))
def ZbV (txs:List HTx) (p:Int) (t:HTx) (i:Nat) (acc:List HBad):List HOp→List HBad
 |[]=>acc
 |o::l=>ZbV txs p t (i+1) (if Zbx txs t p o then acc++[⟨t.id,i,ZT o⟩] else acc) l
def ZcA (txs:List HTx) (p:Int) (acc:List HBad):List HTx→List HBad
 |[]=>acc
 |t::l=>ZcA txs p (ZbV txs p t 0 acc t.ops) l
def Zbf (h:Hist) (p:Int):List HBad:=if Zg h=true then ZcA h.txs p [] h.txs else []
/-! witnesses -/
end
/- The document:who is next,which version is the last one,which read may not be. -/
section
open Go.RowKit
theorem ZhH (x:Int):∀(l:List Int) (k:Nat),Zb8 x l k=if Zai l x<l.length then ((Zai l x+k:Nat):Int) else -1
 |[],k=>by simp[Zb8,Zai]
 |y::l,k=>by
  rw[Zeb,ZhH x l (k+1)];unfold Zai;rw[List.findIdx_cons]
  by_cases h:y=x
  ·rw[if_pos h,show(y==x)=true by simpa using h];simp
  ·rw[if_neg h,show(y==x)=false by simpa using h];simp only[cond_false,List.length_cons]
   by_cases h2:l.findIdx (·==x)<l.length
   ·rw[if_pos h2,if_pos (by omega)];congr 1;omega
   ·rw[if_neg h2,if_neg (by omega)]
theorem ZlE (x:Int) (l:List Int):Zb8 x l 0=if Zai l x<l.length then (Zai l x:Int) else -1:=by
 rw[ZhH];rfl
set_option maxRecDepth 100000 in
theorem Znm (F:Nat→Prop) (w:World) (A:Option Addr) (c:Nat) (l:List Int) (tx:Int) (h:Ints F w A l) (hl:l.length≤17592186044415):
  Calls Try.prog 86 #[.slice A l.length c,.int .i64 tx] w (Zj0 w (ZQ l tx)):=by
 have hidx:=Zmi F w A c l tx h hl;rw[ZlE]at hidx
 by_cases h0:tx=0
 ·have hn:=Qh (show ZQ l tx=l[0]? by unfold ZQ;rw[if_pos h0]);have h0b:(tx==0)=true:=by simpa using h0
  obtain⟨iv,hiv⟩:∃iv,(if Zai l tx<l.length then (Zai l tx:Int) else -1)=iv:=⟨_,rfl⟩;rw[hiv]at hidx;have Hidx:=Qh hidx;clear hidx hiv h0
  by_cases hz:l.length=0
  ·have hn2:=Qh (show ZQ l tx=none by rw[hn.out];exact List.getElem?_eq_none (by omega));obtain rfl:l=[]:=List.eq_nil_of_length_eq_zero hz;clear hz
   go_enter Try.func86,Try.ntmps86
   go_wp2_with fail
   refine(Hidx.out).mono ?_;rintro e w1 ⟨rfl,hu1⟩;go_wp2
   go_ret2
   exact⟨by rw[hn2.out];rfl,hu1⟩
  ·have hp:0<l.length:=by omega
   have hn2:=Qh (show ZQ l tx=some l[0] by rw[hn.out];exact Qg hp);have hpI:(0:Int)<(l.length:Int):=by omega
   have hpI2:¬l=[]:=fun e=>by rw[e]at hp;simp at hp
   have hC:∀W,Upd No w W→∃ad,A=some ad∧W.cell? ad=some (.int .i64 l[0]):=fun W hW=>by
    obtain⟨ad,hA,_,_,hc⟩:=(h.upd hW (fun _ _=>id)).at_ hp;have ha:ad.add 0=ad:=by unfold Addr.add;simp
    rw[ha]at hc;exact⟨ad,hA,hc⟩
   obtain⟨ad,rfl,_⟩:=hC w (Upd.refl _ _)
   have hc1:∀W,Upd No w W→W.cell? ad=some (.int .i64 l[0]):=fun W hW=>by
    obtain⟨ad',e,hc⟩:=hC W hW
    cases e
    exact hc
   clear hz hC
   go_enter Try.func86,Try.ntmps86
   go_wp2_with fail
   refine(Hidx.out).mono ?_;rintro e w1 ⟨rfl,hu1⟩;go_wp2
   go_ret2
   exact⟨by rw[hn2.out];rfl,hu1⟩
 ·have hn:=Qh (show ZQ l tx=if Zai l tx<l.length then l[Zai l tx+1]? else none by unfold ZQ;rw[if_neg h0]);have h0b:(tx==0)=false:=by simpa using h0
  clear h0
  by_cases hp:Zai l tx<l.length
  ·rw[if_pos hp]at hidx;have Hidx:=Qh hidx;clear hidx;obtain⟨k,hk⟩:∃k,Zai l tx=k:=⟨_,rfl⟩;rw[hk]at Hidx hn hp;clear hk;have hk0:(0:Int)≤(k:Int)+1:=by omega
   by_cases he:k+1=l.length
   ·have hn2:=Qh (show ZQ l tx=none by rw[hn.out,if_pos hp];exact List.getElem?_eq_none (by omega));have heb:(l.length:Int)≤(k:Int)+1:=by omega
    have He:=Qh he;clear he
    go_enter Try.func86,Try.ntmps86
    go_wp2_with fail
    refine(Hidx.out).mono ?_;rintro e w1 ⟨rfl,hu1⟩;go_wp2
    go_ret2
    exact⟨by rw[hn2.out];rfl,hu1⟩
   ·have hlt:k+1<l.length:=by omega
    have hn2:=Qh (show ZQ l tx=some l[k+1] by rw[hn.out,if_pos hp];exact Qg hlt);have heb:¬(l.length:Int)≤(k:Int)+1:=by omega
    obtain⟨ad,hA,_,_,_⟩:=h.at_ hlt;subst hA
    have hc2:∀W,Upd No w W→W.cell? ⟨ad.block,ad.off+(k+1),none⟩=some (.int .i64 l[k+1]):=fun W hW=>by
     obtain⟨ad',e,_,_,hc⟩:=(h.upd hW (fun _ _=>id)).at_ hlt
     cases e
     rw[←hc]
     congr 1
    have hltI:(k:Int)+1<(l.length:Int):=by omega
    clear he
    go_enter Try.func86,Try.ntmps86
    go_wp2_with fail
    refine(Hidx.out).mono ?_;rintro e w1 ⟨rfl,hu1⟩;go_wp2
    go_ret2
    exact⟨by rw[hn2.out];rfl,hu1⟩
  ·rw[if_neg hp]at hidx;have Hidx:=Qh hidx;clear hidx;have hn2:=Qh (show ZQ l tx=none by rw[hn.out,if_neg hp]);clear hp
   go_enter Try.func86,Try.ntmps86
   go_wp2_with fail
   refine(Hidx.out).mono ?_;rintro e w1 ⟨rfl,hu1⟩;go_wp2
   go_ret2
   exact⟨by rw[hn2.out];rfl,hu1⟩
end
/- Looking at a history:reads that may not be. -/
section
open Go.RowKit
def Zce (txs:List HTx) (i:Int):Bool:=match Zi txs i with|some u=>u.done|none=>false
def Zc0 (txs:List HTx) (i:Int):List HOp:=match Zi txs i with|some u=>u.ops|none=>[]
section
variable {txs:List HTx} {p:Int} {b:HBad}
end
end
/- The document:which version is the last one,which reads may not be. -/
section
open Go.RowKit
theorem ZiP {txs:List HTx} {v:Ver} (h:v.tx=0):ZaV txs v=true:=by unfold ZaV;rw[if_pos h]
theorem ZiR {txs:List HTx} {v:Ver} (h:¬v.tx=0) (hf:Zi txs v.tx=none):ZaV txs v=false:=by unfold ZaV Zs;rw[if_neg h,hf]
theorem ZiQ {txs:List HTx} {v:Ver} {t:HTx} (h:¬v.tx=0) (hf:Zi txs v.tx=some t):ZaV txs v=(t.done&&v.nth==(Ze t.ops v.key:Int)):=by
 unfold ZaV Zs;rw[if_neg h,hf]
 cases hd:t.done<;>simp[hd]
set_option maxRecDepth 100000 in
set_option maxHeartbeats 1000000 in
theorem Znn (F:Nat→Prop) (w:World) (txs:List HTx) (ords:List HOrd) (A:Option Addr) (c:Nat) (B:Option Addr) (d:Nat) (o:HOp) (H:Hist.lies F w ⟨txs,ords,A,c,B,d⟩):
  Calls Try.prog 87 #[.agg #[.slice A txs.length c,.slice B ords.length d],.agg o.cells.toArray] w fun e w'=>e= .returned (.bool (ZaV txs ⟨o.tx,o.key,o.nth⟩))∧Upd No w w':=by
 obtain⟨rd,ky,tx,nt⟩:=o;unfold HOp.cells;simp only;have u0:=((Upd.refl No w).alloc (.cells #[.slice A txs.length c,.slice B ords.length d] 39)).alloc (.cells #[.bool rd,.int .i64 ky,.int .i64 tx,.int .i64 nt] 58);have bH:=Qh ((Blk.new w 39 [.slice A txs.length c,.slice B ords.length d]).alloc (.cells #[.bool rd,.int .i64 ky,.int .i64 tx,.int .i64 nt] 58));have b1:=Blk.new (w.alloc (.cells #[.slice A txs.length c,.slice B ords.length d] 39)) 58 [.bool rd,.int .i64 ky,.int .i64 tx,.int .i64 nt];simp only[World.size_alloc]at b1;have bX:=Qh b1;have U0:=Qh u0;clear b1 u0;have HH:=Qh (H.upd U0.out (fun _ _=>id))
 by_cases h0:tx=0
 ·have HV:=Qh (ZiP (txs:=txs) (v:=⟨tx,ky,nt⟩) h0);have hb:(tx==0)=true:=by simpa using h0
  clear h0
  go_enter Try.func87,Try.ntmps87
  go_wp2
  go_ret
  exact⟨by rw[HV.out];rfl,U0.out⟩
 ·have hb:(tx==0)=false:=by simpa using h0
  cases hf:Zi txs tx with
  |none=>
   have HV:=Qh (ZiR (txs:=txs) (v:=⟨tx,ky,nt⟩) h0 hf);have HF:=Qh hf;clear hf h0
   go_enter Try.func87,Try.ntmps87
   go_wp2_with fail
   refine(ZbM HH.out HF.out).mono ?_;rintro e w1 ⟨rfl,hu1⟩;have uT:=hu1.alloc (.cells #[.int .i64 0,.bool false,.slice none 0 0] 35);clear hu1;go_wp2;refine wp_region_noPanic ?_;refine wp_region_held_drew (S:=(fun w'=>Upd No (w1.alloc (.cells #[.int .i64 0,.bool false,.slice none 0 0] 35)) w')) (by kernel_rfl) ?_ (fun hHeld=> ?_)
   ·(first|exact(Upd.refl No _).drew|exact hHeld.trans hu3)
   refine wpK 0 rfl ?_;refine wpK 1 rfl ?_;refine wpN 2 rfl ?_;refine wpN 3 rfl ?_;refine wpK 4 rfl ?_;refine wpK 5 rfl ?_;refine wpN 6 rfl ?_;refine wpN 7 rfl ?_;refine wpN 8 rfl ?_;refine wpN 9 rfl ?_;refine wpN 10 rfl ?_;refine wpN 11 rfl ?_;refine wpR [12] ?_;refine wpC rfl (fun K hK=> ?_) AllReadyH.nil;go_simp;refine hK.out _ _ ?_ (fun hHeld=> ?_)
   ·exact hHeld
   clear hK K
   try simp only[Act.put,sT,sS,sZ]
   refine wpN 13 rfl ?_;refine wpK 14 rfl ?_;refine wpK 15 rfl ?_;refine wpD (NoPanic.normal ?_);have HU:=Qh (U0.out.trans (uT.trans hHeld));clear hHeld;go_wp2
   go_ret
   exact⟨by rw[HV.out];rfl,HU.out⟩
  |some t=>
   have HV:=Qh (ZiQ (txs:=txs) (v:=⟨tx,ky,nt⟩) h0 hf);have HF:=Qh hf;have HT:=Qh (H.tx t (ZdG hf));clear hf h0;obtain⟨ti,td,tO,tA,tc⟩:=t
   go_enter Try.func87,Try.ntmps87
   go_wp2_with fail
   refine(Zan HH.out HF.out).mono ?_;rintro e w1 ⟨A1,c1,rfl,hc1,hh1,hu1⟩;simp only at hc1 hh1 HV;have bT:=Blk.new w1 35 [.int .i64 ti,.bool td,.slice A1 tO.length c1];have uT:=hu1.alloc (.cells #[.int .i64 ti,.bool td,.slice A1 tO.length c1] 35);have t1:∀W,Upd No (w1.alloc (.cells #[.int .i64 ti,.bool td,.slice A1 tO.length c1] 35)) W→W.cell? ⟨w1.heap.size,1,none⟩=some (.bool td):=fun W hW=>(bT.upd hW id).cell 1
   have t2:∀W,Upd No (w1.alloc (.cells #[.int .i64 ti,.bool td,.slice A1 tO.length c1] 35)) W→W.cell? ⟨w1.heap.size,2,none⟩=some (.slice A1 tO.length c1):=fun W hW=>(bT.upd hW id).cell 2
   have x1:∀W,Upd No (w1.alloc (.cells #[.int .i64 ti,.bool td,.slice A1 tO.length c1] 35)) W→W.cell? ⟨w.heap.size+1,1,none⟩=some (.int .i64 ky):=fun W hW=>(bX.out.upd (uT.trans hW) id).cell 1
   have x3:∀W,Upd No (w1.alloc (.cells #[.int .i64 ti,.bool td,.slice A1 tO.length c1] 35)) W→W.cell? ⟨w.heap.size+1,3,none⟩=some (.int .i64 nt):=fun W hW=>(bX.out.upd (uT.trans hW) id).cell 3
   have HW:=Qh fun W (hW:Upd No (w1.alloc (.cells #[.int .i64 ti,.bool td,.slice A1 tO.length c1] 35)) W)=>Za8 F W A1 c1 tO ky (HOps.upd hh1 (((Upd.refl No _).alloc _).trans hW) (fun _ _=>id)) HT.out.2.2.1
   have UT:=Qh uT;clear bT uT hu1 hh1
   cases td
   ·go_wp2;refine wp_region_noPanic ?_;refine wp_region_held_drew (S:=(fun w'=>Upd No (w1.alloc (.cells #[.int .i64 ti,.bool false,.slice A1 tO.length c1] 35)) w')) (by kernel_rfl) ?_ (fun hHeld=> ?_)
    ·(first|exact(Upd.refl No _).drew|exact hHeld.trans hu3)
    refine wpK 0 rfl ?_;refine wpK 1 rfl ?_;refine wpK 2 rfl ?_;refine wpK 3 rfl ?_;refine wpK 4 rfl ?_;refine wpK 5 rfl ?_;refine wpN 6 rfl ?_;refine wpN 7 rfl ?_;refine wpN 8 rfl ?_;refine wpN 9 rfl ?_;refine wpN 10 rfl ?_;refine wpN 11 rfl ?_;refine wpR [12] ?_;refine wpC rfl (fun K hK=> ?_) AllReadyH.nil;go_simp;refine hK.out _ _ ?_ (fun hHeld=> ?_)
    ·exact hHeld
    clear hK K
    try simp only[Act.put,sT,sS,sZ]
    refine wpN 13 rfl ?_;refine wpK 14 rfl ?_;refine wpK 15 rfl ?_;refine wpD (NoPanic.normal ?_);have HU:=Qh (U0.out.trans (UT.out.trans hHeld));clear hHeld;go_wp2
    go_ret
    exact⟨by rw[HV.out];rfl,HU.out⟩
   ·go_wp2;refine wp_region_noPanic ?_;refine wp_region_held_drew (S:=(fun w'=>Upd No (w1.alloc (.cells #[.int .i64 ti,.bool true,.slice A1 tO.length c1] 35)) w')) (by kernel_rfl) ?_ (fun hHeld=> ?_)
    ·(first|exact(Upd.refl No _).drew|exact hHeld.trans hu3)
    refine wpK 0 rfl ?_;refine wpK 1 rfl ?_;refine wpK 2 rfl ?_;refine wpK 3 rfl ?_;refine wpK 4 rfl ?_;refine wpK 5 rfl ?_;refine wpK 6 rfl ?_;refine wpK 7 rfl ?_;refine wpK 8 rfl ?_;refine wpK 9 rfl ?_;refine wpK 10 rfl ?_;refine wpK 11 rfl ?_;refine wpR [12] ?_;refine wpC rfl (fun K hK=> ?_) AllReadyH.nil;go_simp
    (first
  |(go_at_call 76;refine(HW.out _ hHeld).mono ?_;rintro e w3 ⟨rfl,hu3⟩))
    try (go_wp2_with fail)
    refine hK.out _ _ ?_ (fun hHeld=> ?_)
    ·(first|exact(Upd.refl No _).drew|exact hHeld.trans hu3)
    clear hK K
    try simp only[Act.put,sT,sS,sZ]
    refine wpK 13 rfl ?_;refine wpK 14 rfl ?_;refine wpK 15 rfl ?_;refine wpD (NoPanic.normal ?_);have HU:=Qh (U0.out.trans (UT.out.trans hHeld));clear hHeld;go_wp2
    go_ret
    exact⟨by rw[HV.out];rfl,HU.out⟩
theorem ZlP (txs:List HTx) (i0:Int) (dn:Bool) (l:List HOp) (A:Option Addr) (c:Nat) (p:Int) (rd:Bool) (ky tx nt:Int):
  Zbx txs ⟨i0,dn,l,A,c⟩ p ⟨rd,ky,tx,nt⟩=(dn&&(rd&&(!(tx==0)&&(!(tx==i0)&&(match Zi txs tx with|none=>false|some u=>if p=2 then !u.done else p==3&&decide (nt<(Ze u.ops ky:Int))))))):=by
 unfold Zbx;simp only[Bool.and_assoc]
 try rfl
set_option maxRecDepth 100000 in
set_option maxHeartbeats 1000000 in
theorem ZnQ (F:Nat→Prop) (w:World) (txs:List HTx) (ords:List HOrd) (A:Option Addr) (c:Nat) (B:Option Addr) (d:Nat) (i0:Int) (dn:Bool) (A1:Option Addr) (c1:Nat) (l:List HOp) (k:Nat) (p:Int) (o:HOp)
  (H:Hist.lies F w ⟨txs,ords,A,c,B,d⟩) (h:HOps F w A1 l) (hl:Zy l.length) (hk:k<l.length) (ho:l[k]=o):
  Calls Try.prog 56 #[.agg #[.slice A txs.length c,.slice B ords.length d],.agg #[.int .i64 i0,.bool dn,.slice A1 l.length c1],.int .i64 (k:Int),.int .i64 p] w fun e w'=>e= .returned (.bool (Zbx txs ⟨i0,dn,l,A1,c1⟩ p o))∧Upd No w w':=by
 unfold Zy at hl;have u0:=((Upd.refl No w).alloc (.cells #[.slice A txs.length c,.slice B ords.length d] 39)).alloc (.cells #[.int .i64 i0,.bool dn,.slice A1 l.length c1] 35);have bH:=Qh ((Blk.new w 39 [.slice A txs.length c,.slice B ords.length d]).alloc (.cells #[.int .i64 i0,.bool dn,.slice A1 l.length c1] 35));have b1:=Blk.new (w.alloc (.cells #[.slice A txs.length c,.slice B ords.length d] 39)) 35 [.int .i64 i0,.bool dn,.slice A1 l.length c1];simp only[World.size_alloc]at b1;have bX:=Qh b1;have U0:=Qh u0;clear b1 u0;obtain⟨rd,ky,tx,nt⟩:=o;obtain⟨ad,hAd,q0,q1,q2,q3⟩:=(h.upd U0.out (fun _ _=>id)).at_ hk;rw[ho]at q0 q1 q2 q3;simp only at q0 q1 q2 q3;subst hAd;have hv:=ZlP txs i0 dn l (some ad) c1 p rd ky tx nt;have b1:(0:Int)≤(k:Int):=Qn _;have b2:(k:Int)<(l.length:Int):=by omega
 have U1:=Qh (U0.out.alloc (.cells #[.bool rd,.int .i64 ky,.int .i64 tx,.int .i64 nt] 58));have hbo:=Blk.new ((w.alloc (.cells #[.slice A txs.length c,.slice B ords.length d] 39)).alloc (.cells #[.int .i64 i0,.bool dn,.slice (some ad) l.length c1] 35)) 58 [.bool rd,.int .i64 ky,.int .i64 tx,.int .i64 nt];simp only[World.size_alloc]at hbo;have bO:=Qh hbo;clear ho hbo
 cases dn
 ·have HV:=Qh (show Zbx txs ⟨i0,false,l,some ad,c1⟩ p ⟨rd,ky,tx,nt⟩=false by rw[hv];rfl);clear hv
  go_enter Try.func56,Try.ntmps56
  go_wp2
  go_ret
  exact⟨by rw[HV.out];rfl,U1.out⟩
 ·cases rd
  ·have HV:=Qh (show Zbx txs ⟨i0,true,l,some ad,c1⟩ p ⟨false,ky,tx,nt⟩=false by rw[hv];rfl);clear hv
   go_enter Try.func56,Try.ntmps56
   go_wp2
   go_ret
   exact⟨by rw[HV.out];rfl,U1.out⟩
  ·by_cases h0:tx=0
   ·have HV:=Qh (show Zbx txs ⟨i0,true,l,some ad,c1⟩ p ⟨true,ky,tx,nt⟩=false by rw[hv,h0];rfl);have h0b:(tx==0)=true:=by simpa using h0
    clear hv h0
    go_enter Try.func56,Try.ntmps56
    go_wp2
    go_ret
    exact⟨by rw[HV.out];rfl,U1.out⟩
   ·have h0b:(tx==0)=false:=by simpa using h0
    by_cases h1:tx=i0
    ·have HV:=Qh (show Zbx txs ⟨i0,true,l,some ad,c1⟩ p ⟨true,ky,tx,nt⟩=false by rw[hv,h1];simp);have h1b:(tx==i0)=true:=by simpa using h1
     clear hv h0 h1
     go_enter Try.func56,Try.ntmps56
     go_wp2
     go_ret
     exact⟨by rw[HV.out];rfl,U1.out⟩
    ·have h1b:(tx==i0)=false:=by simpa using h1
     have HH:=Qh (H.upd U1.out (fun _ _=>id))
     cases hf:Zi txs tx with
     |none=>
      have HV:=Qh (show Zbx txs ⟨i0,true,l,some ad,c1⟩ p ⟨true,ky,tx,nt⟩=false by rw[hv,hf];simp);have HF:=Qh hf;clear hv h0 h1 hf
      go_enter Try.func56,Try.ntmps56
      go_wp2_with fail
      refine(ZbM HH.out HF.out).mono ?_;rintro e w1 ⟨rfl,hu1⟩;have HU:=Qh (U1.out.trans (hu1.alloc (.cells #[.int .i64 0,.bool false,.slice none 0 0] 35)));clear hu1;go_wp2
      go_ret
      exact⟨by rw[HV.out];rfl,HU.out⟩
     |some t=>
      have hv2:Zbx txs ⟨i0,true,l,some ad,c1⟩ p ⟨true,ky,tx,nt⟩=(if p=2 then !t.done else p==3&&decide (nt<(Ze t.ops ky:Int))):=by rw[hv,hf,h0b,h1b];rfl
      have HF:=Qh hf;have HT:=Qh (H.tx t (ZdG hf));clear hv h0 h1 hf;obtain⟨ti,td,tO,tA,tc⟩:=t;simp only at hv2
      by_cases h2:p=2
      ·have HV:=Qh (show Zbx txs ⟨i0,true,l,some ad,c1⟩ p ⟨true,ky,tx,nt⟩= !td by rw[hv2,if_pos h2]);have h2b:(p==2)=true:=by simpa using h2
       clear hv2 h2
       go_enter Try.func56,Try.ntmps56
       go_wp2_with fail
       refine(Zan HH.out HF.out).mono ?_;rintro e w1 ⟨A2,c2,rfl,hc2,hh2,hu1⟩;have HU:=Qh (U1.out.trans (hu1.alloc (.cells #[.int .i64 ti,.bool td,.slice A2 tO.length c2] 35)));clear hu1 hc2 hh2;go_wp2
       go_ret
       exact⟨by rw[HV.out];rfl,HU.out⟩
      ·rw[if_neg h2]at hv2;have h2b:(p==2)=false:=by simpa using h2
       have HV2:=Qh hv2;clear hv2 h2
       go_enter Try.func56,Try.ntmps56
       go_wp2_with fail
       refine(Zan HH.out HF.out).mono ?_;rintro e w1 ⟨A2,c2,rfl,hc2,hh2,hu1⟩;simp only at hc2 hh2;have bT:=Blk.new w1 35 [.int .i64 ti,.bool td,.slice A2 tO.length c2];have uT:=hu1.alloc (.cells #[.int .i64 ti,.bool td,.slice A2 tO.length c2] 35);have t2:∀W,Upd No (w1.alloc (.cells #[.int .i64 ti,.bool td,.slice A2 tO.length c2] 35)) W→W.cell? ⟨w1.heap.size,2,none⟩=some (.slice A2 tO.length c2):=fun W hW=>(bT.upd hW id).cell 2
       have x1:∀W,Upd No (w1.alloc (.cells #[.int .i64 ti,.bool td,.slice A2 tO.length c2] 35)) W→W.cell? ⟨w.heap.size+1+1,1,none⟩=some (.int .i64 ky):=fun W hW=>(bO.out.upd (uT.trans hW) id).cell 1
       have x3:∀W,Upd No (w1.alloc (.cells #[.int .i64 ti,.bool td,.slice A2 tO.length c2] 35)) W→W.cell? ⟨w.heap.size+1+1,3,none⟩=some (.int .i64 nt):=fun W hW=>(bO.out.upd (uT.trans hW) id).cell 3
       have HW:=Qh fun W (hW:Upd No (w1.alloc (.cells #[.int .i64 ti,.bool td,.slice A2 tO.length c2] 35)) W)=>Za8 F W A2 c2 tO ky (HOps.upd hh2 (((Upd.refl No _).alloc _).trans hW) (fun _ _=>id)) HT.out.2.2.1
       have UT:=Qh uT;clear bT uT hu1 hh2
       by_cases h3:p=3
       ·have h3b:(p==3)=true:=by simpa using h3
        clear h3;go_wp2;refine wp_region_noPanic ?_;refine wp_region_held_drew (S:=(fun w'=>Upd No (w1.alloc (.cells #[.int .i64 ti,.bool td,.slice A2 tO.length c2] 35)) w')) (by kernel_rfl) ?_ (fun hHeld=> ?_)
        ·(first|exact(Upd.refl No _).drew|exact hHeld.trans hu3)
        refine wpK 0 rfl ?_;refine wpK 1 rfl ?_;refine wpK 2 rfl ?_;refine wpK 3 rfl ?_;refine wpK 4 rfl ?_;refine wpK 5 rfl ?_;refine wpK 6 rfl ?_;refine wpK 7 rfl ?_;refine wpK 8 rfl ?_;refine wpR [9] ?_;refine wpC rfl (fun K hK=> ?_) AllReadyH.nil;go_simp
        (first
  |(go_at_call 76;refine(HW.out _ hHeld).mono ?_;rintro e w3 ⟨rfl,hu3⟩))
        try (go_wp2_with fail)
        refine hK.out _ _ ?_ (fun hHeld=> ?_)
        ·(first|exact(Upd.refl No _).drew|exact hHeld.trans hu3)
        clear hK K
        try simp only[Act.put,sT,sS,sZ]
        refine wpK 10 rfl ?_;refine wpK 11 rfl ?_;refine wpK 12 rfl ?_;refine wpD (NoPanic.normal ?_);have HU:=Qh (U1.out.trans (UT.out.trans hHeld));clear hHeld;go_wp2
        go_ret
        exact⟨by rw[HV2.out,h3b];rfl,HU.out⟩
       ·have h3b:(p==3)=false:=by simpa using h3
        clear h3;go_wp2;refine wp_region_noPanic ?_;refine wp_region_held_drew (S:=(fun w'=>Upd No (w1.alloc (.cells #[.int .i64 ti,.bool td,.slice A2 tO.length c2] 35)) w')) (by kernel_rfl) ?_ (fun hHeld=> ?_)
        ·(first|exact(Upd.refl No _).drew|exact hHeld.trans hu3)
        refine wpK 0 rfl ?_;refine wpK 1 rfl ?_;refine wpK 2 rfl ?_;refine wpN 3 rfl ?_;refine wpN 4 rfl ?_;refine wpN 5 rfl ?_;refine wpN 6 rfl ?_;refine wpN 7 rfl ?_;refine wpN 8 rfl ?_;refine wpR [9] ?_;refine wpC rfl (fun K hK=> ?_) AllReadyH.nil;go_simp;refine hK.out _ _ ?_ (fun hHeld=> ?_)
        ·exact hHeld
        clear hK K
        try simp only[Act.put,sT,sS,sZ]
        refine wpN 10 rfl ?_;refine wpK 11 rfl ?_;refine wpK 12 rfl ?_;refine wpD (NoPanic.normal ?_);have HU:=Qh (U1.out.trans (UT.out.trans hHeld));clear hHeld;go_wp2
        go_ret
        exact⟨by rw[HV2.out,h3b];rfl,HU.out⟩
end
/- Writers,the document's and the program's. -/
section
open Go.RowKit
theorem Zi6 (key:Int):∀(l:List HTx) (acc:List Int),wrS key acc l=acc++ZB l key
 |[],acc=>by simp[wrS,ZB]
 |t::l,acc=>by
  rw[ZeJ,Zi6 key l]
  have hc:(ZaF t.ops).contains key=decide (0<Ze t.ops key):=by
   rw[List.contains_eq_mem]
   congr 1
   simp only[ZjG]
  unfold ZB;rw[List.filter_cons];simp only[hc]
  split<;>simp
theorem ZmW (key:Int) (l:List HTx):wrS key [] l=ZB l key:=by rw[Zi6];simp
end
end Go.Proofs.Ytdbjokfejmgepaa
