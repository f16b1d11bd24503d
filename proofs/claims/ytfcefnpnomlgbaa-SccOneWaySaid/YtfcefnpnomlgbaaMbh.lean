/- Components of a digraph, plain: the components by their labels, and who goes round. -/
import Derived.Test.YtfcefnpnomlgbaaMav
import Derived.Test.YtfcefnpnomlgbaaMbg
namespace Go.Proofs.Ytfcefnpnomlgbaa
set_option linter.unusedSimpArgs false
set_option linter.unusedVariables false
def ZI (L:Nat→Nat) (k:Nat):List Nat:=(List.range k).filter fun i=>L i==i
def Zn (L:Nat→Nat) (k r:Nat):List Nat:=(List.range k).filter fun i=>L i==r
def Zg (L:Nat→Nat) (k:Nat):List (List Nat):=(ZI L k).map (Zn L k)
theorem Za5 (L:Nat→Nat) (k:Nat):ZI L (k+1)=ZI L k++if L k=k then [k] else []:=by
 unfold ZI
 rw[List.range_succ,List.filter_append]
 congr 1
 by_cases h:L k=k<;>simp[h]
theorem ZaH (L:Nat→Nat) (k r:Nat):Zn L (k+1) r=Zn L k r++if L k=r then [k] else []:=by
 unfold Zn
 rw[List.range_succ,List.filter_append]
 congr 1
 by_cases h:L k=r<;>simp[h]
theorem mem_rootsN {L:Nat→Nat} {k r:Nat}:r∈ZI L k↔r<k∧L r=r:=by
 unfold ZI;rw[List.mem_filter,List.mem_range,beq_iff_eq]
theorem mem_membN {L:Nat→Nat} {k r i:Nat}:i∈Zn L k r↔i<k∧L i=r:=by
 unfold Zn;rw[List.mem_filter,List.mem_range,beq_iff_eq]
theorem ZdJ {L:Nat→Nat} (hL:∀i,L i≤i) {k:Nat} (h:L k=k):Zg L (k+1)=Zg L k++[[k]]:=by
 unfold Zg
 rw[Za5,if_pos h,List.map_append]
 congr 1
 ·refine List.map_congr_left fun r hr=> ?_
  rw[ZaH,if_neg,List.append_nil]
  have:=(mem_rootsN.1 hr).1
  omega
 ·rw[List.map_cons,List.map_nil,ZaH,if_pos h]
  have:Zn L k k=[]:=by
   unfold Zn
   rw[List.filter_eq_nil_iff]
   intro i hi
   rw[List.mem_range]at hi
   have:=hL i
   simp only[beq_iff_eq]
   omega
  rw[this];rfl
def Zao (L:Nat→Nat) (r:Nat):Nat:=(ZI L r).length
theorem Zbx {L:Nat→Nat} {r:Nat} (h:L r=r):∀{k:Nat},r<k→(ZI L k)[Zao L r]? =some r
 |0,hk=>by omega
 |k+1,hk=>by
  rw[Za5]
  by_cases e:r=k
  ·subst e
   rw[if_pos h]
   unfold Zao
   rw[List.getElem?_append_right (Nat.le_refl _)]
   simp
  ·have:=Zbx h (k:=k) (by omega)
   rw[List.getElem?_append_left (List.getElem?_eq_some_iff.1 this).1]
   exact this
theorem Zbw (L:Nat→Nat) (k:Nat):(ZI L k).Nodup:=List.nodup_range.sublist List.filter_sublist
theorem Zel {L:Nat→Nat} {k r:Nat} (hr:L k=r) (hlt:r<k) (hrr:L r=r):Zg L (k+1)=(Zg L k).modify (Zao L r) (·++[k]):=by
 unfold Zg
 rw[Za5,if_neg (by omega),List.append_nil]
 have hat:=Zbx hrr hlt
 apply List.ext_getElem?
 intro j
 rw[List.getElem?_modify,List.getElem?_map,List.getElem?_map]
 by_cases e:Zao L r=j
 ·subst e
  rw[hat]
  simp only[Option.map_some,if_true]
  rw[ZaH,if_pos hr];rfl
 ·cases hj:(ZI L k)[j]? with
  |none=>simp
  |some x=>
   simp only[Option.map_some,if_neg e]
   rw[ZaH,if_neg,List.append_nil]
   ·rfl
   ·intro e2
    apply e
    obtain⟨h1,h2⟩:=List.getElem?_eq_some_iff.1 hat
    obtain⟨h3,h4⟩:=List.getElem?_eq_some_iff.1 hj
    refine(List.getElem_inj (h₀:=h1) (h₁:=h3) (Zbw L k)).1 ?_
    rw[h2,h4,←e2,hr]
theorem Zco (L:Nat→Nat) (k:Nat):(Zg L k).length=Zao L k:=by unfold Zg Zao;rw[List.length_map]
theorem ZdW (L:Nat→Nat) (k:Nat):Zao L k≤k:=by
 unfold Zao ZI
 have:=List.length_filter_le (fun i=>L i==i) (List.range k)
 rwa [List.length_range]at this
/-! who goes round -/
section
variable {q:List HArc} {N:Nat}
theorem Zas (q:List HArc) (i:Nat):Za q i≤i:=by
 unfold Za
 rcases ZbA (ZbO q i) i i with ⟨h1,_⟩|⟨h1,_⟩<;>omega
theorem ZaB (hq:Zq N q) {i j:Nat}:Za q i=Za q j↔Rch (nxN q) i j∧Rch (nxN q) j i:=by
 have hi:=ZaL hq i
 have hj:=ZaL hq j
 constructor
 ·intro e
  rw[e]at hi
  exact⟨hi.1.trans hj.2.1,hj.1.trans hi.2.1⟩
 ·rintro⟨h1,h2⟩
  refine IsLab.one (x:=i) hi ⟨h1.trans hj.1,hj.2.1.trans h2,fun y h3 h4=>hj.2.2 y (h2.trans h3) (h4.trans h1)⟩
theorem Za2 (hq:Zq N q) (i:Nat):Za q (Za q i)=Za q i:=(ZaB hq).2 ⟨(ZaL hq i).2.1,(ZaL hq i).1⟩
def Z6 (q:List HArc) (p:List Nat):Bool:=decide (1<p.length)||decide (p.headD 0∈nxN q (p.headD 0))
theorem ZeJ {r:Nat} (hr:r∈ZI (Za q) N):(Zn (Za q) N r).headD 0=r:=by
 obtain⟨h1,h2⟩:=mem_rootsN.1 hr
 have hm:r∈Zn (Za q) N r:=mem_membN.2 ⟨h1,h2⟩
 have hp:(Zn (Za q) N r).Pairwise (·<·):=List.pairwise_lt_range.sublist List.filter_sublist
 cases h:Zn (Za q) N r with
 |nil=>rw[h]at hm;cases hm
 |cons a l=>
  rw[h]at hm hp
  simp only[List.headD_cons]
  have ha:a∈Zn (Za q) N r:=by rw[h];simp
  have h3:=(mem_membN.1 ha).2
  have h4:=Zas q a
  rcases List.mem_cons.1 hm with e|hm
  ·exact e.symm
  ·have:=(List.pairwise_cons.1 hp).1 r hm
   omega
theorem Zdt (hq:Zq N q) {i:Nat} (hi:i<N):Z6 q (Zn (Za q) N (Za q i))=true↔(i:Int)∈ZT q i:=by
 have hr:Za q i∈ZI (Za q) N:=mem_rootsN.2 ⟨by have:=Zas q i;omega,Za2 hq i⟩
 have hmi:i∈Zn (Za q) N (Za q i):=mem_membN.2 ⟨hi,rfl⟩
 have hnd:(Zn (Za q) N (Za q i)).Nodup:=List.nodup_range.sublist List.filter_sublist
 unfold Z6
 rw[ZeJ hr,Zbm hq,Bool.or_eq_true,decide_eq_true_iff,decide_eq_true_iff]
 have hother:∀j,j≠i→j∈Zn (Za q) N (Za q i)→∃y∈nxN q i,Rch (nxN q) y i:=by
  intro j hne hj
  have h1:=(ZaB hq).1 (mem_membN.1 hj).2
  obtain⟨y,hy,h2⟩:=(Zda (Ne.symm hne)).1 h1.2
  exact⟨y,hy,h2.trans h1.1⟩
 constructor
 ·rintro(h|h)
  ·cases hl:Zn (Za q) N (Za q i)with
   |nil=>rw[hl]at hmi;cases hmi
   |cons a l=>
    cases l with
    |nil=>rw[hl]at h;simp at h
    |cons b l=>
     rw[hl]at hnd
     by_cases e:a=i
     ·have:b≠i:=fun e2=>by subst e e2;simp at hnd
      exact hother b this (by rw[hl];simp)
     ·exact hother a e (by rw[hl];simp)
  ·by_cases e:Za q i=i
   ·rw[e]at h;exact⟨i,h,Rch.refl _⟩
   ·exact hother _ e (mem_membN.2 (mem_rootsN.1 hr))
 ·rintro⟨y,hy,h⟩
  have hyN:=ZeC hq hy
  have hy2:y∈Zn (Za q) N (Za q i):=mem_membN.2 ⟨hyN,(ZaB hq).2 ⟨h,Rch.one hy⟩⟩
  by_cases e:y=i
  ·rw[e]at hy
   by_cases e2:Za q i=i
   ·rw[e2];exact Or.inr hy
   ·left
    have h3:Za q i∈Zn (Za q) N (Za q i):=mem_membN.2 (mem_rootsN.1 hr)
    have:=nodup_two hnd h3 hmi e2
    omega
  ·left
   have:=nodup_two hnd hy2 hmi e
   omega
 where nodup_two:∀{l:List Nat} {a b:Nat},l.Nodup→a∈l→b∈l→a≠b→2≤l.length
 |[],_,_,_,ha,_,_=>by cases ha
 |[x],a,b,_,ha,hb,hne=>by
  rw[List.mem_singleton]at ha hb
  exact absurd (ha.trans hb.symm) hne
 |_::_::l,_,_,_,_,_,_=>by simp
def Zbv (q:List HArc) (N:Nat):List Nat:=((Zg (Za q) N).filter (Z6 q)).flatten
theorem Zeb (hq:Zq N q) {i:Nat}:i∈Zbv q N↔i<N∧(i:Int)∈ZT q i:=by
 unfold Zbv Zg
 rw[List.mem_flatten]
 constructor
 ·rintro⟨p,hp,hi⟩
  obtain⟨hp1,hp2⟩:=List.mem_filter.1 hp
  obtain⟨r,hr,rfl⟩:=List.mem_map.1 hp1
  obtain⟨h1,rfl⟩:=mem_membN.1 hi
  exact⟨h1,(Zdt hq h1).1 hp2⟩
 ·rintro⟨h1,h2⟩
  refine⟨Zn (Za q) N (Za q i),List.mem_filter.2 ⟨List.mem_map.2 ⟨Za q i,mem_rootsN.2 ⟨by have:=Zas q i;omega,Za2 hq i⟩,rfl⟩,(Zdt hq h1).2 h2⟩,mem_membN.2 ⟨h1,rfl⟩⟩
theorem Zc8 (q:List HArc) (N:Nat):(Zbv q N).Nodup:=by
 unfold Zbv
 rw[List.nodup_iff_pairwise_ne,List.pairwise_flatten]
 refine⟨fun p hp=> ?_,?_⟩
 ·obtain⟨hp1,_⟩:=List.mem_filter.1 hp
  unfold Zg at hp1
  obtain⟨r,_,rfl⟩:=List.mem_map.1 hp1
  rw[←List.nodup_iff_pairwise_ne]
  exact List.nodup_range.sublist List.filter_sublist
 ·refine List.Pairwise.filter _ ?_
  unfold Zg
  rw[List.pairwise_map]
  have:=Zbw (Za q) N
  rw[List.nodup_iff_pairwise_ne]at this
  refine this.imp fun {a b} hab=> ?_
  intro i h1 j h2 e
  subst e
  exact hab ((mem_membN.1 h1).2.symm.trans (mem_membN.1 h2).2)
theorem Ze5 (hq:Zq N q):Zbh ((Zbv q N).map fun i:Nat=>(i:Int))=Zak N q:=by
 refine ZcE ((Zaj _).trans ?_) (Zbg _) ?_
 ·unfold Zak
  refine List.Perm.map _ ((List.perm_ext_iff_of_nodup (Zc8 q N) (List.nodup_range.sublist List.filter_sublist)).2 fun i=> ?_)
  rw[Zeb hq,List.mem_filter,List.mem_range,decide_eq_true_iff]
 ·unfold Zak
  rw[List.pairwise_map]
  exact(List.pairwise_lt_range.sublist List.filter_sublist).imp fun h=>by omega
end
end Go.Proofs.Ytfcefnpnomlgbaa
