/- Lists of numbers: sorted by putting one after another, each once. -/
import Derived.Lib.SlicesCompact
import Derived.Test.YtfcefnpnomlgbaaMat
namespace Go.Proofs.Ytfcefnpnomlgbaa
set_option linter.unusedSimpArgs false
set_option linter.unusedVariables false
def Zb8 (x:Int):List Int→List Int
 |[]=>[x]
 |y::l=>if x≤y then x::y::l else y::Zb8 x l
def Zbk:List Int→List Int
 |[]=>[]
 |x::l=>Zb8 x (Zbk l)
theorem ZbI (x:Int):∀l:List Int,(Zb8 x l).Perm (x::l)
 |[]=>List.Perm.refl _
 |y::l=>by
  unfold Zb8
  split
  ·exact List.Perm.refl _
  ·exact((ZbI x l).cons y).trans (List.Perm.swap x y l)
theorem Zaq:∀l:List Int,(Zbk l).Perm l
 |[]=>List.Perm.refl _
 |x::l=>(ZbI x _).trans ((Zaq l).cons x)
theorem Zeb (x:Int):∀l:List Int,l.Pairwise (·≤·)→(Zb8 x l).Pairwise (·≤·)
 |[],_=>by simp[Zb8]
 |y::l,h=>by
  rw[List.pairwise_cons]at h
  unfold Zb8
  split
  ·rename_i hxy
   rw[List.pairwise_cons]
   refine⟨fun a ha=> ?_,List.pairwise_cons.2 h⟩
   rcases List.mem_cons.1 ha with rfl|ha
   ·exact hxy
   ·exact Int.le_trans hxy (h.1 a ha)
  ·rename_i hxy
   rw[List.pairwise_cons]
   refine⟨fun a ha=> ?_,Zeb x l h.2⟩
   rcases List.mem_cons.1 ((ZbI x l).mem_iff.1 ha)with rfl|ha
   ·omega
   ·exact h.1 a ha
theorem Zbj:∀l:List Int,(Zbk l).Pairwise (·≤·)
 |[]=>List.Pairwise.nil
 |x::l=>Zeb x _ (Zbj l)
theorem Zfi (l:List Int):(ZP l).Pairwise (·≤·):=by
 have:=List.pairwise_mergeSort (le:=fun x y:Int=>decide (x≤y)) (fun a b c h k=>by simp only[decide_eq_true_eq]at*;omega) (fun a b=>by simp only[Bool.or_eq_true,decide_eq_true_eq];omega) l
 unfold ZP
 exact this.imp fun h=>by simpa using h
theorem ZcN {a b:List Int} (h:a.Perm b) (ha:a.Pairwise (·≤·)) (hb:b.Pairwise (·≤·)):a=b:=
 List.Perm.eq_of_pairwise (le:=fun x y=>x≤y) (fun x y _ _ h1 h2=>Int.le_antisymm h1 h2) ha hb h
theorem Zb2 (l:List Int):ZP l=Zbk l:=
 ZcN (((List.mergeSort_perm _ _)).trans (Zaq l).symm) (Zfi l) (Zbj l)
def ddI (l:List Int):Nat→List Int
 |0=>[]
 |k+1=>ddI l k++(match l[k]? with|none=>[]|some x=>if k=0 then [x] else if l[k-1]? =some x then [] else [x])
theorem Zbs (l:List Int) (k:Nat):ddI l (k+1)=ddI l k++(match l[k]? with|none=>[]|some x=>if k=0 then [x] else if l[k-1]? =some x then [] else [x]):=rfl
theorem ZbK (l:List Int):∀k,k≤l.length→Lib.compactUpTo l.toArray k=ddI l k
 |0,_=>rfl
 |k+1,h=>by
  rw[Lib.compactUpTo_succ,ZbK l k (by omega)]
  rw[Zbs]
  have hk:l[k]? =some l[k]:=List.getElem?_eq_getElem (by omega)
  rw[hk]
  have e1:l.toArray[k]! =l[k]:=by simp[show k<l.length by omega]
  simp only[e1]
  unfold Lib.keeps
  by_cases h0:k=0
  ·subst h0;simp
  ·have hk1:l[k-1]? =some l[k-1]:=List.getElem?_eq_getElem (by omega)
   have e2:l.toArray[k-1]! =l[k-1]:=by simp[show k-1<l.length by omega]
   rw[if_neg h0,hk1]
   simp only[e1,e2,h0,Option.some.injEq]
   by_cases h1:l[k-1]=l[k]
   ·simp[h1]
   ·have h2:¬l[k]=l[k-1]:=fun e=>h1 e.symm
    simp[h1,h2]
theorem Zcx (l:List Int):Lib.compact l=ddI l l.length:=ZbK l l.length (Nat.le_refl _)
theorem Zef (l:List Int):∀k,(ddI l k).length≤k
 |0=>Nat.le_refl _
 |k+1=>by
  rw[Zbs]
  have:=Zef l k
  rw[List.length_append]
  split
  ·simp;omega
  ·split
   ·simp;omega
   ·split<;>simp<;>omega
theorem ZcD (l:List Int) (a:Int):∀k,k≤l.length→(a∈ddI l k↔a∈l.take k)
 |0,_=>by simp[ddI]
 |k+1,h=>by
  have ih:=ZcD l a k (by omega)
  rw[Zbs]
  rw[List.getElem?_eq_getElem (show k<l.length by omega),List.take_succ_eq_append_getElem (show k<l.length by omega),List.mem_append,List.mem_append,ih]
  by_cases h0:k=0
  ·subst h0;simp
  ·simp only[if_neg h0]
   by_cases h1:l[k-1]? =some l[k]
   ·rw[if_pos h1]
    have hm:l[k]∈l.take k:=by
     rw[List.mem_take_iff_getElem]
     refine⟨k-1,by omega,?_⟩
     rw[List.getElem?_eq_getElem (by omega)]at h1
     simpa using h1
    constructor
    ·rintro(h|h)
     ·exact .inl h
     ·simp at h
    ·rintro(h|h)
     ·exact .inl h
     ·simp only[List.mem_singleton]at h
      subst h
      exact .inl hm
   ·rw[if_neg h1]
theorem Zfa (l:List Int) (hs:l.Pairwise (·≤·)):∀k,k≤l.length→(ddI l k).Pairwise (·<·)
 |0,_=>List.Pairwise.nil
 |k+1,h=>by
  have ih:=Zfa l hs k (by omega)
  rw[Zbs]
  rw[List.getElem?_eq_getElem (show k<l.length by omega)]
  by_cases h0:k=0
  ·subst h0;simp[ddI]
  ·simp only[if_neg h0]
   by_cases h1:l[k-1]? =some l[k]
   ·rw[if_pos h1,List.append_nil];exact ih
   ·rw[if_neg h1,List.pairwise_append]
    refine⟨ih,by simp,fun a ha b hb=> ?_⟩
    simp only[List.mem_singleton]at hb
    subst hb
    rw[ZcD l a k (by omega),List.mem_take_iff_getElem]at ha
    obtain⟨j,hj,rfl⟩:=ha
    have hp:=List.pairwise_iff_getElem.1 hs
    have e1:l[j]≤l[k-1]:=by
     by_cases e:j=k-1
     ·subst e;exact Int.le_refl _
     ·exact hp j (k-1) (by omega) (by omega) (by omega)
    have e2:l[k-1]≤l[k]:=hp (k-1) k (by omega) (by omega) (by omega)
    have e3:l[k-1]≠l[k]:=fun e=>h1 (by rw[List.getElem?_eq_getElem (by omega),e])
    omega
def Zem (l:List Int):List Int:=ddI (Zbk l) (Zbk l).length
theorem ZfD (l:List Int) (a:Int):a∈Zem l↔a∈l:=by
 unfold Zem
 rw[ZcD _ _ _ (Nat.le_refl _),List.take_length]
 exact(Zaq l).mem_iff
theorem Zge (l:List Int):(Zem l).Pairwise (·<·):=Zfa _ (Zbj l) _ (Nat.le_refl _)
theorem Zby (l:List Int):Lib.compact (ZP l)=Zem l:=by rw[Zb2,Zcx];rfl
end Go.Proofs.Ytfcefnpnomlgbaa
