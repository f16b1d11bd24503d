/- Lists of numbers: sorted by putting one after another, each once. -/
import Derived.Lib.SlicesCompact
import Derived.Test.YtblplapkdmhikaaDxal
namespace Go.Proofs.Ytblplapkdmhikaa
set_option linter.unusedVariables false
set_option linter.unusedSimpArgs false
section
def Zcc (x:Int):List Int→List Int
 |[]=>[x]
 |y::l=>if x≤y then x::y::l else y::Zcc x l
def Zax:List Int→List Int
 |[]=>[]
 |x::l=>Zcc x (Zax l)
theorem ZbQ (x:Int):∀l:List Int,(Zcc x l).Perm (x::l)
 |[]=>List.Perm.refl _
 |y::l=>by
  unfold Zcc
  split
  ·exact List.Perm.refl _
  ·exact((ZbQ x l).cons y).trans (List.Perm.swap x y l)
theorem ZR:∀l:List Int,(Zax l).Perm l
 |[]=>List.Perm.refl _
 |x::l=>(ZbQ x _).trans ((ZR l).cons x)
theorem Zd8 (x:Int):∀l:List Int,l.Pairwise (·≤·)→(Zcc x l).Pairwise (·≤·)
 |[],_=>by simp[Zcc]
 |y::l,h=>by
  rw[List.pairwise_cons]at h;unfold Zcc
  split
  ·rename_i hxy
   rw[List.pairwise_cons];refine⟨fun a ha=> ?_,List.pairwise_cons.2 h⟩;rcases List.mem_cons.1 ha with rfl|ha
   ·exact hxy
   ·exact Int.le_trans hxy (h.1 a ha)
  ·rename_i hxy
   rw[List.pairwise_cons];refine⟨fun a ha=> ?_,Zd8 x l h.2⟩;rcases List.mem_cons.1 ((ZbQ x l).mem_iff.1 ha)with rfl|ha
   ·omega
   ·exact h.1 a ha
theorem Zar:∀l:List Int,(Zax l).Pairwise (·≤·)
 |[]=>List.Pairwise.nil
 |x::l=>Zd8 x _ (Zar l)
theorem Zfk (l:List Int):(ZI l).Pairwise (·≤·):=by
 have:=List.pairwise_mergeSort (le:=fun x y:Int=>decide (x≤y)) (fun a b c h k=>by simp only[decide_eq_true_eq]at*;omega) (fun a b=>by simp only[Bool.or_eq_true,decide_eq_true_eq];omega) l;unfold ZI;exact this.imp fun h=>by simpa using h
theorem Za3 {a b:List Int} (h:a.Perm b) (ha:a.Pairwise (·≤·)) (hb:b.Pairwise (·≤·)):a=b:=
 List.Perm.eq_of_pairwise (le:=fun x y=>x≤y) (fun x y _ _ h1 h2=>Int.le_antisymm h1 h2) ha hb h
theorem ZaT (l:List Int):ZI l=Zax l:=
 Za3 (((List.mergeSort_perm _ _)).trans (ZR l).symm) (Zfk l) (Zar l)
theorem Zc1 {a b:List Int} (h:a.Perm b):Zax a=Zax b:=Za3 (((ZR a).trans h).trans (ZR b).symm) (Zar a) (Zar b)
def ddI (l:List Int):Nat→List Int
 |0=>[]
 |k+1=>ddI l k++(match l[k]? with|none=>[]|some x=>if k=0 then [x] else if l[k-1]? =some x then [] else [x])
theorem ZbA (l:List Int) (k:Nat):ddI l (k+1)=ddI l k++(match l[k]? with|none=>[]|some x=>if k=0 then [x] else if l[k-1]? =some x then [] else [x]):=rfl
theorem ZbS (l:List Int):∀k,k≤l.length→Lib.compactUpTo l.toArray k=ddI l k
 |0,_=>rfl
 |k+1,h=>by
  rw[Lib.compactUpTo_succ,ZbS l k (by omega)];rw[ZbA];have hk:l[k]? =some l[k]:=Qg (by omega);rw[hk];have e1:l.toArray[k]! =l[k]:=by simp[show k<l.length by omega]
  simp only[e1];unfold Lib.keeps
  by_cases h0:k=0
  ·subst h0;simp
  ·have hk1:l[k-1]? =some l[k-1]:=Qg (by omega);have e2:l.toArray[k-1]! =l[k-1]:=by simp[show k-1<l.length by omega]
   rw[if_neg h0,hk1];simp only[e1,e2,h0,Option.some.injEq]
   by_cases h1:l[k-1]=l[k]
   ·simp[h1]
   ·have h2:¬l[k]=l[k-1]:=fun e=>h1 e.symm
    simp[h1,h2]
theorem Zcs (l:List Int):Lib.compact l=ddI l l.length:=ZbS l l.length (Nat.le_refl _)
theorem ZcE (l:List Int):∀k,(ddI l k).length≤k
 |0=>Nat.le_refl _
 |k+1=>by
  rw[ZbA];have:=ZcE l k;rw[List.length_append]
  split
  ·simp;omega
  ·split
   ·simp;omega
   ·split<;>simp<;>omega
theorem Zcz (l:List Int) (a:Int):∀k,k≤l.length→(a∈ddI l k↔a∈l.take k)
 |0,_=>by simp[ddI]
 |k+1,h=>by
  have ih:=Zcz l a k (by omega);rw[ZbA];rw[Qg (show k<l.length by omega),List.take_succ_eq_append_getElem (show k<l.length by omega),List.mem_append,List.mem_append,ih]
  by_cases h0:k=0
  ·subst h0;simp
  ·simp only[if_neg h0]
   by_cases h1:l[k-1]? =some l[k]
   ·rw[if_pos h1]
    have hm:l[k]∈l.take k:=by
     rw[List.mem_take_iff_getElem];refine⟨k-1,by omega,?_⟩;rw[Qg (by omega)]at h1
     simpa using h1
    constructor
    ·rintro(h|h)
     ·exact .inl h
     ·simp at h
    ·rintro(h|h)
     ·exact .inl h
     ·simp only[List.mem_singleton]at h;subst h;exact .inl hm
   ·rw[if_neg h1]
theorem Zfa (l:List Int) (hs:l.Pairwise (·≤·)):∀k,k≤l.length→(ddI l k).Pairwise (·<·)
 |0,_=>List.Pairwise.nil
 |k+1,h=>by
  have ih:=Zfa l hs k (by omega);rw[ZbA];rw[Qg (show k<l.length by omega)]
  by_cases h0:k=0
  ·subst h0;simp[ddI]
  ·simp only[if_neg h0]
   by_cases h1:l[k-1]? =some l[k]
   ·rw[if_pos h1,List.append_nil];exact ih
   ·rw[if_neg h1,List.pairwise_append];refine⟨ih,by simp,fun a ha b hb=> ?_⟩;simp only[List.mem_singleton]at hb;subst hb;rw[Zcz l a k (by omega),List.mem_take_iff_getElem]at ha;obtain⟨j,hj,rfl⟩:=ha;have hp:=List.pairwise_iff_getElem.1 hs
    have e1:l[j]≤l[k-1]:=by
     by_cases e:j=k-1
     ·subst e;exact Int.le_refl _
     ·exact hp j (k-1) (by omega) (by omega) (by omega)
    have e2:l[k-1]≤l[k]:=hp (k-1) k (by omega) (by omega) (by omega);have e3:l[k-1]≠l[k]:=fun e=>h1 (by rw[Qg (by omega),e])
    omega
def Zbp (l:List Int):List Int:=ddI (Zax l) (Zax l).length
theorem Zfu (l:List Int) (a:Int):a∈Zbp l↔a∈l:=by
 unfold Zbp;rw[Zcz _ _ _ (Nat.le_refl _),List.take_length];exact(ZR l).mem_iff
theorem ZdZ (l:List Int):(Zbp l).Pairwise (·<·):=Zfa _ (Zar l) _ (Nat.le_refl _)
theorem Zdf (l:List Int):(Zbp l).length≤l.length:=by
 unfold Zbp;have:=ZcE (Zax l) (Zax l).length;rw[(ZR l).length_eq]at this ⊢;exact this
theorem Zdg (l:List Int):Lib.compact (ZI l)=Zbp l:=by rw[ZaT,Zcs];rfl
end
end Go.Proofs.Ytblplapkdmhikaa
