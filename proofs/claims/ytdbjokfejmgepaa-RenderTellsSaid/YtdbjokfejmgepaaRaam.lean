/- Slices of ints: cloned, held against one another. -/
import Derived.Lib.SliceRun
import Derived.Test.YtdbjokfejmgepaaProg
import Derived.Lib.SlicesCompact
import Derived.Test.YtdbjokfejmgepaaRaac
namespace Go.Proofs.Ytdbjokfejmgepaa
set_option linter.unusedVariables false
set_option linter.unusedSimpArgs false
section
open Go.RowKit
def ZmM (w:World) (l:List Int) (e:Ending) (w':World):Prop:=∃A c,e= .returned (.slice A l.length c)∧w'.ownsRow w.heap.size 3 1 (.slice A l.length c) l.length (l.map (Value.int .i64))∧Upd No w w'
theorem ZlB (b o j:Nat):(⟨b,o,none⟩:Addr).add j=⟨b,o+j,none⟩:=by unfold Addr.add;split<;>simp_all
theorem Ints.of_owned {w:World} {base:Nat} {A:Option Addr} {c:Nat} {l:List Int} (h:w.ownsRow base 3 1 (.slice A l.length c) l.length (l.map (Value.int .i64))):Ints (fun i=>base≤i) w A l:=Ints.of_own h
end
/- Lists of numbers:sorted by putting one after another,each once. -/
section
def ZeW (x:Int):List Int→List Int
 |[]=>[x]
 |y::l=>if x≤y then x::y::l else y::ZeW x l
def ZbJ:List Int→List Int
 |[]=>[]
 |x::l=>ZeW x (ZbJ l)
theorem Zea (x:Int):∀l:List Int,(ZeW x l).Perm (x::l)
 |[]=>List.Perm.refl _
 |y::l=>by
  unfold ZeW
  split
  ·exact List.Perm.refl _
  ·exact((Zea x l).cons y).trans (List.Perm.swap x y l)
theorem ZN:∀l:List Int,(ZbJ l).Perm l
 |[]=>List.Perm.refl _
 |x::l=>(Zea x _).trans ((ZN l).cons x)
theorem Ziq (x:Int):∀l:List Int,l.Pairwise (·≤·)→(ZeW x l).Pairwise (·≤·)
 |[],_=>by simp[ZeW]
 |y::l,h=>by
  rw[List.pairwise_cons]at h;unfold ZeW
  split
  ·rename_i hxy
   rw[List.pairwise_cons];refine⟨fun a ha=> ?_,List.pairwise_cons.2 h⟩;rcases List.mem_cons.1 ha with rfl|ha
   ·exact hxy
   ·exact Int.le_trans hxy (h.1 a ha)
  ·rename_i hxy
   rw[List.pairwise_cons];refine⟨fun a ha=> ?_,Ziq x l h.2⟩;rcases List.mem_cons.1 ((Zea x l).mem_iff.1 ha)with rfl|ha
   ·omega
   ·exact h.1 a ha
theorem Zdn:∀l:List Int,(ZbJ l).Pairwise (·≤·)
 |[]=>List.Pairwise.nil
 |x::l=>Ziq x _ (Zdn l)
theorem Zgg {a b:List Int} (h:a.Perm b) (ha:a.Pairwise (·≤·)) (hb:b.Pairwise (·≤·)):a=b:=
 List.Perm.eq_of_pairwise (le:=fun x y=>x≤y) (fun x y _ _ h1 h2=>Int.le_antisymm h1 h2) ha hb h
def ddI (l:List Int):Nat→List Int
 |0=>[]
 |k+1=>ddI l k++(match l[k]? with|none=>[]|some x=>if k=0 then [x] else if l[k-1]? =some x then [] else [x])
theorem Ze2 (l:List Int) (k:Nat):ddI l (k+1)=ddI l k++(match l[k]? with|none=>[]|some x=>if k=0 then [x] else if l[k-1]? =some x then [] else [x]):=rfl
theorem Zit (l:List Int):∀k,(ddI l k).length≤k
 |0=>Nat.le_refl _
 |k+1=>by
  rw[Ze2];have:=Zit l k;rw[List.length_append]
  split
  ·simp;omega
  ·split
   ·simp;omega
   ·split<;>simp<;>omega
theorem Zf4 (l:List Int) (a:Int):∀k,k≤l.length→(a∈ddI l k↔a∈l.take k)
 |0,_=>by simp[ddI]
 |k+1,h=>by
  have ih:=Zf4 l a k (by omega);rw[Ze2];rw[Qg (show k<l.length by omega),List.take_succ_eq_append_getElem (show k<l.length by omega),List.mem_append,List.mem_append,ih]
  by_cases h0:k=0
  ·subst h0;simp
  ·simp only[if_neg h0]
   by_cases h1:l[k-1]? =some l[k]
   ·rw[if_pos h1]
    have hm:l[k]∈l.take k:=by
     rw[List.mem_take_iff_getElem];refine⟨k-1,by omega,?_⟩;rw[Qg (by omega)]at h1
     simpa using h1
    constructor
    ·rintro(h|h)
     ·exact .inl h
     ·simp at h
    ·rintro(h|h)
     ·exact .inl h
     ·simp only[List.mem_singleton]at h;subst h;exact .inl hm
   ·rw[if_neg h1]
theorem ZjS (l:List Int) (hs:l.Pairwise (·≤·)):∀k,k≤l.length→(ddI l k).Pairwise (·<·)
 |0,_=>List.Pairwise.nil
 |k+1,h=>by
  have ih:=ZjS l hs k (by omega);rw[Ze2];rw[Qg (show k<l.length by omega)]
  by_cases h0:k=0
  ·subst h0;simp[ddI]
  ·simp only[if_neg h0]
   by_cases h1:l[k-1]? =some l[k]
   ·rw[if_pos h1,List.append_nil];exact ih
   ·rw[if_neg h1,List.pairwise_append];refine⟨ih,by simp,fun a ha b hb=> ?_⟩;simp only[List.mem_singleton]at hb;subst hb;rw[Zf4 l a k (by omega),List.mem_take_iff_getElem]at ha;obtain⟨j,hj,rfl⟩:=ha;have hp:=List.pairwise_iff_getElem.1 hs
    have e1:l[j]≤l[k-1]:=by
     by_cases e:j=k-1
     ·subst e;exact Int.le_refl _
     ·exact hp j (k-1) (by omega) (by omega) (by omega)
    have e2:l[k-1]≤l[k]:=hp (k-1) k (by omega) (by omega) (by omega);have e3:l[k-1]≠l[k]:=fun e=>h1 (by rw[Qg (by omega),e])
    omega
def Zb0 (l:List Int):List Int:=ddI (ZbJ l) (ZbJ l).length
theorem Zbw (l:List Int) (a:Int):a∈Zb0 l↔a∈l:=by
 unfold Zb0;rw[Zf4 _ _ _ (Nat.le_refl _),List.take_length];exact(ZN l).mem_iff
theorem ZbZ (l:List Int):(Zb0 l).Pairwise (·<·):=ZjS _ (Zdn l) _ (Nat.le_refl _)
theorem Zj8 (l:List Int):(Zb0 l).length≤l.length:=by
 unfold Zb0;have:=Zit (ZbJ l) (ZbJ l).length;rw[(ZN l).length_eq]at this ⊢;exact this
end
end Go.Proofs.Ytdbjokfejmgepaa
