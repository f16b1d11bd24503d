/- Slices of ints: cloned, held against one another. -/
import Derived.Lib.SliceRun
import Derived.Shelf.SlicesG.Equal
import Derived.Ground.SlgnProg
import Derived.Shelf.SlGeneric
import Derived.Test.YtblplapkdmhikaaGreatProg
import Derived.Lib.SlicesCompact
import Derived.Test.YtblplapkdmhikaaGreatDxaf
namespace Go.Proofs.YtblplapkdmhikaaGreat
set_option linter.unusedVariables false
set_option linter.unusedSimpArgs false
section
open Go.RowKit
theorem Zq:SlT Tryz.prog 64 3 1 8:=SlT.mk_ Tryz.underlying64 (z:= .int .i64 0) (by kernel_rfl) rfl (by omega)
def Zak (w:World) (l:List Int) (e:Ending) (w':World):Prop:=∃A c,e= .returned (.slice A l.length c)∧w'.ownsRow w.heap.size 3 1 (.slice A l.length c) l.length (l.map (Value.int .i64))∧Upd No w w'
theorem Zim {W:World} {B n:Nat} {e:TypeId} (hn:n=W.heap.size) (hB:B≤W.heap.size):(W.alloc (.cells #[] e)).ownsRow B e 1 (.slice (some ⟨n,0,none⟩) 0 0) 0 []:=by
 subst hn;exact ZJ (World.ownsRow_made W #[] 0 (Nat.le_refl _) (by decide) (by simp)) hB
theorem Zkm (F:Nat→Prop) (w:World) (A:Option Addr) (c:Nat) (l:List Int) (h:Ints F w A l) (hl:l.length≤17592186044415):
  Calls Tryz.prog 157 #[.slice A l.length c] w (Zak w l):=by
 have qT:∀(w:World) (a:Option Addr) (n c:Nat),(binOp .eql 64 (.slice a n c) (.slice none 0 0)).run Tryz.prog w= .ok (.bool a.isNone) w:=fun w a n c=>Lib.run_eql_slice_nil w _ _ a n c 0 0 Tryz.underlying64
 cases A with
 |none=>
  have h0:l=[]:=by
   cases l with
   |nil=>rfl
   |cons a l=>obtain⟨_,e,_⟩:=h (by simp);cases e
  subst h0
  go_enter Tryz.func157,Tryz.ntmps157
  go_wp2
  go_ret
  exact⟨none,0,rfl,World.ownsRow_nil _ _ _ _,Upd.refl _ _⟩
 |some ad=>
  have hs:=Qh (show Src (w.alloc (.cells #[] 3)) (some ad) l.length 1 (l.map (Value.int .i64)) from Ints.src (h.upd ((Upd.refl No w).alloc (.cells #[] 3)) (fun _ _=>id)))
  go_enter Tryz.func157,Tryz.ntmps157
  go_wp2_with (at_builtin;refine ZiH rfl rfl Zq (base:=w.heap.size) (v:= .slice (some ⟨w.heap.size,0,none⟩) 0 0) (n:=0) (m:=l.length) (xs:=[]) rfl rfl (Zim rfl (Nat.le_refl _)) hs.out (Ints.one_ l) (by omega) (by omega) (by simp) ?_)
  intro v4 w4 hown4 hu4 hg4;obtain⟨A4,c4,rfl⟩:=Zbe hown4;have uw4:Upd No w w4:=((Upd.refl No w).alloc _).then_ hu4 (fun j e=> .inr (Zhk e));go_wp2
  go_ret
  exact⟨A4,c4,rfl,hown4,uw4⟩
def ZV (l:List Int):List Int:=l.mergeSort fun x y=>decide (x≤y)
theorem Zd9 (l:List Int):(ZV l).length=l.length:=List.length_mergeSort ..
theorem Zjy (b o j:Nat):(⟨b,o,none⟩:Addr).add j=⟨b,o+j,none⟩:=by unfold Addr.add;split<;>simp_all
end
/- Lists of numbers:sorted by putting one after another,each once. -/
section
def Zdi (x:Int):List Int→List Int
 |[]=>[x]
 |y::l=>if x≤y then x::y::l else y::Zdi x l
def Zav:List Int→List Int
 |[]=>[]
 |x::l=>Zdi x (Zav l)
theorem ZcS (x:Int):∀l:List Int,(Zdi x l).Perm (x::l)
 |[]=>List.Perm.refl _
 |y::l=>by
  unfold Zdi
  split
  ·exact List.Perm.refl _
  ·exact((ZcS x l).cons y).trans (List.Perm.swap x y l)
theorem ZC:∀l:List Int,(Zav l).Perm l
 |[]=>List.Perm.refl _
 |x::l=>(ZcS x _).trans ((ZC l).cons x)
theorem Zgg (x:Int):∀l:List Int,l.Pairwise (·≤·)→(Zdi x l).Pairwise (·≤·)
 |[],_=>by simp[Zdi]
 |y::l,h=>by
  rw[List.pairwise_cons]at h;unfold Zdi
  split
  ·rename_i hxy
   rw[List.pairwise_cons];refine⟨fun a ha=> ?_,List.pairwise_cons.2 h⟩;rcases List.mem_cons.1 ha with rfl|ha
   ·exact hxy
   ·exact Int.le_trans hxy (h.1 a ha)
  ·rename_i hxy
   rw[List.pairwise_cons];refine⟨fun a ha=> ?_,Zgg x l h.2⟩;rcases List.mem_cons.1 ((ZcS x l).mem_iff.1 ha)with rfl|ha
   ·omega
   ·exact h.1 a ha
theorem Zax:∀l:List Int,(Zav l).Pairwise (·≤·)
 |[]=>List.Pairwise.nil
 |x::l=>Zgg x _ (Zax l)
theorem Zh2 (l:List Int):(ZV l).Pairwise (·≤·):=by
 have:=List.pairwise_mergeSort (le:=fun x y:Int=>decide (x≤y)) (fun a b c h k=>by simp only[decide_eq_true_eq]at*;omega) (fun a b=>by simp only[Bool.or_eq_true,decide_eq_true_eq];omega) l;unfold ZV;exact this.imp fun h=>by simpa using h
theorem Zbd {a b:List Int} (h:a.Perm b) (ha:a.Pairwise (·≤·)) (hb:b.Pairwise (·≤·)):a=b:=
 List.Perm.eq_of_pairwise (le:=fun x y=>x≤y) (fun x y _ _ h1 h2=>Int.le_antisymm h1 h2) ha hb h
theorem ZbE (l:List Int):ZV l=Zav l:=
 Zbd (((List.mergeSort_perm _ _)).trans (ZC l).symm) (Zh2 l) (Zax l)
theorem Zez {a b:List Int} (h:a.Perm b):Zav a=Zav b:=Zbd (((ZC a).trans h).trans (ZC b).symm) (Zax a) (Zax b)
def ddI (l:List Int):Nat→List Int
 |0=>[]
 |k+1=>ddI l k++(match l[k]? with|none=>[]|some x=>if k=0 then [x] else if l[k-1]? =some x then [] else [x])
theorem Zcz (l:List Int) (k:Nat):ddI l (k+1)=ddI l k++(match l[k]? with|none=>[]|some x=>if k=0 then [x] else if l[k-1]? =some x then [] else [x]):=rfl
theorem ZcU (l:List Int):∀k,k≤l.length→Lib.compactUpTo l.toArray k=ddI l k
 |0,_=>rfl
 |k+1,h=>by
  rw[Lib.compactUpTo_succ,ZcU l k (by omega)];rw[Zcz];have hk:l[k]? =some l[k]:=Qg (by omega);rw[hk];have e1:l.toArray[k]! =l[k]:=by simp[show k<l.length by omega]
  simp only[e1];unfold Lib.keeps
  by_cases h0:k=0
  ·subst h0;simp
  ·have hk1:l[k-1]? =some l[k-1]:=Qg (by omega);have e2:l.toArray[k-1]! =l[k-1]:=by simp[show k-1<l.length by omega]
   rw[if_neg h0,hk1];simp only[e1,e2,h0,Option.some.injEq]
   by_cases h1:l[k-1]=l[k]
   ·simp[h1]
   ·have h2:¬l[k]=l[k-1]:=fun e=>h1 e.symm
    simp[h1,h2]
theorem ZdP (l:List Int):Lib.compact l=ddI l l.length:=ZcU l l.length (Nat.le_refl _)
theorem Zd3 (l:List Int):∀k,(ddI l k).length≤k
 |0=>Nat.le_refl _
 |k+1=>by
  rw[Zcz];have:=Zd3 l k;rw[List.length_append]
  split
  ·simp;omega
  ·split
   ·simp;omega
   ·split<;>simp<;>omega
theorem ZdY (l:List Int) (a:Int):∀k,k≤l.length→(a∈ddI l k↔a∈l.take k)
 |0,_=>by simp[ddI]
 |k+1,h=>by
  have ih:=ZdY l a k (by omega);rw[Zcz];rw[Qg (show k<l.length by omega),List.take_succ_eq_append_getElem (show k<l.length by omega),List.mem_append,List.mem_append,ih]
  by_cases h0:k=0
  ·subst h0;simp
  ·simp only[if_neg h0]
   by_cases h1:l[k-1]? =some l[k]
   ·rw[if_pos h1]
    have hm:l[k]∈l.take k:=by
     rw[List.mem_take_iff_getElem];refine⟨k-1,by omega,?_⟩;rw[Qg (by omega)]at h1
     simpa using h1
    constructor
    ·rintro(h|h)
     ·exact .inl h
     ·simp at h
    ·rintro(h|h)
     ·exact .inl h
     ·simp only[List.mem_singleton]at h;subst h;exact .inl hm
   ·rw[if_neg h1]
theorem ZhS (l:List Int) (hs:l.Pairwise (·≤·)):∀k,k≤l.length→(ddI l k).Pairwise (·<·)
 |0,_=>List.Pairwise.nil
 |k+1,h=>by
  have ih:=ZhS l hs k (by omega);rw[Zcz];rw[Qg (show k<l.length by omega)]
  by_cases h0:k=0
  ·subst h0;simp[ddI]
  ·simp only[if_neg h0]
   by_cases h1:l[k-1]? =some l[k]
   ·rw[if_pos h1,List.append_nil];exact ih
   ·rw[if_neg h1,List.pairwise_append];refine⟨ih,by simp,fun a ha b hb=> ?_⟩;simp only[List.mem_singleton]at hb;subst hb;rw[ZdY l a k (by omega),List.mem_take_iff_getElem]at ha;obtain⟨j,hj,rfl⟩:=ha;have hp:=List.pairwise_iff_getElem.1 hs
    have e1:l[j]≤l[k-1]:=by
     by_cases e:j=k-1
     ·subst e;exact Int.le_refl _
     ·exact hp j (k-1) (by omega) (by omega) (by omega)
    have e2:l[k-1]≤l[k]:=hp (k-1) k (by omega) (by omega) (by omega);have e3:l[k-1]≠l[k]:=fun e=>h1 (by rw[Qg (by omega),e])
    omega
def Zcl (l:List Int):List Int:=ddI (Zav l) (Zav l).length
theorem Zip (l:List Int) (a:Int):a∈Zcl l↔a∈l:=by
 unfold Zcl;rw[ZdY _ _ _ (Nat.le_refl _),List.take_length];exact(ZC l).mem_iff
theorem Zf0 (l:List Int):(Zcl l).Pairwise (·<·):=ZhS _ (Zax l) _ (Nat.le_refl _)
theorem ZeV (l:List Int):(Zcl l).length≤l.length:=by
 unfold Zcl;have:=Zd3 (Zav l) (Zav l).length;rw[(ZC l).length_eq]at this ⊢;exact this
theorem ZeW (l:List Int):Lib.compact (ZV l)=Zcl l:=by rw[ZbE,ZdP];rfl
end
end Go.Proofs.YtblplapkdmhikaaGreat
