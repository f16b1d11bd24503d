/- Walks of edges: whether they are closed, and simple; by the program and by the document. -/
import Derived.Test.YtonblekdfinpkaaGreatProg
import Derived.IntWalk
import Derived.Test.YtonblekdfinpkaaGreatSxak
namespace Go.Proofs.YtonblekdfinpkaaGreat
set_option linter.unusedVariables false
set_option linter.unusedSimpArgs false
section
open Go.RowKit
def okC (l:List Edge) (i:Nat):Bool:=(l[i]?.map (·.t))==(l[(i+1)%l.length]?.map (·.f))
def ZqF (l:List Edge):Bool:=decide (0<l.length)&&(List.range l.length).all (okC l)
end
/- The document's own small walks over numbers:where one stands,how often,put among rising ones. -/
section
open Go.RowKit
def ZaW (x:Int):List Int→Nat→Int
 |[],_=> -1
 |y::l,k=>if y=x then k else ZaW x l (k+1)
theorem Znn (x y:Int) (l:List Int) (k:Nat):ZaW x (y::l) k=if y=x then (k:Int) else ZaW x l (k+1):=rfl
def ZZ (n:Int):List Int→List Int
 |[]=>[n]
 |x::l=>if n≤x then n::(x::l).filter (fun y=> !(y==n)) else x::ZZ n l
theorem Zbi (n a:Int):∀l,a∈ZZ n l↔a=n∨a∈l
 |[]=>by simp[ZZ]
 |x::l=>by
  have ih:=Zbi n a l;unfold ZZ
  split
  ·rw[List.mem_cons,List.mem_filter]
   by_cases h:a=n<;>simp[h]
  ·simp only[List.mem_cons,ih];grind
theorem Zde (n:Int):∀l,l.Pairwise (·<·)→(ZZ n l).Pairwise (·<·)
 |[],_=>by simp[ZZ]
 |x::l,h=>by
  have h':=List.pairwise_cons.1 h;unfold ZZ
  split
  ·refine List.pairwise_cons.2 ⟨fun a ha=> ?_,h.filter _⟩;rw[List.mem_filter]at ha;have h1:a≠n:=by simpa using ha.2
   rcases List.mem_cons.1 ha.1 with rfl|h2
   ·omega
   ·have:=h'.1 a h2;omega
  ·refine List.pairwise_cons.2 ⟨fun a ha=> ?_,Zde n l h'.2⟩;rcases(Zbi n a l).1 ha with rfl|h2
   ·omega
   ·exact h'.1 a h2
theorem Zjp (n:Int) (l:List Int):(ZZ n l).length≤l.length+1:=by
 induction l with
 |nil=>simp[ZZ]
 |cons x l ih=>
  unfold ZZ
  split
  ·have:=List.length_filter_le (fun y=> !(y==n)) (x::l);simp only[List.length_cons]at*;omega
  ·simp only[List.length_cons]at*;omega
def Zcn (s:List Int):List Int→List Int
 |[]=>s
 |k::l=>Zcn (ZZ k s) l
theorem ZgZ (a:Int):∀(l s:List Int),a∈Zcn s l↔a∈s∨a∈l
 |[],s=>by simp[Zcn]
 |k::l,s=>by
  have ih:=ZgZ a l (ZZ k s);rw[Zbi]at ih
  show a∈Zcn (ZZ k s) l↔_
  rw[ih,List.mem_cons];grind
theorem Zib:∀(l s:List Int),s.Pairwise (·<·)→(Zcn s l).Pairwise (·<·)
 |[],_,h=>h
 |k::l,s,h=>Zib l _ (Zde k s h)
theorem ZgP:∀(l s:List Int),(Zcn s l).length≤s.length+l.length
 |[],s=>by simp[Zcn]
 |k::l,s=>by
  have:=ZgP l (ZZ k s);have:=Zjp k s
  show(Zcn (ZZ k s) l).length≤_
  simp only[List.length_cons];omega
end
end Go.Proofs.YtonblekdfinpkaaGreat
