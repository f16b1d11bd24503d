/- Phenomena, plain: one brings another; where there is an order that goes along there is none. -/
import Derived.Test.YtonblekdfinpkaaGreatWqap
import Derived.Test.YtonblekdfinpkaaGreatWqbg
import Derived.Test.YtonblekdfinpkaaGreatWqbh
import Derived.Test.YtonblekdfinpkaaGreatWqbp
import Derived.Test.YtonblekdfinpkaaGreatWqbr
import Derived.Test.YtonblekdfinpkaaGreatWqbu
namespace Go.Proofs.YtonblekdfinpkaaGreat
set_option linter.unusedVariables false
set_option linter.unusedSimpArgs false
section
theorem RchE.mono {D D':List Edge} (h:∀e∈D,e∈D') {x y:Int} (k:RchE D x y):RchE D' x y:=by
 induction k with
 |refl=>exact RchE.refl _
 |step _ h2 h3 ih=>exact ih.step (h _ h2) h3
theorem ZnB (k:Int):ZU 14 k=decide (1≤k∧k≤3):=by
 by_cases h:1≤k∧k≤3
 ·rcases(show k=1∨k=2∨k=3 by omega)with rfl|rfl|rfl<;>kernel_rfl
 ·unfold ZU;rw[decide_eq_false h]
  by_cases h1:1≤k
  ·rw[decide_eq_false (show¬k≤3 by omega)];simp
  ·rw[decide_eq_false h1];simp
theorem memKept {l:List Edge} {mask:Int} {e:Edge}:e∈Ze l mask↔e∈l∧ZU mask e.k=true:=by unfold Ze;rw[List.mem_filter]
end
/- Phenomena:phen.Round is walked. -/
section
open Go.RowKit
theorem Zlb {x:Edge} {m:List Edge} {mask:Int} (h:ZU mask x.k=true):Ze (x::m) mask=x::Ze m mask:=by unfold Ze;rw[List.filter_cons_of_pos (p:=fun e:Edge=>ZU mask e.k) h]
theorem Zmp {x:Edge} {m:List Edge} {mask:Int} (h:ZU mask x.k=false):Ze (x::m) mask=Ze m mask:=by unfold Ze;rw[List.filter_cons_of_neg (p:=fun e:Edge=>ZU mask e.k) (by rw[h];decide)]
theorem ZfN (ids:List Int) (ac:List HArc) (x:Edge) (m:List Edge):ZeE ids ac (x::m)=ZeE (ZH (ZH ids x.f) x.t) (ac++[⟨(Zz (ZH ids x.f) x.f:Int),(Zz (ZH (ZH ids x.f) x.t) x.t:Int),x.k,0⟩]) m:=rfl
end
end Go.Proofs.YtonblekdfinpkaaGreat
