/- The kinds of a phenomenon; who is next in an order. -/
import Derived.Shelf.SlicesG.Turned
import Derived.Ground.SlgnProg
import Derived.Shelf.SlGeneric
import Derived.Test.YtaicemjckagcaaaProg
import Derived.Test.YtaicemjckagcaaaMav
import Derived.Test.YtaicemjckagcaaaMaw
namespace Go.Proofs.Ytaicemjckagcaaa
set_option linter.unusedVariables false
open Go.RowKit
def maskP (p : Int) : Int := if p = 1 then 2 else if p = 4 then 6 else if p = 5 then 14 else 0
def mustP (p : Int) : Int := if p = 5 then 8 else 0
/-- where a number stands first -/
def posI (l : List Int) (x : Int) : Nat := l.findIdx (· == x)
/-- the one behind another one; of 0 the first -/
def nextI (l : List Int) (tx : Int) : Option Int := if tx = 0 then l[0]? else if posI l tx < l.length then l[posI l tx + 1]? else none
end Go.Proofs.Ytaicemjckagcaaa

/- The order of a key. -/
namespace Go.Proofs.Ytaicemjckagcaaa
set_option linter.unusedVariables false
open Go.RowKit
theorem kkeys1_ (w : World) (o : HOp) : Calls Try.prog 153 #[.agg o.cells.toArray] w fun e w' => e = .returned (.bool (!o.read)) ∧ Upd No w w' := by
  unfold HOp.cells
  go_enter Try.func153, Try.ntmps153
  go_wp2
  go_ret
  exact ⟨rfl, (Upd.refl _ _).alloc _⟩
/-- where the first order of a key stands -/
def posO (l : List HOrd) (key : Int) : Nat := l.findIdx fun o => o.key == key
theorem posO_hit {l : List HOrd} {key : Int} {k : Nat} (hk : k < l.length) (h : ∀ (j : Nat) (hj : j < k), ((l[j]'(by omega)).key == key) = false) (h1 : (l[k].key == key) = true) : posO l key = k := by
  unfold posO
  rw [List.findIdx_eq hk]
  exact ⟨h1, fun j hj => by simp only [h j hj]⟩
/-- the first order of a key -/
def orderOf (l : List HOrd) (key : Int) : List Int := match l[posO l key]? with | some o => o.txs | none => []
end Go.Proofs.Ytaicemjckagcaaa
