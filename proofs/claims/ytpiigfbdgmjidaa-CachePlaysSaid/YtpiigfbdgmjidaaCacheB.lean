/- Caches: an entry is taken out of the ring, and put into it. -/
import Derived.Test.YtpiigfbdgmjidaaProg
import Derived.Test.YtpiigfbdgmjidaaCacheA
namespace Go.Proofs.Ytpiigfbdgmjidaa
set_option linter.unusedVariables false
open Go.RowKit

/-- a pointer to the head of a block -/
abbrev pt (b : Nat) : Value := .pointer (some ⟨b, 0, none⟩)
/-- two worlds that differ in nothing but in how much was drawn -/
def Like (w' X : World) : Prop := w'.os = X.os ∧ w'.tape = X.tape ∧ w'.output = X.output ∧ w'.heap = X.heap

theorem cout (w : World) (e o n : Nat) (x y : Value) (h1 : w.cell? ⟨e, 10, none⟩ = some (pt o)) (h2 : w.cell? ⟨e, 11, none⟩ = some (pt n)) (h3 : w.cell? ⟨o, 11, none⟩ = some x) (h4 : w.cell? ⟨n, 10, none⟩ = some y)
    (f3 : w.frozen? ⟨o, 11, none⟩ = false) (f4 : w.frozen? ⟨n, 10, none⟩ = false) (heo : e ≠ o) (hen : e ≠ n) :
    Calls Try.prog 59 #[pt e] w fun en w' => en = .returned (.tuple #[]) ∧ Like w' ((w.setCell ⟨o, 11, none⟩ (pt n)).setCell ⟨n, 10, none⟩ (pt o)) := by
  go_enter Try.func59, Try.ntmps59
  go_wp2
  go_region
  go_wp2
  go_region
  exact bodyPost_end (results_none rfl _ _ _) rfl ⟨rfl, rfl, rfl, rfl, rfl⟩

theorem cin (w : World) (g r e o : Nat) (x y z u : Value) (h1 : w.cell? ⟨g, 2, none⟩ = some (pt r)) (h2 : w.cell? ⟨r, 10, none⟩ = some (pt o)) (h3 : w.cell? ⟨e, 10, none⟩ = some x) (h4 : w.cell? ⟨e, 11, none⟩ = some y)
    (h5 : w.cell? ⟨o, 11, none⟩ = some z)
    (f3 : w.frozen? ⟨e, 10, none⟩ = false) (f4 : w.frozen? ⟨e, 11, none⟩ = false) (f5 : w.frozen? ⟨o, 11, none⟩ = false) (f6 : w.frozen? ⟨r, 10, none⟩ = false) (her : e ≠ r) (heo : e ≠ o) (hge : g ≠ e) (hgo : g ≠ o) (hgr : g ≠ r) :
    Calls Try.prog 57 #[pt g, pt e] w fun en w' => en = .returned (.tuple #[]) ∧ Like w' ((((w.setCell ⟨e, 10, none⟩ (pt o)).setCell ⟨e, 11, none⟩ (pt r)).setCell ⟨o, 11, none⟩ (pt e)).setCell ⟨r, 10, none⟩ (pt e)) := by
  go_enter Try.func57, Try.ntmps57
  go_wp2
  go_region
  go_wp2
  exact bodyPost_end (results_none rfl _ _ _) rfl ⟨rfl, rfl, rfl, rfl, rfl⟩
end Go.Proofs.Ytpiigfbdgmjidaa
