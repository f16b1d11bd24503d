/- Closed walks: the law that the walk that is told is simple. -/
import Derived.Test.YtmnhgdedkniafaaMbv
namespace Go.Proofs.Ytmnhgdedkniafaa
set_option linter.unusedVariables false
open Go.RowKit
theorem simple27 (F : Nat → Prop) (w : World) (A : Option Addr) (c : Nat) (l : List Edge) (mask must : Int) (hW : Walk F w A l)
    (L : Hid (∀ w, Calls Try.prog 68 #[] w fun e w' => e = .returned (.bool true) ∧ Upd No w w')) :
    Calls Try.prog 12 #[.slice A l.length c, .int .i64 mask, .int .i64 must] w fun e w' => e = .returned (.bool true) ∧ Upd No w w' := by
  by_cases hb : 80 < l.length
  · exact sim_big hb L
  · rcases doc_simple (l := l) (mask := mask) (must := must) (by omega) with h | h
    · by_cases h0 : 0 < (docS l mask must).length
      · exact sim_yes hW (by omega) rfl h0 h L
      · exact sim_no hW (by omega) (List.eq_nil_of_length_eq_zero (by omega)) L
    · exact sim_no hW (by omega) h L
end Go.Proofs.Ytmnhgdedkniafaa
