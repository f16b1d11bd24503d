/- Edges of a history: the law that what is told is what the document says. -/
import Derived.Test.YtaicemjckagcaaaMbu
namespace Go.Proofs.Ytaicemjckagcaaa
set_option linter.unusedVariables false
open Go.RowKit
theorem light_d {F : Nat → Prop} {w : World} {txs : List HTx} {ords : List HOrd} {A : Option Addr} {c : Nat} {B : Option Addr} {d : Nat} {v : Bool} (H : Hist.lies F w ⟨txs, ords, A, c, B, d⟩) (hv : lightB ⟨txs, ords, A, c, B, d⟩ = v) :
    Calls Try.prog 35 #[.agg #[.slice A txs.length c, .slice B ords.length d]] w fun e w' => e = .returned (.bool v) ∧ Upd No w w' := by subst hv; exact rlight F w ⟨txs, ords, A, c, B, d⟩ H
theorem light_few {h : Hist} (hl : lightB h = true) : h.txs.length ≤ 12 ∧ ∀ t ∈ h.txs, t.ops.length ≤ 24 := by
  unfold lightB at hl
  simp only [Bool.and_eq_true, decide_eq_true_eq, List.all_eq_true] at hl
  exact ⟨hl.1.1.1, fun t ht => hl.1.2 t ht⟩
section
variable {F : Nat → Prop} {w : World} {txs : List HTx} {ords : List HOrd} {A : Option Addr} {c : Nat} {B : Option Addr} {d : Nat} {n m : Nat}
end
theorem ofKey_len (key : Int) (l : List Hvy) : (ofKey key l).length ≤ l.length := List.length_filter_le _ _
end Go.Proofs.Ytaicemjckagcaaa
