/- What a transaction needs of others. -/
import Derived.Test.YtaicemjckagcaaaMau
import Derived.Test.YtaicemjckagcaaaMbe
namespace Go.Proofs.Ytaicemjckagcaaa
set_option linter.unusedVariables false
open Go.RowKit
/-- what the map of those met tells -/
def MetV (m : List (Ver × Value)) (xs : List Ver) (k : Nat) : Prop := ∀ v : Ver, ∃ n : Nat, (mget m v).getD (.int .i64 0) = .int .i64 n ∧ n ≤ k ∧ (n = 0 ↔ v ∉ xs)
theorem MetV.nil : MetV [] [] 0 := fun v => ⟨0, by rw [mget_nil]; rfl, Nat.le_refl _, by simp⟩
theorem MetV.mono {m : List (Ver × Value)} {xs : List Ver} {k : Nat} (h : MetV m xs k) : MetV m xs (k + 1) := fun v => by
  obtain ⟨n, h1, h2, h3⟩ := h v
  exact ⟨n, h1, by omega, h3⟩
theorem MetV.put {m : List (Ver × Value)} {xs : List Ver} {k n : Nat} {v : Ver} (h : MetV m xs k) (hn : (mget m v).getD (.int .i64 0) = .int .i64 n) : MetV (mput m v (.int .i64 ((n : Int) + 1))) (if n = 0 then xs ++ [v] else xs) (k + 1) := fun u => by
  obtain ⟨n', h1, h2, h3⟩ := h v
  rw [h1] at hn
  obtain rfl : n' = n := by injection hn with _ hn; omega
  by_cases e : u = v
  · subst e
    refine ⟨n' + 1, by rw [mget_same]; rfl, by omega, ?_⟩
    constructor
    · intro e; omega
    · intro hn2
      split at hn2
      · simp at hn2
      · rename_i h0
        exact absurd (h3.2 hn2) h0
  · rw [mget_other _ _ e]
    obtain ⟨q, g1, g2, g3⟩ := h u
    refine ⟨q, g1, by omega, ?_⟩
    rw [g3]
    split
    · simp [e]
    · rfl
end Go.Proofs.Ytaicemjckagcaaa

/- Whether all that a transaction needs is there. -/
namespace Go.Proofs.Ytaicemjckagcaaa
set_option linter.unusedVariables false
open Go.RowKit
end Go.Proofs.Ytaicemjckagcaaa
