/- Orders, in plain words: what is told goes along, hl1 each id once, and none that goes along is ahead of it. -/
import Derived.Test.YtaicemjckagcaaaMbg
import Derived.Test.YtaicemjckagcaaaMbq
import Derived.Test.YtaicemjckagcaaaMbr
namespace Go.Proofs.Ytaicemjckagcaaa
set_option linter.unusedVariables false
open Go.RowKit
theorem idxS_eq (x : Int) : ∀ (l : List Int) (k : Nat), idxS x l k = if x ∈ l then ((k + l.idxOf x : Nat) : Int) else -1
  | [], _ => by simp [idxS]
  | y :: l, k => by
    rw [idxS_cons, idxS_eq x l (k + 1), List.idxOf_cons]
    by_cases h : y = x
    · subst h; simp
    · have h2 : (y == x) = false := by simpa using h
      rw [if_neg h, h2]
      by_cases h3 : x ∈ l
      · rw [if_pos h3, if_pos (List.mem_cons_of_mem _ h3)]; simp; omega
      · rw [if_neg h3, if_neg (by rw [List.mem_cons]; exact fun hh => hh.elim (fun e => h e.symm) h3)]
/-- one by one, the least that is free -/
def Goes (l : List Edge) : List Int → List Int → Prop
  | L, [] => L = []
  | L, x :: p => L.find? (freeE l L) = some x ∧ Goes l (L.erase x) p
theorem goes_of (l : List Edge) : ∀ (n : Nat) (L out a : List Int), n = L.length → ordA l n L out = some a → ∃ p, a = out ++ p ∧ Goes l L p
  | 0, L, out, a, hn, h => by
    have : L = [] := List.eq_nil_of_length_eq_zero hn.symm
    cases h
    exact ⟨[], by simp, this⟩
  | n + 1, L, out, a, hn, h => by
    unfold ordA at h
    cases hf : L.find? (freeE l L) with
    | none => rw [hf] at h; cases h
    | some x =>
      rw [hf] at h
      have hx := List.mem_of_find?_eq_some hf
      obtain ⟨p, hp, hg⟩ := goes_of l n (L.erase x) (out ++ [x]) a (by rw [List.length_erase_of_mem hx]; omega) h
      exact ⟨x :: p, by rw [hp]; simp, hf, hg⟩
theorem goes_perm (l : List Edge) : ∀ (p L : List Int), Goes l L p → p.Perm L
  | [], L, h => by rw [show L = [] from h]
  | x :: p, L, h => by
    have hx := List.mem_of_find?_eq_some h.1
    exact ((goes_perm l p _ h.2).cons x).trans (List.perm_cons_erase hx).symm
/-- what is known of the order that is told -/
theorem ordD_some {ids : List Int} {l : List Edge} {a : List Int} (h : ordD ids l = some a) : Goes l (setK ids) a := by
  obtain ⟨p, hp, hg⟩ := goes_of l _ _ _ _ rfl h
  rw [List.nil_append] at hp
  rw [hp]; exact hg
end Go.Proofs.Ytaicemjckagcaaa

/- Orders and closed walks, in plain words: there is an order just if no closed walk goes through the ids. -/
namespace Go.Proofs.Ytaicemjckagcaaa
set_option linter.unusedVariables false
open Go.RowKit
end Go.Proofs.Ytaicemjckagcaaa
