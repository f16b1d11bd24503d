/- Walks: simple by the program; the bits of their kinds, by the program and by the document. -/
import Derived.Test.YtaicemjckagcaaaProg
import Derived.Test.YtaicemjckagcaaaMaf
import Derived.Test.YtaicemjckagcaaaMak
import Derived.Test.YtaicemjckagcaaaMal
namespace Go.Proofs.Ytaicemjckagcaaa
set_option linter.unusedVariables false
open Go.RowKit

section
variable {α : Type} [DecidableEq α]
theorem lookNone (a : α) : ∀ (m : List (α × Value)) (i : Nat), look a m i = none ↔ a ∉ m.map (·.1)
  | [], i => by simp [look]
  | p :: m, i => by
    unfold look
    by_cases h : a = p.1
    · simp [h]
    · simp only [List.map_cons, List.mem_cons, h, if_false, false_or]
      exact lookNone a m (i + 1)
theorem mput_keys (m : List (α × Value)) (a : α) (v : Value) : (mput m a v).map (·.1) = if a ∈ m.map (·.1) then m.map (·.1) else m.map (·.1) ++ [a] := by
  unfold mput
  cases h : look a m 0 with
  | none =>
    rw [if_neg ((lookNone a m 0).1 h), List.map_append]
    rfl
  | some r =>
    rw [if_pos (by
      rcases Classical.em (a ∈ m.map (·.1)) with h' | h'
      · exact h'
      · rw [(lookNone a m 0).2 h'] at h; cases h)]
    apply List.ext_getElem?
    intro j
    simp only [List.getElem?_map, List.getElem?_modify]
    cases m[j]? with
    | none => simp
    | some p => by_cases hj : r.1 = j <;> simp [hj]
end
theorem kbyint : KeyBy Try.prog 3 (fun n : Int => Value.int .i64 n) := KeyBy.int_ Try.underlying3
/-- bits as a number -/
def bitsOf (a b c : Bool) : Int := (if a then 2 else 0) + (if b then 4 else 0) + (if c then 8 else 0)
def hasK (l : List Edge) (n : Nat) (k : Int) : Bool := (l.take n).any fun e => e.k == k
def maskOf (l : List Edge) : Int := bitsOf (hasK l l.length 1) (hasK l l.length 2) (hasK l l.length 3)
end Go.Proofs.Ytaicemjckagcaaa

/- The document on one transaction: what it needs of others. -/
namespace Go.Proofs.Ytaicemjckagcaaa
set_option linter.unusedVariables false
open Go.RowKit
/-- versions lie there (the document's) -/
def VersR (F : Nat → Prop) (w : World) (A : Option Addr) (l : List Ver) : Prop := Recs F w A 3 (l.map Ver.cells)
theorem VersR.at_ {F : Nat → Prop} {w : World} {A : Option Addr} {l : List Ver} (h : VersR F w A l) {k : Nat} (hk : k < l.length) : ∃ ad, A = some ad ∧
    w.cell? (ad.add (k * 3)) = some (.int .i64 l[k].tx) ∧ w.cell? ⟨(ad.add (k * 3)).block, (ad.add (k * 3)).off + 1, none⟩ = some (.int .i64 l[k].key) ∧
    w.cell? ⟨(ad.add (k * 3)).block, (ad.add (k * 3)).off + 2, none⟩ = some (.int .i64 l[k].nth) := by
  have hk' : k < (l.map Ver.cells).length := by simpa using hk
  obtain ⟨ad, e, _, _, hc⟩ := Recs.at_ h hk'
  rw [List.getElem_map] at hc
  exact ⟨ad, e, by simpa using hc 0 _ rfl, by simpa using hc 1 _ rfl, by simpa using hc 2 _ rfl⟩
theorem VersR.upd {F S : Nat → Prop} {w w' : World} {A : Option Addr} {l : List Ver} (h : VersR F w A l) (k : Upd S w w') (hn : ∀ i, F i → ¬ S i) : VersR F w' A l := Recs.upd h k hn
end Go.Proofs.Ytaicemjckagcaaa
