/- Walks: whether two are one; one begun elsewhere, by the program and by the document. -/
import Derived.Test.YtaicemjckagcaaaGreatProg
import Derived.Lib.AppendZerosOnto
import Derived.Deep.RegionHeld3
import Derived.Test.YtaicemjckagcaaaGreatMan
import Derived.Test.YtaicemjckagcaaaGreatMap
namespace Go.Proofs.YtaicemjckagcaaaGreat
set_option linter.unusedVariables false
open Go.RowKit

def NewE (w : World) (xs : List Value) (n : Nat) (e : Ending) (w' : World) : Prop := ∃ A c, e = .returned (.slice A n c) ∧ w'.ownsRow w.heap.size 27 4 (.slice A n c) n xs ∧ Upd No w w'
end Go.Proofs.YtaicemjckagcaaaGreat

/- Walks begun elsewhere, and turned, by the program and by the document. -/
namespace Go.Proofs.YtaicemjckagcaaaGreat
set_option linter.unusedVariables false
open Go.RowKit

theorem own_emp4 {W : World} {B n : Nat} {e : TypeId} (hn : n = W.heap.size) (hB : B ≤ W.heap.size) : (W.alloc (.cells #[] e)).ownsRow B e 4 (.slice (some ⟨n, 0, none⟩) 0 0) 0 [] := by
  subst hn
  exact own_base (World.ownsRow_made W #[] 0 (Nat.le_refl _) (by decide) rfl) hB
theorem Walk.src {F : Nat → Prop} {w : World} {A : Option Addr} {l : List Edge} (h : Walk F w A l) {n : Nat} (hn : n = l.length) : Src w A n 4 (l.map Edge.cells).flatten := by
  subst hn
  have := Recs.src h edges_len
  rwa [List.length_map] at this
theorem Walk.drop {F : Nat → Prop} {w : World} {A : Option Addr} {l : List Edge} (h : Walk F w A l) {i c : Nat} (hc : l.length ≤ c) : Walk F w (cutA A c i 4) (l.drop i) := by
  unfold Walk
  rw [List.map_drop]
  exact Recs.cut h (by simpa using hc)
theorem Walk.take {F : Nat → Prop} {w : World} {A : Option Addr} {l : List Edge} (h : Walk F w A l) {i : Nat} : Walk F w A (l.take i) := by
  unfold Walk
  rw [List.map_take]
  exact Recs.take h
end Go.Proofs.YtaicemjckagcaaaGreat

/- Walks turned: the plain law: the least of all that are begun elsewhere is one, from whichever place it is begun. -/
namespace Go.Proofs.YtaicemjckagcaaaGreat
set_option linter.unusedVariables false
open Go.RowKit

theorem ltE_irr (a : Edge) : ltE a a = false := by unfold ltE; simp
theorem ltE_iff (a b : Edge) : ltE a b = true ↔ a.f < b.f ∨ (a.f = b.f ∧ (a.k < b.k ∨ (a.k = b.k ∧ (a.key < b.key ∨ (a.key = b.key ∧ a.t < b.t))))) := by
  unfold ltE
  split
  · simp; omega
  · split
    · simp; omega
    · split <;> simp <;> omega
theorem ltE_trans {a b c : Edge} (h : ltE a b = true) (k : ltE b c = true) : ltE a c = true := by
  rw [ltE_iff] at *; omega
theorem ltE_tri {a b : Edge} (h : ltE a b = false) (k : ltE b a = false) : a = b := by
  rw [← Bool.not_eq_true, ltE_iff] at h k
  obtain ⟨f, t, n, y⟩ := a
  obtain ⟨f', t', n', y'⟩ := b
  simp only [Edge.mk.injEq] at *
  omega
end Go.Proofs.YtaicemjckagcaaaGreat
