/- Digraphs: the law of both sides. -/
import Derived.Test.YtmnhgdedkniafaaMaj
import Derived.Test.YtmnhgdedkniafaaMbk
namespace Go.Proofs.Ytmnhgdedkniafaa
set_option linter.unusedVariables false
open Go.RowKit
/-- a digraph that was made in the call -/
def DMa (w : World) (g N K : Nat) (q : List HArc) (W : World) : Prop :=
  ∃ G, DG W G (some ⟨g, 0, none⟩) N K q ∧ Upd No w W ∧ ∀ k, G k → w.heap.size ≤ k
namespace DMa
variable {w W W' : World} {g N K : Nat} {q : List HArc}
theorem no (h : DMa w g N K q W) (k : Upd No W W') : DMa w g N K q W' := by
  obtain ⟨G, h1, h2, h3⟩ := h
  exact ⟨G, h1.no k, h2.trans k, h3⟩
theorem upd (h : DMa w g N K q W) : Upd No w W := by
  obtain ⟨G, h1, h2, h3⟩ := h
  exact h2
theorem is (h : DMa w g N K q W) : ∃ G, DG W G (some ⟨g, 0, none⟩) N K q := by
  obtain ⟨G, h1, h2, h3⟩ := h
  exact ⟨G, h1⟩
end DMa
theorem dmnew (w : World) (n : Int) : Calls Try.prog 37 #[.int .i64 n] w fun e w' => ∃ g, e = .returned (.pointer (some ⟨g, 0, none⟩)) ∧ DMa w g (roomN n) 0 [] w' := by
  refine (dgnew w n).mono ?_
  rintro e w' ⟨G, g, rfl, h1, h2, h3⟩
  exact ⟨g, rfl, G, h1, h2, h3⟩
theorem dmadd {w W : World} {g N K : Nat} {q : List HArc} (h : DMa w g N K q W) (hK : K < 100000) (a : HArc) : Calls Try.prog 43 #[.pointer (some ⟨g, 0, none⟩), .agg a.cells.toArray] W fun e w' => e = .returned (.int .i64 (addE N q a)) ∧ DMa w g N (K + 1) (addQ N q a) w' := by
  obtain ⟨G, h1, h2, h3⟩ := h
  refine (dgadd h1 hK a).mono ?_
  rintro e w' ⟨G', rfl, k1, k2, k3⟩
  refine ⟨rfl, G', k1, h2.then_ k2 fun i e => .inr (h3 i e), fun k hk => ?_⟩
  have := h2.size
  rcases k3 k hk with e | e
  · exact h3 k e
  · omega
/-- the arcs that were added one by one -/
def madeQ (N : Nat) : List HArc → List HArc → List HArc
  | q, [] => q
  | q, a :: l => madeQ N (addQ N q a) l
theorem madeQ_cons (N : Nat) (q : List HArc) (a : HArc) (l : List HArc) : madeQ N q (a :: l) = madeQ N (addQ N q a) l := rfl
theorem nx_sym {p : List HArc} {u v : Int} : v ∈ nxA u false p ↔ u ∈ nxA v true p := by
  unfold nxA
  rw [mem_nxS, mem_nxS]
  simp only [List.not_mem_nil, false_or, Bool.false_eq_true, if_false, if_true]
  constructor
  · rintro ⟨x, h1, h2, h3⟩; exact ⟨x, h1, h3.symm, h2.symm⟩
  · rintro ⟨x, h1, h2, h3⟩; exact ⟨x, h1, h3.symm, h2.symm⟩
theorem nx_nodup (node : Int) (back : Bool) (p : List HArc) : (nxA node back p).length ≤ p.length := by
  have := nxS_len node back p []
  simpa [nxA] using this
theorem arcs_own' {w : World} {base c : Nat} {A : Option Addr} {l : List HArc} (h : w.ownsRow base 63 4 (.slice A l.length c) l.length (arcsF l)) : ArcsL (Own (.slice A l.length c)) w A l := Recs.of_own (n := l.length) (c := c) (arc_len l) (by omega) h
end Go.Proofs.Ytmnhgdedkniafaa
