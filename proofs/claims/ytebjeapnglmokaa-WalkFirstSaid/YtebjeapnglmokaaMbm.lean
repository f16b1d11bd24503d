/- Digraphs: the contracts by the arcs alone, nil or not. -/
import Derived.Test.YtebjeapnglmokaaMaj
import Derived.Test.YtebjeapnglmokaaMbl
namespace Go.Proofs.Ytebjeapnglmokaa
set_option linter.unusedVariables false
open Go.RowKit
theorem dprev0 (w : World) (i mask : Int) : Calls Try.prog 55 #[.pointer none, .int .i64 i, .int .i64 mask] w (NewI w []) := by
  have HN := Lib.hid (dnode0 w i)
  go_enter Try.func55, Try.ntmps55
  go_wp2_with fail
  refine (HN.out).mono ?_
  rintro e w1 ⟨rfl, rfl⟩
  go_wp2
  go_ret
  exact newI_nil _ _ (Upd.refl _ _)
theorem dout0 (w : World) (i mask : Int) : Calls Try.prog 36 #[.pointer none, .int .i64 i, .int .i64 mask] w (NewA w []) := by
  have HN := Lib.hid (dnode0 w i)
  go_enter Try.func36, Try.ntmps36
  go_wp2_with fail
  refine (HN.out).mono ?_
  rintro e w1 ⟨rfl, rfl⟩
  go_wp2
  go_ret
  exact ⟨none, 0, rfl, World.ownsRow_nil _ _ _ _, Upd.refl _ _⟩
/-- a digraph of arcs q lies there -/
def DGs (w : World) (G : Nat → Prop) (g N K : Nat) (q : List HArc) : Prop :=
  ∃ out inn ob ib oh ih base, GIs w G g out inn (q.length : Int) ob ib oh ih base ∧ DOk N K q out inn ∧ base ≤ w.heap.size
/-- the same, or it is nil -/
def DG (w : World) (G : Nat → Prop) (p : Option Addr) (N K : Nat) (q : List HArc) : Prop :=
  (p = none ∧ N = 0 ∧ q = []) ∨ ∃ g, p = some ⟨g, 0, none⟩ ∧ DGs w G g N K q
def DTs (w : World) (G : Nat → Prop) (p : Option Addr) (N K : Nat) (q : List HArc) (r : Value) (e : Ending) (w' : World) : Prop :=
  ∃ G', e = .returned r ∧ DG w' G' p N K q ∧ Upd G w w' ∧ ∀ k, G' k → G k ∨ w.heap.size ≤ k
def DMade (w : World) (N K : Nat) (q : List HArc) (e : Ending) (w' : World) : Prop :=
  ∃ G g, e = .returned (.pointer (some ⟨g, 0, none⟩)) ∧ DG w' G (some ⟨g, 0, none⟩) N K q ∧ Upd No w w' ∧ ∀ k, G k → w.heap.size ≤ k
theorem DG.nil (w : World) (G : Nat → Prop) : DG w G none 0 0 [] := .inl ⟨rfl, rfl, rfl⟩
section
variable {w : World} {G : Nat → Prop} {p : Option Addr} {N K : Nat} {q : List HArc}
theorem DG.upd (h : DG w G p N K q) {S : Nat → Prop} {w' : World} (k : Upd S w w') (hn : ∀ i, G i → ¬ S i) : DG w' G p N K q := by
  rcases h with h | ⟨g, rfl, out, inn, ob, ib, oh, ih, base, h1, h2, h3⟩
  · exact .inl h
  · exact .inr ⟨g, rfl, out, inn, ob, ib, oh, ih, base, h1.upd k hn, h2, Nat.le_trans h3 k.size⟩
theorem DG.no (h : DG w G p N K q) {w' : World} (k : Upd No w w') : DG w' G p N K q := h.upd k fun _ _ => id
theorem DG.sorted (h : DG w G p N K q) : sortedA q := by
  rcases h with ⟨_, _, rfl⟩ | ⟨g, rfl, out, inn, ob, ib, oh, ih, base, h1, h2, h3⟩
  · exact List.Pairwise.nil
  · exact h2.s
theorem DG.right (h : DG w G p N K q) : ∀ a ∈ q, rightA N a = true := by
  rcases h with ⟨_, _, rfl⟩ | ⟨g, rfl, out, inn, ob, ib, oh, ih, base, h1, h2, h3⟩
  · simp
  · exact h2.r
theorem DG.few (h : DG w G p N K q) : q.length ≤ K := by
  rcases h with ⟨_, _, rfl⟩ | ⟨g, rfl, out, inn, ob, ib, oh, ih, base, h1, h2, h3⟩
  · simp
  · exact h2.fq
theorem DG.nodes_le (h : DG w G p N K q) : N ≤ 4096 := by
  rcases h with ⟨_, rfl, rfl⟩ | ⟨g, rfl, out, inn, ob, ib, oh, ih, base, h1, h2, h3⟩
  · omega
  · have := h1.few.1
    have := h2.lo
    omega
theorem DG.old (h : DG w G p N K q) (hp : p ≠ none) : ∀ k, G k → k < w.heap.size := by
  rcases h with ⟨rfl, _, rfl⟩ | ⟨g, rfl, out, inn, ob, ib, oh, ih, base, h1, h2, h3⟩
  · exact absurd rfl hp
  · exact h1.old
theorem dgnodes (h : DG w G p N K q) : Calls Try.prog 52 #[.pointer p] w fun e w' => e = .returned (.int .i64 (N : Int)) ∧ w = w' := by
  rcases h with ⟨rfl, rfl, rfl⟩ | ⟨g, rfl, out, inn, ob, ib, oh, ih, base, h1, h2, h3⟩
  · exact dnodes0 w
  · rw [← h2.lo]; exact dnodes h1
theorem dgprev (h : DG w G p N K q) (i mask : Int) : Calls Try.prog 55 #[.pointer p, .int .i64 i, .int .i64 mask] w (NewI w (nxA i true (ofA mask q))) := by
  rcases h with ⟨rfl, rfl, rfl⟩ | ⟨g, rfl, out, inn, ob, ib, oh, ih, base, h1, h2, h3⟩
  · exact dprev0 w i mask
  · rw [← h2.prev_]; exact dprev h1 h2.ki i mask
theorem dgout (h : DG w G p N K q) (i mask : Int) : Calls Try.prog 36 #[.pointer p, .int .i64 i, .int .i64 mask] w (NewA w ((ofA mask q).filter fun x => x.f == i)) := by
  rcases h with ⟨rfl, rfl, rfl⟩ | ⟨g, rfl, out, inn, ob, ib, oh, ih, base, h1, h2, h3⟩
  · exact dout0 w i mask
  · rw [← h2.outD_]; exact dout h1 h2.ko i mask
theorem dgadd (h : DG w G p N K q) (hK : K < 100000) (a : HArc) : Calls Try.prog 32 #[.pointer p, .agg a.cells.toArray] w (DTs w G p N (K + 1) (addQ N q a) (.int .i64 (addE N q a))) := by
  rcases h with ⟨rfl, rfl, rfl⟩ | ⟨g, rfl, out, inn, ob, ib, oh, ih, base, h1, h2, h3⟩
  · have hr : ¬ rightA 0 a = true := fun e => by rw [rightA_iff] at e; omega
    refine (dadd0 w a).mono ?_
    rintro e w' ⟨rfl, hu⟩
    exact ⟨G, by unfold addE; rw [if_neg hr], .inl ⟨rfl, rfl, by unfold addQ; rw [if_neg hr]⟩, hu.mono (fun _ _ e => e.elim), fun _ e => .inl e⟩
  · have hq := h2.fq
    refine (dadd (n := q.length) h1 h2.so h2.si ⟨fun l hl => by have := h2.fo l hl; omega, fun l hl => by have := h2.fi l hl; omega⟩ (by omega) h3 a).mono ?_
    rintro e w' ⟨G', oh', ih', rfl, k1, k2, k3⟩
    rw [h2.addN_] at k1
    exact ⟨G', by rw [h2.addW_], .inr ⟨g, rfl, _, _, _, _, _, _, _, k1, h2.add a, Nat.le_trans h3 k2.size⟩, k2, k3⟩
end
theorem dgnew (w : World) (n : Int) : Calls Try.prog 31 #[.int .i64 n] w (DMade w (roomN n) 0 []) := by
  refine (dnew w n).mono ?_
  rintro e w' ⟨G, g, ob, ib, oh, ih, rfl, h1, h2, h3⟩
  exact ⟨G, g, rfl, .inr ⟨g, rfl, _, _, _, _, _, _, _, h1, DOk.nil _, Nat.le_refl _⟩, h2, h3⟩
end Go.Proofs.Ytebjeapnglmokaa

/- The document's digraph: an arc put among others. -/
namespace Go.Proofs.Ytebjeapnglmokaa
set_option linter.unusedVariables false
open Go.RowKit
end Go.Proofs.Ytebjeapnglmokaa

/- The document's digraph: whether an arc is right. -/
namespace Go.Proofs.Ytebjeapnglmokaa
set_option linter.unusedVariables false
open Go.RowKit
end Go.Proofs.Ytebjeapnglmokaa

/- Whether a number is among some. -/
namespace Go.Proofs.Ytebjeapnglmokaa
set_option linter.unusedVariables false
open Go.RowKit
end Go.Proofs.Ytebjeapnglmokaa

/- Digraphs: the law of both sides. -/
namespace Go.Proofs.Ytebjeapnglmokaa
set_option linter.unusedVariables false
open Go.RowKit
/-- a digraph that was made in the call -/
def DMa (w : World) (g N K : Nat) (q : List HArc) (W : World) : Prop :=
  ∃ G, DG W G (some ⟨g, 0, none⟩) N K q ∧ Upd No w W ∧ ∀ k, G k → w.heap.size ≤ k
namespace DMa
variable {w W W' : World} {g N K : Nat} {q : List HArc}
theorem no (h : DMa w g N K q W) (k : Upd No W W') : DMa w g N K q W' := by
  obtain ⟨G, h1, h2, h3⟩ := h
  exact ⟨G, h1.no k, h2.trans k, h3⟩
theorem upd (h : DMa w g N K q W) : Upd No w W := by
  obtain ⟨G, h1, h2, h3⟩ := h
  exact h2
theorem is (h : DMa w g N K q W) : ∃ G, DG W G (some ⟨g, 0, none⟩) N K q := by
  obtain ⟨G, h1, h2, h3⟩ := h
  exact ⟨G, h1⟩
end DMa
theorem nx_nodup (node : Int) (back : Bool) (p : List HArc) : (nxA node back p).length ≤ p.length := by
  have := nxS_len node back p []
  simpa [nxA] using this
theorem arcs_own' {w : World} {base c : Nat} {A : Option Addr} {l : List HArc} (h : w.ownsRow base 52 4 (.slice A l.length c) l.length (arcsF l)) : ArcsL (Own (.slice A l.length c)) w A l := Recs.of_own (n := l.length) (c := c) (arc_len l) (by omega) h
end Go.Proofs.Ytebjeapnglmokaa
