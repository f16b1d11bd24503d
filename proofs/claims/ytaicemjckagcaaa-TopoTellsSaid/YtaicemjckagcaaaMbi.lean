/- Digraphs: the contracts by the arcs alone, nil or not. -/
import Derived.Test.YtaicemjckagcaaaMak
import Derived.Test.YtaicemjckagcaaaMbh
namespace Go.Proofs.Ytaicemjckagcaaa
set_option linter.unusedVariables false
open Go.RowKit
/-- a digraph of arcs q lies there -/
def DGs (w : World) (G : Nat → Prop) (g N K : Nat) (q : List HArc) : Prop :=
  ∃ out inn ob ib oh ih base, GIs w G g out inn (q.length : Int) ob ib oh ih base ∧ DOk N K q out inn ∧ base ≤ w.heap.size
/-- the same, or it is nil -/
def DG (w : World) (G : Nat → Prop) (p : Option Addr) (N K : Nat) (q : List HArc) : Prop :=
  (p = none ∧ N = 0 ∧ q = []) ∨ ∃ g, p = some ⟨g, 0, none⟩ ∧ DGs w G g N K q
theorem DG.nil (w : World) (G : Nat → Prop) : DG w G none 0 0 [] := .inl ⟨rfl, rfl, rfl⟩
section
variable {w : World} {G : Nat → Prop} {p : Option Addr} {N K : Nat} {q : List HArc}
theorem DG.upd (h : DG w G p N K q) {S : Nat → Prop} {w' : World} (k : Upd S w w') (hn : ∀ i, G i → ¬ S i) : DG w' G p N K q := by
  rcases h with h | ⟨g, rfl, out, inn, ob, ib, oh, ih, base, h1, h2, h3⟩
  · exact .inl h
  · exact .inr ⟨g, rfl, out, inn, ob, ib, oh, ih, base, h1.upd k hn, h2, Nat.le_trans h3 k.size⟩
theorem DG.no (h : DG w G p N K q) {w' : World} (k : Upd No w w') : DG w' G p N K q := h.upd k fun _ _ => id
theorem DG.sorted (h : DG w G p N K q) : sortedA q := by
  rcases h with ⟨_, _, rfl⟩ | ⟨g, rfl, out, inn, ob, ib, oh, ih, base, h1, h2, h3⟩
  · exact List.Pairwise.nil
  · exact h2.s
theorem DG.right (h : DG w G p N K q) : ∀ a ∈ q, rightA N a = true := by
  rcases h with ⟨_, _, rfl⟩ | ⟨g, rfl, out, inn, ob, ib, oh, ih, base, h1, h2, h3⟩
  · simp
  · exact h2.r
theorem DG.few (h : DG w G p N K q) : q.length ≤ K := by
  rcases h with ⟨_, _, rfl⟩ | ⟨g, rfl, out, inn, ob, ib, oh, ih, base, h1, h2, h3⟩
  · simp
  · exact h2.fq
theorem DG.old (h : DG w G p N K q) (hp : p ≠ none) : ∀ k, G k → k < w.heap.size := by
  rcases h with ⟨rfl, _, rfl⟩ | ⟨g, rfl, out, inn, ob, ib, oh, ih, base, h1, h2, h3⟩
  · exact absurd rfl hp
  · exact h1.old
end
end Go.Proofs.Ytaicemjckagcaaa

/- The document's digraph: an arc put among others. -/
namespace Go.Proofs.Ytaicemjckagcaaa
set_option linter.unusedVariables false
open Go.RowKit
end Go.Proofs.Ytaicemjckagcaaa

/- The document's digraph: whether an arc is right. -/
namespace Go.Proofs.Ytaicemjckagcaaa
set_option linter.unusedVariables false
open Go.RowKit
end Go.Proofs.Ytaicemjckagcaaa

/- Whether a number is among some. -/
namespace Go.Proofs.Ytaicemjckagcaaa
set_option linter.unusedVariables false
open Go.RowKit
theorem rin01 (w : World) (F : Nat → Prop) (A : Option Addr) (c : Nat) (l : List Int) (a : Int) (h : Ints F w A l) (hl : l.length ≤ 4398046511103) :
    Calls Try.prog 17 #[.slice A l.length c, .int .i64 a] w fun e w' => e = .returned (.bool (decide (a ∈ l))) ∧ w = w' := by
  go_enter Try.func17, Try.ntmps17
  go_wp2
  go_loopg [9] l.length (fun gk i wr => ∃ k : Nat, k + gk = l.length ∧ i = .int .i64 k ∧ Hid (decide (a ∈ l) = decide (a ∈ l.drop k)) ∧ w = wr)
  case atStart => exact ⟨0, by omega, rfl, Lib.hid (by simp), rfl⟩
  case round =>
    obtain ⟨k, hgk, rfl, hs, rfl⟩ := hrel
    by_cases hlt : k < l.length
    · obtain ⟨ax, rfl, hc0⟩ := h.at_ hlt
      obtain ⟨x, hx⟩ : ∃ x, l[k] = x := ⟨_, rfl⟩
      have hd := Lib.hid (show l.drop k = x :: l.drop (k + 1) by rw [← hx]; exact List.drop_eq_getElem_cons hlt)
      rw [hx] at hc0
      have b1 : (0 : Int) ≤ (k : Int) := Int.natCast_nonneg _
      have b2 : (k : Int) < (l.length : Int) := by omega
      clear hx
      by_cases he : x = a
      · have heb : (x == a) = true := by rw [he]; simp
        have He := Lib.hid he
        clear he
        go_wp2
        go_ret
        exact ⟨by rw [hs.out, hd.out, He.out]; simp, rfl⟩
      · have heb : (x == a) = false := by simpa using he
        have He := Lib.hid he
        clear he
        go_wp2
        go_roundg (gk - 1)
        case measure => omega
        case rel =>
          refine ⟨k + 1, by omega, by go_num, Lib.hid ?_, rfl⟩
          rw [hs.out, hd.out]
          have := He.out
          simp only [List.mem_cons, decide_eq_decide]
          exact ⟨fun e => e.elim (fun e => absurd e.symm this) id, .inr⟩
    · obtain rfl : k = l.length := by omega
      go_wp2
      go_ret
      exact ⟨by rw [hs.out, List.drop_length]; simp, rfl⟩
end Go.Proofs.Ytaicemjckagcaaa

/- Digraphs: the law of both sides. -/
namespace Go.Proofs.Ytaicemjckagcaaa
set_option linter.unusedVariables false
open Go.RowKit
/-- a digraph that was made in the call -/
def DMa (w : World) (g N K : Nat) (q : List HArc) (W : World) : Prop :=
  ∃ G, DG W G (some ⟨g, 0, none⟩) N K q ∧ Upd No w W ∧ ∀ k, G k → w.heap.size ≤ k
namespace DMa
variable {w W W' : World} {g N K : Nat} {q : List HArc}
theorem no (h : DMa w g N K q W) (k : Upd No W W') : DMa w g N K q W' := by
  obtain ⟨G, h1, h2, h3⟩ := h
  exact ⟨G, h1.no k, h2.trans k, h3⟩
theorem upd (h : DMa w g N K q W) : Upd No w W := by
  obtain ⟨G, h1, h2, h3⟩ := h
  exact h2
theorem is (h : DMa w g N K q W) : ∃ G, DG W G (some ⟨g, 0, none⟩) N K q := by
  obtain ⟨G, h1, h2, h3⟩ := h
  exact ⟨G, h1⟩
end DMa
end Go.Proofs.Ytaicemjckagcaaa
