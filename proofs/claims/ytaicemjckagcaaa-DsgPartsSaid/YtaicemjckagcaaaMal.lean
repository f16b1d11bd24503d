/- Walks of edges: whether they are closed, and simple; by the program and by the document. -/
import Derived.Test.YtaicemjckagcaaaProg
import Derived.IntWalk
import Derived.Test.YtaicemjckagcaaaMai
namespace Go.Proofs.Ytaicemjckagcaaa
set_option linter.unusedVariables false
open Go.RowKit

/-- the edge at a place leads to where the next one begins -/
def okC (l : List Edge) (i : Nat) : Bool := (l[i]?.map (·.t)) == (l[(i + 1) % l.length]?.map (·.f))
def closedB (l : List Edge) : Bool := decide (0 < l.length) && (List.range l.length).all (okC l)
end Go.Proofs.Ytaicemjckagcaaa

/- The document's own small walks over numbers: where one stands, how often, put among rising ones. -/
namespace Go.Proofs.Ytaicemjckagcaaa
set_option linter.unusedVariables false
open Go.RowKit
def putL (n : Int) : List Int → List Int
  | [] => [n]
  | x :: l => if n ≤ x then n :: (x :: l).filter (fun y => !(y == n)) else x :: putL n l
theorem mem_putL (n a : Int) : ∀ l, a ∈ putL n l ↔ a = n ∨ a ∈ l
  | [] => by simp [putL]
  | x :: l => by
    have ih := mem_putL n a l
    unfold putL
    split
    · rw [List.mem_cons, List.mem_filter]
      by_cases h : a = n <;> simp [h]
    · simp only [List.mem_cons, ih]; grind
theorem putL_lt (n : Int) : ∀ l, l.Pairwise (· < ·) → (putL n l).Pairwise (· < ·)
  | [], _ => by simp [putL]
  | x :: l, h => by
    have h' := List.pairwise_cons.1 h
    unfold putL
    split
    · refine List.pairwise_cons.2 ⟨fun a ha => ?_, h.filter _⟩
      rw [List.mem_filter] at ha
      have h1 : a ≠ n := by simpa using ha.2
      rcases List.mem_cons.1 ha.1 with rfl | h2
      · omega
      · have := h'.1 a h2; omega
    · refine List.pairwise_cons.2 ⟨fun a ha => ?_, putL_lt n l h'.2⟩
      rcases (mem_putL n a l).1 ha with rfl | h2
      · omega
      · exact h'.1 a h2
theorem putL_len (n : Int) (l : List Int) : (putL n l).length ≤ l.length + 1 := by
  induction l with
  | nil => simp [putL]
  | cons x l ih =>
    unfold putL
    split
    · have := List.length_filter_le (fun y => !(y == n)) (x :: l)
      simp only [List.length_cons] at *; omega
    · simp only [List.length_cons] at *; omega
def putAll (s : List Int) : List Int → List Int
  | [] => s
  | k :: l => putAll (putL k s) l
theorem mem_putAll (a : Int) : ∀ (l s : List Int), a ∈ putAll s l ↔ a ∈ s ∨ a ∈ l
  | [], s => by simp [putAll]
  | k :: l, s => by
    have ih := mem_putAll a l (putL k s)
    rw [mem_putL] at ih
    show a ∈ putAll (putL k s) l ↔ _
    rw [ih, List.mem_cons]; grind
theorem putAll_lt : ∀ (l s : List Int), s.Pairwise (· < ·) → (putAll s l).Pairwise (· < ·)
  | [], _, h => h
  | k :: l, s, h => putAll_lt l _ (putL_lt k s h)
theorem putAll_len : ∀ (l s : List Int), (putAll s l).length ≤ s.length + l.length
  | [], s => by simp [putAll]
  | k :: l, s => by
    have := putAll_len l (putL k s)
    have := putL_len k s
    show (putAll (putL k s) l).length ≤ _
    simp only [List.length_cons]; omega
end Go.Proofs.Ytaicemjckagcaaa
