/- How edges that come in read. -/
import Derived.Test.YtgakhpdclhlmpaaRd
import Derived.Test.YtgakhpdclhlmpaaEdges
import Derived.Test.YtgakhpdclhlmpaaWalkM
import Derived.Test.YtgakhpdclhlmpaaWalkL
namespace Go.Proofs.Ytgakhpdclhlmpaa
set_option linter.unusedVariables false
open Go.RowKit

theorem cells4 {l : List Value} (h : l.length = 4) : ∃ a b c d, l = [a, b, c, d] :=
  match l, h with
  | [a, b, c, d], _ => ⟨a, b, c, d, rfl⟩
theorem wf64 {n : Int} (h : (Lit.int .i64 n).wf = true) : -9223372036854775808 ≤ n ∧ n ≤ 9223372036854775807 := by
  simp [Lit.wf, IntKind.min, IntKind.max, IntKind.signed, IntKind.bits] at h; omega
theorem COint : Try.prog.cellsOf 3 = 1 := by kernel_rfl
theorem COedge : Try.prog.cellsOf 89 = 4 := by kernel_rfl
theorem BOedge : Try.prog.bytesOf 89 = 32 := by kernel_rfl
section
variable {H : Type} {enc : TypeId × Value → H} {w : World} {base : Nat} {spare : Nat → Bool} {held : Bool} {row : List Value}
theorem rdi {v : Value} (h : Rdz enc Try.prog w base spare held 3 [v]) : ∃ n, v = .int .i64 n ∧ -9223372036854775808 ≤ n ∧ n ≤ 9223372036854775807 := by
  obtain ⟨n, e, hw⟩ := Rdz.int_ Try.underlying3 h
  cases e
  exact ⟨n, rfl, wf64 hw⟩
theorem rde (h : Rdz enc Try.prog w base spare held 89 row) : ∃ e : Edge, row = e.cells ∧ e.ok := by
  obtain ⟨hl, hf⟩ := h.struct_ Try.underlying89
  rw [COedge] at hl
  obtain ⟨c0, c1, c2, c3, rfl⟩ := cells4 hl
  have h0 : Rdz enc Try.prog w base spare held 3 (([c0, c1, c2, c3].drop 0).take (Try.prog.cellsOf 3)) := hf 0 _ rfl
  have h1 : Rdz enc Try.prog w base spare held 3 (([c0, c1, c2, c3].drop 1).take (Try.prog.cellsOf 3)) := hf 1 _ rfl
  have h2 : Rdz enc Try.prog w base spare held 3 (([c0, c1, c2, c3].drop 2).take (Try.prog.cellsOf 3)) := hf 2 _ rfl
  have h3 : Rdz enc Try.prog w base spare held 3 (([c0, c1, c2, c3].drop 3).take (Try.prog.cellsOf 3)) := hf 3 _ rfl
  rw [COint] at h0 h1 h2 h3
  obtain ⟨n0, rfl, b0⟩ := rdi h0
  obtain ⟨n1, rfl, b1⟩ := rdi h1
  obtain ⟨n2, rfl, b2⟩ := rdi h2
  obtain ⟨n3, rfl, b3⟩ := rdi h3
  exact ⟨⟨n0, n1, n2, n3⟩, rfl, b0, b1, b3⟩
theorem rdes {v : Value} (h : Rdz enc Try.prog w base spare held 22 [v]) : ∃ (A : Option Addr) (c : Nat) (l : List Edge), v = .slice A l.length c ∧ Walk (fun _ => True) w A l ∧ l.length ≤ c ∧ l.length ≤ 4398046511103 ∧ ∀ e ∈ l, e.ok := by
  rcases h.slice_ Try.underlying22 COedge (by omega) with h | ⟨a, len, cap, rows, hv, hl, hm, hlen, hz, hrec, hrow⟩
  · cases h
    exact ⟨none, 0, [], rfl, fun h => absurd rfl h, by simp, by simp, fun e he => by simp at he⟩
  · cases hv
    obtain ⟨l, rfl, hok⟩ := rows_of' (f := Edge.cells) (Q := Edge.ok) fun row hr => rde (hrow row hr).2
    rw [List.length_map] at hlen
    subst hlen
    rw [BOedge] at hz
    unfold reachBytes at hz
    exact ⟨some a, cap, l, rfl, hrec, hl, by omega, hok⟩
end
end Go.Proofs.Ytgakhpdclhlmpaa
