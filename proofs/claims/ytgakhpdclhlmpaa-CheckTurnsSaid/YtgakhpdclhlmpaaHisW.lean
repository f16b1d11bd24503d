/- How witnesses that come in read. -/
import Derived.Test.YtgakhpdclhlmpaaHisR
import Derived.Test.YtgakhpdclhlmpaaEdges
namespace Go.Proofs.Ytgakhpdclhlmpaa
set_option linter.unusedVariables false
open Go.RowKit
theorem cs5 {l : List Value} (h : l.length = 5) : ∃ a b c d e, l = [a, b, c, d, e] :=
  match l, h with
  | [a, b, c, d, e], _ => ⟨a, b, c, d, e, rfl⟩
theorem cs7 {l : List Value} (h : l.length = 7) : ∃ a b c d e f g, l = [a, b, c, d, e, f, g] :=
  match l, h with
  | [a, b, c, d, e, f, g], _ => ⟨a, b, c, d, e, f, g, rfl⟩
theorem CHedge : Try.prog.cellsOf 89 = 4 := by kernel_rfl
theorem BHedge : Try.prog.bytesOf 89 = 32 := by kernel_rfl
theorem CHedges : Try.prog.cellsOf 22 = 1 := by kernel_rfl
theorem CHver : Try.prog.cellsOf 34 = 3 := by kernel_rfl
theorem CHbad : Try.prog.cellsOf 36 = 5 := by kernel_rfl
theorem CHwit : Try.prog.cellsOf 38 = 7 := by kernel_rfl
section
variable {H : Type} {enc : TypeId × Value → H} {w : World} {base : Nat} {spare : Nat → Bool} {held : Bool} {row : List Value}
theorem rhedge (h : Rdz enc Try.prog w base spare held 89 row) : ∃ e : Edge, row = e.cells ∧ True := by
  obtain ⟨hl, hf⟩ := h.struct_ Try.underlying89
  rw [CHedge] at hl
  obtain ⟨c0, c1, c2, c3, rfl⟩ := cs4 hl
  have h0 : Rdz enc Try.prog w base spare held 3 (([c0, c1, c2, c3].drop 0).take (Try.prog.cellsOf 3)) := hf 0 _ rfl
  have h1 : Rdz enc Try.prog w base spare held 3 (([c0, c1, c2, c3].drop 1).take (Try.prog.cellsOf 3)) := hf 1 _ rfl
  have h2 : Rdz enc Try.prog w base spare held 3 (([c0, c1, c2, c3].drop 2).take (Try.prog.cellsOf 3)) := hf 2 _ rfl
  have h3 : Rdz enc Try.prog w base spare held 3 (([c0, c1, c2, c3].drop 3).take (Try.prog.cellsOf 3)) := hf 3 _ rfl
  rw [CHint] at h0 h1 h2 h3
  obtain ⟨n0, rfl, b0⟩ := rhi h0
  obtain ⟨n1, rfl, b1⟩ := rhi h1
  obtain ⟨n2, rfl, b2⟩ := rhi h2
  obtain ⟨n3, rfl, b3⟩ := rhi h3
  exact ⟨⟨n0, n1, n2, n3⟩, rfl, trivial⟩
theorem rhwalk {v : Value} (h : Rdz enc Try.prog w base spare held 22 [v]) : ∃ (A : Option Addr) (c : Nat) (l : List Edge), v = .slice A l.length c ∧ Walk (fun _ => True) w A l ∧ l.length ≤ c ∧ l.length ≤ 4398046511103 := by
  rcases h.slice_ Try.underlying22 CHedge (by omega) with h | ⟨a, len, cap, rows, hv, hl, hm, hlen, hz, hrec, hrow⟩
  · cases h
    exact ⟨none, 0, [], rfl, fun h => absurd rfl h, by simp, by simp⟩
  · cases hv
    obtain ⟨l, rfl, hok⟩ := rows_of' (f := Edge.cells) (Q := fun _ => True) fun row hr => rhedge (hrow row hr).2
    rw [List.length_map] at hlen
    subst hlen
    rw [BHedge] at hz
    unfold reachBytes at hz
    exact ⟨some a, cap, l, rfl, hrec, hl, by omega⟩
theorem rhver (h : Rdz enc Try.prog w base spare held 34 row) : ∃ a b c : Int, row = [.int .i64 a, .int .i64 b, .int .i64 c] := by
  obtain ⟨hl, hf⟩ := h.struct_ Try.underlying34
  rw [CHver] at hl
  obtain ⟨c0, c1, c2, rfl⟩ := cs3 hl
  have h0 : Rdz enc Try.prog w base spare held 3 (([c0, c1, c2].drop 0).take (Try.prog.cellsOf 3)) := hf 0 _ rfl
  have h1 : Rdz enc Try.prog w base spare held 3 (([c0, c1, c2].drop 1).take (Try.prog.cellsOf 3)) := hf 1 _ rfl
  have h2 : Rdz enc Try.prog w base spare held 3 (([c0, c1, c2].drop 2).take (Try.prog.cellsOf 3)) := hf 2 _ rfl
  rw [CHint] at h0 h1 h2
  obtain ⟨n0, rfl, b0⟩ := rhi h0
  obtain ⟨n1, rfl, b1⟩ := rhi h1
  obtain ⟨n2, rfl, b2⟩ := rhi h2
  exact ⟨n0, n1, n2, rfl⟩
theorem rhbad (h : Rdz enc Try.prog w base spare held 36 row) : ∃ a b c d e : Int, row = [.int .i64 a, .int .i64 b, .int .i64 c, .int .i64 d, .int .i64 e] := by
  obtain ⟨hl, hf⟩ := h.struct_ Try.underlying36
  rw [CHbad] at hl
  obtain ⟨c0, c1, c2, c3, c4, rfl⟩ := cs5 hl
  have h0 : Rdz enc Try.prog w base spare held 3 (([c0, c1, c2, c3, c4].drop 0).take (Try.prog.cellsOf 3)) := hf 0 _ rfl
  have h1 : Rdz enc Try.prog w base spare held 3 (([c0, c1, c2, c3, c4].drop 1).take (Try.prog.cellsOf 3)) := hf 1 _ rfl
  have h2 : Rdz enc Try.prog w base spare held 34 (([c0, c1, c2, c3, c4].drop 2).take (Try.prog.cellsOf 34)) := hf 2 _ rfl
  rw [CHint] at h0 h1
  rw [CHver] at h2
  obtain ⟨n0, rfl, b0⟩ := rhi h0
  obtain ⟨n1, rfl, b1⟩ := rhi h1
  obtain ⟨n2, n3, n4, e⟩ := rhver h2
  cases e
  exact ⟨n0, n1, n2, n3, n4, rfl⟩
theorem rhwit (h : Rdz enc Try.prog w base spare held 38 row) : ∃ (p : Int) (X : Option Addr) (xc : Nat) (l : List Edge) (a b c d e : Int), row = [.int .i64 p, .slice X l.length xc, .int .i64 a, .int .i64 b, .int .i64 c, .int .i64 d, .int .i64 e] ∧ Walk (fun _ => True) w X l ∧ l.length ≤ xc ∧ l.length ≤ 4398046511103 := by
  obtain ⟨hl, hf⟩ := h.struct_ Try.underlying38
  rw [CHwit] at hl
  obtain ⟨c0, c1, c2, c3, c4, c5, c6, rfl⟩ := cs7 hl
  have h0 : Rdz enc Try.prog w base spare held 3 (([c0, c1, c2, c3, c4, c5, c6].drop 0).take (Try.prog.cellsOf 3)) := hf 0 _ rfl
  have h1 : Rdz enc Try.prog w base spare held 22 (([c0, c1, c2, c3, c4, c5, c6].drop 1).take (Try.prog.cellsOf 22)) := hf 1 _ rfl
  have h2 : Rdz enc Try.prog w base spare held 36 (([c0, c1, c2, c3, c4, c5, c6].drop 2).take (Try.prog.cellsOf 36)) := hf 2 _ rfl
  rw [CHint] at h0
  rw [CHedges] at h1
  rw [CHbad] at h2
  obtain ⟨n0, rfl, b0⟩ := rhi h0
  obtain ⟨X, xc, l, rfl, hw, hc, hs⟩ := rhwalk h1
  obtain ⟨n2, n3, n4, n5, n6, e⟩ := rhbad h2
  cases e
  exact ⟨n0, X, xc, l, n2, n3, n4, n5, n6, rfl, hw, hc, hs⟩
end
end Go.Proofs.Ytgakhpdclhlmpaa
