/- How deeds that come in read. -/
import Derived.Test.YtmnhgdedkniafaaMat
namespace Go.Proofs.Ytmnhgdedkniafaa
set_option linter.unusedVariables false
open Go.RowKit
theorem dcs5 {l : List Value} (h : l.length = 5) : ∃ a b c d e, l = [a, b, c, d, e] :=
  match l, h with
  | [a, b, c, d, e], _ => ⟨a, b, c, d, e, rfl⟩
theorem DCdeed : Try.prog.cellsOf 65 = 5 := by kernel_rfl
theorem DBdeed : Try.prog.bytesOf 65 = 40 := by kernel_rfl
section
variable {H : Type} {enc : TypeId × Value → H} {w : World} {base : Nat} {spare : Nat → Bool} {held : Bool} {row : List Value}
theorem rddeed (h : Rdz enc Try.prog w base spare held 65 row) : ∃ e : DDeed, row = e.cells ∧ e.a.i := by
  obtain ⟨hl, hf⟩ := h.struct_ Try.underlying65
  rw [DCdeed] at hl
  obtain ⟨c0, c1, c2, c3, c4, rfl⟩ := dcs5 hl
  have h0 : Rdz enc Try.prog w base spare held 3 (([c0, c1, c2, c3, c4].drop 0).take (Try.prog.cellsOf 3)) := hf 0 _ rfl
  have h1 : Rdz enc Try.prog w base spare held 63 (([c0, c1, c2, c3, c4].drop 1).take (Try.prog.cellsOf 63)) := hf 1 _ rfl
  rw [DCint] at h0
  rw [DCarc] at h1
  obtain ⟨n0, rfl, b0⟩ := rddi h0
  obtain ⟨a, ha, hi⟩ := rdarc h1
  unfold HArc.cells at ha
  simp only [List.drop_succ_cons, List.drop_zero, List.take_succ_cons, List.take_zero, List.cons.injEq, and_true] at ha
  obtain ⟨rfl, rfl, rfl, rfl⟩ := ha
  exact ⟨⟨n0, a⟩, rfl, hi⟩
theorem rddeeds {v : Value} (h : Rdz enc Try.prog w base spare held 57 [v]) : ∃ (A : Option Addr) (c : Nat) (l : List DDeed), v = .slice A l.length c ∧ DeedsL (fun _ => True) w A l ∧ l.length ≤ c ∧ l.length ≤ 4398046511103 ∧ ∀ e ∈ l, e.a.i := by
  rcases h.slice_ Try.underlying57 DCdeed (by omega) with h | ⟨a, len, cap, rows, hv, hl, hm, hlen, hz, hrec, hrow⟩
  · cases h
    exact ⟨none, 0, [], rfl, fun h => absurd rfl h, by simp, by simp, fun e he => by simp at he⟩
  · cases hv
    obtain ⟨l, rfl, hok⟩ := rows_of' (f := DDeed.cells) (Q := fun d => d.a.i) fun row hr => rddeed (hrow row hr).2
    rw [List.length_map] at hlen
    subst hlen
    rw [DBdeed] at hz
    unfold reachBytes at hz
    exact ⟨some a, cap, l, rfl, hrec, hl, by omega, hok⟩
end
end Go.Proofs.Ytmnhgdedkniafaa
