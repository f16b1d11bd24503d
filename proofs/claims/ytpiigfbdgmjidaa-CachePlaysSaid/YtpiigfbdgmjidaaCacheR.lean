/- How the caches' laws' arguments read: edges, witnesses, entries, deeds. -/
import Derived.Test.YtpiigfbdgmjidaaRd
import Derived.Test.YtpiigfbdgmjidaaCacheL
import Derived.Test.YtpiigfbdgmjidaaCacheN
import Derived.Test.YtpiigfbdgmjidaaCacheK
namespace Go.Proofs.Ytpiigfbdgmjidaa
set_option linter.unusedVariables false
open Go.RowKit

theorem four_of {l : List Value} (h : l.length = 4) : ∃ a b c d, l = [a, b, c, d] :=
  match l, h with
  | [a, b, c, d], _ => ⟨a, b, c, d, rfl⟩
theorem three_of {l : List Value} (h : l.length = 3) : ∃ a b c, l = [a, b, c] :=
  match l, h with
  | [a, b, c], _ => ⟨a, b, c, rfl⟩
theorem five_of {l : List Value} (h : l.length = 5) : ∃ a b c d e, l = [a, b, c, d, e] :=
  match l, h with
  | [a, b, c, d, e], _ => ⟨a, b, c, d, e, rfl⟩
theorem seven_of {l : List Value} (h : l.length = 7) : ∃ a b c d e f g, l = [a, b, c, d, e, f, g] :=
  match l, h with
  | [a, b, c, d, e, f, g], _ => ⟨a, b, c, d, e, f, g, rfl⟩
theorem ten_of {l : List Value} (h : l.length = 10) : ∃ a b c d e f g i j k, l = [a, b, c, d, e, f, g, i, j, k] :=
  match l, h with
  | [a, b, c, d, e, f, g, i, j, k], _ => ⟨a, b, c, d, e, f, g, i, j, k, rfl⟩
theorem eleven_of {l : List Value} (h : l.length = 11) : ∃ z a b c d e f g i j k, l = [z, a, b, c, d, e, f, g, i, j, k] :=
  match l, h with
  | [z, a, b, c, d, e, f, g, i, j, k], _ => ⟨z, a, b, c, d, e, f, g, i, j, k, rfl⟩
theorem CEint : Try.prog.cellsOf 3 = 1 := by kernel_rfl
theorem CEbool : Try.prog.cellsOf 4 = 1 := by kernel_rfl
theorem CEedge : Try.prog.cellsOf 93 = 4 := by kernel_rfl
theorem BEedge : Try.prog.bytesOf 93 = 32 := by kernel_rfl
theorem CEedges : Try.prog.cellsOf 41 = 1 := by kernel_rfl
theorem CEver : Try.prog.cellsOf 43 = 3 := by kernel_rfl
theorem CEbad : Try.prog.cellsOf 45 = 5 := by kernel_rfl
theorem CEwit : Try.prog.cellsOf 47 = 7 := by kernel_rfl
theorem CEent : Try.prog.cellsOf 49 = 10 := by kernel_rfl
theorem CEdeed : Try.prog.cellsOf 51 = 11 := by kernel_rfl
section
variable {H : Type} {enc : TypeId × Value → H} {w : World} {base : Nat} {spare : Nat → Bool} {held : Bool} {row : List Value}
theorem rd_int {v : Value} (h : Rdz enc Try.prog w base spare held 3 [v]) : ∃ n, v = .int .i64 n := by
  obtain ⟨n, e, _⟩ := Rdz.int_ Try.underlying3 h
  cases e
  exact ⟨n, rfl⟩
theorem rd_bool {v : Value} (h : Rdz enc Try.prog w base spare held 4 [v]) : ∃ n, v = .bool n := by
  obtain ⟨n, e⟩ := Rdz.bool_ Try.underlying4 h
  cases e
  exact ⟨n, rfl⟩
theorem rd_edge (h : Rdz enc Try.prog w base spare held 93 row) : ∃ e : Edge, row = e.cells := by
  obtain ⟨hl, hf⟩ := h.struct_ Try.underlying93
  rw [CEedge] at hl
  obtain ⟨c0, c1, c2, c3, rfl⟩ := four_of hl
  have h0 : Rdz enc Try.prog w base spare held 3 (([c0, c1, c2, c3].drop 0).take (Try.prog.cellsOf 3)) := hf 0 _ rfl
  have h1 : Rdz enc Try.prog w base spare held 3 (([c0, c1, c2, c3].drop 1).take (Try.prog.cellsOf 3)) := hf 1 _ rfl
  have h2 : Rdz enc Try.prog w base spare held 3 (([c0, c1, c2, c3].drop 2).take (Try.prog.cellsOf 3)) := hf 2 _ rfl
  have h3 : Rdz enc Try.prog w base spare held 3 (([c0, c1, c2, c3].drop 3).take (Try.prog.cellsOf 3)) := hf 3 _ rfl
  rw [CEint] at h0 h1 h2 h3
  obtain ⟨n0, rfl⟩ := rd_int h0
  obtain ⟨n1, rfl⟩ := rd_int h1
  obtain ⟨n2, rfl⟩ := rd_int h2
  obtain ⟨n3, rfl⟩ := rd_int h3
  exact ⟨⟨n0, n1, n2, n3⟩, rfl⟩
theorem rd_walk {v : Value} (h : Rdz enc Try.prog w base spare held 41 [v]) : ∃ (A : Option Addr) (c : Nat) (l : List Edge), v = .slice A l.length c ∧ Walk (fun _ => True) w A l ∧ short l.length := by
  rcases h.slice_ Try.underlying41 CEedge (by omega) with h | ⟨a, len, cap, rows, hv, hl, hm, hlen, hz, hrec, hrow⟩
  · cases h
    exact ⟨none, 0, [], rfl, fun h => absurd rfl h, by unfold short; simp⟩
  · cases hv
    obtain ⟨l, rfl⟩ := rows_of (f := Edge.cells) fun row hr => rd_edge (hrow row hr).2
    rw [List.length_map] at hlen
    subst hlen
    rw [BEedge] at hz
    refine ⟨some a, cap, l, rfl, hrec, ?_⟩
    unfold short
    unfold reachBytes at hz
    omega
theorem rd_ver (h : Rdz enc Try.prog w base spare held 43 row) : ∃ a b c, row = [.int .i64 a, .int .i64 b, .int .i64 c] := by
  obtain ⟨hl, hf⟩ := h.struct_ Try.underlying43
  rw [CEver] at hl
  obtain ⟨c0, c1, c2, rfl⟩ := three_of hl
  have h0 : Rdz enc Try.prog w base spare held 3 (([c0, c1, c2].drop 0).take (Try.prog.cellsOf 3)) := hf 0 _ rfl
  have h1 : Rdz enc Try.prog w base spare held 3 (([c0, c1, c2].drop 1).take (Try.prog.cellsOf 3)) := hf 1 _ rfl
  have h2 : Rdz enc Try.prog w base spare held 3 (([c0, c1, c2].drop 2).take (Try.prog.cellsOf 3)) := hf 2 _ rfl
  rw [CEint] at h0 h1 h2
  obtain ⟨n0, rfl⟩ := rd_int h0
  obtain ⟨n1, rfl⟩ := rd_int h1
  obtain ⟨n2, rfl⟩ := rd_int h2
  exact ⟨n0, n1, n2, rfl⟩
theorem rd_bad (h : Rdz enc Try.prog w base spare held 45 row) : ∃ a b c d e, row = [.int .i64 a, .int .i64 b, .int .i64 c, .int .i64 d, .int .i64 e] := by
  obtain ⟨hl, hf⟩ := h.struct_ Try.underlying45
  rw [CEbad] at hl
  obtain ⟨c0, c1, c2, c3, c4, rfl⟩ := five_of hl
  have h0 : Rdz enc Try.prog w base spare held 3 (([c0, c1, c2, c3, c4].drop 0).take (Try.prog.cellsOf 3)) := hf 0 _ rfl
  have h1 : Rdz enc Try.prog w base spare held 3 (([c0, c1, c2, c3, c4].drop 1).take (Try.prog.cellsOf 3)) := hf 1 _ rfl
  have h2 : Rdz enc Try.prog w base spare held 43 (([c0, c1, c2, c3, c4].drop 2).take (Try.prog.cellsOf 43)) := hf 2 _ rfl
  rw [CEint] at h0 h1
  rw [CEver] at h2
  obtain ⟨n0, rfl⟩ := rd_int h0
  obtain ⟨n1, rfl⟩ := rd_int h1
  obtain ⟨a, b, c, e⟩ := rd_ver h2
  simp only [List.drop_succ_cons, List.drop_zero, List.take_succ_cons, List.take_zero, List.cons.injEq, and_true] at e
  obtain ⟨rfl, rfl, rfl⟩ := e
  exact ⟨n0, n1, a, b, c, rfl⟩
theorem rd_wit (h : Rdz enc Try.prog w base spare held 47 row) : ∃ (x : Wit) (A : Option Addr) (c : Nat), row = x.cells A c ∧ Walk (fun _ => True) w A x.walk ∧ short x.walk.length := by
  obtain ⟨hl, hf⟩ := h.struct_ Try.underlying47
  rw [CEwit] at hl
  obtain ⟨c0, c1, c2, c3, c4, c5, c6, rfl⟩ := seven_of hl
  have h0 : Rdz enc Try.prog w base spare held 3 (([c0, c1, c2, c3, c4, c5, c6].drop 0).take (Try.prog.cellsOf 3)) := hf 0 _ rfl
  have h1 : Rdz enc Try.prog w base spare held 41 (([c0, c1, c2, c3, c4, c5, c6].drop 1).take (Try.prog.cellsOf 41)) := hf 1 _ rfl
  have h2 : Rdz enc Try.prog w base spare held 45 (([c0, c1, c2, c3, c4, c5, c6].drop 2).take (Try.prog.cellsOf 45)) := hf 2 _ rfl
  rw [CEint] at h0
  rw [CEedges] at h1
  rw [CEbad] at h2
  obtain ⟨n0, rfl⟩ := rd_int h0
  obtain ⟨A, c, l, rfl, hw, hs⟩ := rd_walk h1
  obtain ⟨r0, r1, r2, r3, r4, e⟩ := rd_bad h2
  simp only [List.drop_succ_cons, List.drop_zero, List.take_succ_cons, List.take_zero, List.cons.injEq, and_true] at e
  obtain ⟨rfl, rfl, rfl, rfl, rfl⟩ := e
  exact ⟨⟨n0, l, r0, r1, r2, r3, r4⟩, A, c, rfl, hw, hs⟩
theorem rd_ent (h : Rdz enc Try.prog w base spare held 49 row) : ∃ p : EntP, row = p.cells ∧ Walk (fun _ => True) w p.A p.e.w.walk ∧ short p.e.w.walk.length := by
  obtain ⟨hl, hf⟩ := h.struct_ Try.underlying49
  rw [CEent] at hl
  obtain ⟨c0, c1, c2, c3, c4, c5, c6, c7, c8, c9, rfl⟩ := ten_of hl
  have h0 : Rdz enc Try.prog w base spare held 3 (([c0, c1, c2, c3, c4, c5, c6, c7, c8, c9].drop 0).take (Try.prog.cellsOf 3)) := hf 0 _ rfl
  have h1 : Rdz enc Try.prog w base spare held 3 (([c0, c1, c2, c3, c4, c5, c6, c7, c8, c9].drop 1).take (Try.prog.cellsOf 3)) := hf 1 _ rfl
  have h2 : Rdz enc Try.prog w base spare held 47 (([c0, c1, c2, c3, c4, c5, c6, c7, c8, c9].drop 2).take (Try.prog.cellsOf 47)) := hf 2 _ rfl
  have h3 : Rdz enc Try.prog w base spare held 4 (([c0, c1, c2, c3, c4, c5, c6, c7, c8, c9].drop 9).take (Try.prog.cellsOf 4)) := hf 3 _ rfl
  rw [CEint] at h0 h1
  rw [CEwit] at h2
  rw [CEbool] at h3
  obtain ⟨n0, rfl⟩ := rd_int h0
  obtain ⟨n1, rfl⟩ := rd_int h1
  obtain ⟨b, rfl⟩ := rd_bool h3
  obtain ⟨x, A, c, e, hw, hs⟩ := rd_wit h2
  simp only [Wit.cells, List.drop_succ_cons, List.drop_zero, List.take_succ_cons, List.take_zero, List.cons.injEq, and_true] at e
  obtain ⟨rfl, rfl, rfl, rfl, rfl, rfl, rfl⟩ := e
  exact ⟨⟨⟨n0, n1, x, b⟩, A, c⟩, rfl, hw, hs⟩
theorem rd_cdeed (h : Rdz enc Try.prog w base spare held 51 row) : ∃ d : CDeed, row = d.cells ∧ Walk (fun _ => True) w d.p.A d.p.e.w.walk ∧ short d.p.e.w.walk.length := by
  obtain ⟨hl, hf⟩ := h.struct_ Try.underlying51
  rw [CEdeed] at hl
  obtain ⟨z, c0, c1, c2, c3, c4, c5, c6, c7, c8, c9, rfl⟩ := eleven_of hl
  have h0 : Rdz enc Try.prog w base spare held 3 (([z, c0, c1, c2, c3, c4, c5, c6, c7, c8, c9].drop 0).take (Try.prog.cellsOf 3)) := hf 0 _ rfl
  have h1 : Rdz enc Try.prog w base spare held 49 (([z, c0, c1, c2, c3, c4, c5, c6, c7, c8, c9].drop 1).take (Try.prog.cellsOf 49)) := hf 1 _ rfl
  rw [CEint] at h0
  rw [CEent] at h1
  obtain ⟨n0, rfl⟩ := rd_int h0
  obtain ⟨p, e, hw, hs⟩ := rd_ent h1
  simp only [EntP.cells, List.drop_succ_cons, List.drop_zero, List.take_succ_cons, List.take_zero, List.cons.injEq, and_true] at e
  obtain ⟨rfl, rfl, rfl, rfl, rfl, rfl, rfl, rfl, rfl, rfl⟩ := e
  exact ⟨⟨n0, p⟩, rfl, hw, hs⟩
end
end Go.Proofs.Ytpiigfbdgmjidaa
