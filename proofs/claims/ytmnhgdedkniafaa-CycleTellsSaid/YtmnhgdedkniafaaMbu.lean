/- Closed walks: how edges that come in read. -/
import Derived.Test.YtmnhgdedkniafaaMbp
import Derived.Test.YtmnhgdedkniafaaMbs
import Derived.Test.YtmnhgdedkniafaaMbt
namespace Go.Proofs.Ytmnhgdedkniafaa
set_option linter.unusedVariables false
open Go.RowKit
theorem DCedge : Try.prog.cellsOf 96 = 4 := by kernel_rfl
theorem DBedge : Try.prog.bytesOf 96 = 32 := by kernel_rfl
/-- the numbers of an edge are numbers of the machine -/
def Edge.i (a : Edge) : Prop := (-9223372036854775808 ≤ a.f ∧ a.f ≤ 9223372036854775807) ∧ (-9223372036854775808 ≤ a.t ∧ a.t ≤ 9223372036854775807) ∧ (-9223372036854775808 ≤ a.k ∧ a.k ≤ 9223372036854775807) ∧ (-9223372036854775808 ≤ a.key ∧ a.key ≤ 9223372036854775807)
section
variable {H : Type} {enc : TypeId × Value → H} {w : World} {base : Nat} {spare : Nat → Bool} {held : Bool} {row : List Value}
theorem rdedge (h : Rdz enc Try.prog w base spare held 96 row) : ∃ e : Edge, row = e.cells ∧ e.i := by
  obtain ⟨hl, hf⟩ := h.struct_ Try.underlying96
  rw [DCedge] at hl
  obtain ⟨c0, c1, c2, c3, rfl⟩ := dcs4 hl
  have h0 : Rdz enc Try.prog w base spare held 3 (([c0, c1, c2, c3].drop 0).take (Try.prog.cellsOf 3)) := hf 0 _ rfl
  have h1 : Rdz enc Try.prog w base spare held 3 (([c0, c1, c2, c3].drop 1).take (Try.prog.cellsOf 3)) := hf 1 _ rfl
  have h2 : Rdz enc Try.prog w base spare held 3 (([c0, c1, c2, c3].drop 2).take (Try.prog.cellsOf 3)) := hf 2 _ rfl
  have h3 : Rdz enc Try.prog w base spare held 3 (([c0, c1, c2, c3].drop 3).take (Try.prog.cellsOf 3)) := hf 3 _ rfl
  rw [DCint] at h0 h1 h2 h3
  obtain ⟨n0, rfl, b0⟩ := rddi h0
  obtain ⟨n1, rfl, b1⟩ := rddi h1
  obtain ⟨n2, rfl, b2⟩ := rddi h2
  obtain ⟨n3, rfl, b3⟩ := rddi h3
  exact ⟨⟨n0, n1, n2, n3⟩, rfl, b0, b1, b2, b3⟩
theorem rdedges {v : Value} (h : Rdz enc Try.prog w base spare held 26 [v]) : ∃ (A : Option Addr) (c : Nat) (l : List Edge), v = .slice A l.length c ∧ Walk (fun _ => True) w A l ∧ l.length ≤ c ∧ l.length ≤ 4398046511103 ∧ ∀ e ∈ l, e.i := by
  rcases h.slice_ Try.underlying26 DCedge (by omega) with h | ⟨a, len, cap, rows, hv, hl, hm, hlen, hz, hrec, hrow⟩
  · cases h
    exact ⟨none, 0, [], rfl, fun h => absurd rfl h, by simp, by simp, fun e he => by simp at he⟩
  · cases hv
    obtain ⟨l, rfl, hok⟩ := rows_of' (f := Edge.cells) (Q := Edge.i) fun row hr => rdedge (hrow row hr).2
    rw [List.length_map] at hlen
    subst hlen
    rw [DBedge] at hz
    unfold reachBytes at hz
    exact ⟨some a, cap, l, rfl, hrec, hl, by omega, hok⟩
end
end Go.Proofs.Ytmnhgdedkniafaa

/- Closed walks: the law that what is told is what the document says. -/
namespace Go.Proofs.Ytmnhgdedkniafaa
set_option linter.unusedVariables false
open Go.RowKit
theorem doc_len (l : List Edge) (mask must : Int) (hl : l.length ≤ 100000) : (docS l mask must).length ≤ l.length ∨ docS l mask must = [] := by
  rcases docS_or l mask must hl with ⟨e, _⟩ | ⟨v, h⟩
  · exact .inr e
  · left
    have hp := h.simple
    have := nodup_len (l := (docS l mask must).map Edge.f) (m := l.map Edge.f) (by
      rw [List.pairwise_map] at hp ⊢
      exact hp) (fun x hx => by
      obtain ⟨e, he, rfl⟩ := List.mem_map.1 hx
      exact List.mem_map.2 ⟨e, (List.mem_filter.1 (mem_arcs.1 (okW_mem h.w e.arc (mem_arcs.2 he)))).1, rfl⟩)
    rwa [List.length_map, List.length_map] at this
theorem tell_big {w : World} {A : Option Addr} {c n : Nat} {mask must : Int} (hl : 40 < n)
    (L : Hid (∀ w, Calls Try.prog 68 #[] w fun e w' => e = .returned (.bool true) ∧ Upd No w w')) :
    Calls Try.prog 11 #[.slice A n c, .int .i64 mask, .int .i64 must] w fun e w' => e = .returned (.bool true) ∧ Upd No w w' := by
  have hb : decide (40 < (n : Int)) = true := decide_eq_true (by omega)
  go_enter Try.func11, Try.ntmps11
  go_wp2_with fail
  refine (L.out _).mono ?_
  rintro e w1 ⟨rfl, hu1⟩
  go_wp2
  go_ret
  exact ⟨rfl, hu1⟩
set_option maxRecDepth 100000 in
set_option maxHeartbeats 4000000 in
theorem tell_few {F : Nat → Prop} {w : World} {A : Option Addr} {c : Nat} {l : List Edge} {mask must : Int} (hW : Walk F w A l) (hl : l.length ≤ 40)
    (L : Hid (∀ w, Calls Try.prog 68 #[] w fun e w' => e = .returned (.bool true) ∧ Upd No w w')) :
    Calls Try.prog 11 #[.slice A l.length c, .int .i64 mask, .int .i64 must] w fun e w' => e = .returned (.bool true) ∧ Upd No w w' := by
  have hb : decide (40 < (l.length : Int)) = false := decide_eq_false (by omega)
  have H1 := Lib.hid (cShortest F w A c l mask must hW (by omega))
  have H2 := Lib.hid (fun (W : World) (u : Upd No w W) => rShortest F W A c l mask must (hW.upd u (fun _ _ => id)) (by omega))
  have hdl : (docS l mask must).length ≤ 100000 := by
    rcases doc_len l mask must (by omega) with h | h
    · omega
    · rw [h]; simp
  obtain ⟨d, hd⟩ : ∃ d, docS l mask must = d := ⟨_, rfl⟩
  rw [hd] at H1 H2 hdl
  unfold ToldC at H1 H2
  obtain ⟨en, hen⟩ : ∃ en : Int, (if d.length = 0 then (3 : Int) else 0) = en := ⟨_, rfl⟩
  rw [hen] at H1 H2
  clear hd hen hW
  go_enter Try.func11, Try.ntmps11
  go_wp2_with fail
  refine (H1.out).mono ?_
  rintro e w1 ⟨X, cx, rfl, hx, hu1⟩
  go_wp2_with fail
  refine (H2.out w1 hu1).mono ?_
  rintro e w2 ⟨Y, cy, rfl, hy, hu2⟩
  have HS := Lib.hid (sameedges w2 _ _ X Y cx cy d d (Walk.upd (walk_ownR hx) hu2 (fun _ _ => id)) (walk_ownR hy) (by omega) (by omega))
  rw [show (d == d) = true from beq_self_eq_true d] at HS
  have HU := Lib.hid (hu1.trans hu2)
  clear hx hy
  go_wp2_with fail
  refine (HS.out).mono ?_
  rintro e w3 ⟨rfl, hu3⟩
  go_wp2_with fail
  refine (L.out _).mono ?_
  rintro e w4 ⟨rfl, hu4⟩
  go_wp2
  go_ret
  exact ⟨rfl, (HU.out.trans hu3).trans hu4⟩
theorem tells27 (F : Nat → Prop) (w : World) (A : Option Addr) (c : Nat) (l : List Edge) (mask must : Int) (hW : Walk F w A l)
    (L : Hid (∀ w, Calls Try.prog 68 #[] w fun e w' => e = .returned (.bool true) ∧ Upd No w w')) :
    Calls Try.prog 11 #[.slice A l.length c, .int .i64 mask, .int .i64 must] w fun e w' => e = .returned (.bool true) ∧ Upd No w w' := by
  by_cases hb : 40 < l.length
  · exact tell_big hb L
  · exact tell_few hW (by omega) L
end Go.Proofs.Ytmnhgdedkniafaa
