/- Ways: how far each node is, by walks with an arc of another mask. -/
import Derived.Test.YtmnhgdedkniafaaMbi
namespace Go.Proofs.Ytmnhgdedkniafaa
set_option linter.unusedVariables false
open Go.RowKit
/-- two rows of distances and the queue lie there, and a list that is gone through -/
def DQ2 (w : World) (ab g0 g1 qg N : Nat) (d : Int → Int) (qu : List Int) (A : Option Addr) (us : List Int) (W : World) : Prop :=
  ∃ F F2, Blk W ab 232 [.slice (some ⟨g0, 0, none⟩) N N, .slice (some ⟨g1, 0, none⟩) N N] ∧ Blk W g0 3 ((row0 N d 0).map (Value.int .i64)) ∧ Blk W g1 3 ((row0 N d 1).map (Value.int .i64)) ∧
    Que W F qg ((2 * N : Nat) : Int) qu ∧ (¬ F ab ∧ ¬ F g0 ∧ ¬ F g1) ∧ (ab ≠ g0 ∧ ab ≠ g1 ∧ g0 ≠ g1) ∧ (∀ i, F i → w.heap.size ≤ i) ∧ (w.heap.size ≤ ab ∧ w.heap.size ≤ g0 ∧ w.heap.size ≤ g1) ∧ Upd No w W ∧ Ints F2 W A us ∧
    (∀ i, F2 i → ¬ F i ∧ (i ≠ ab ∧ i ≠ g0 ∧ i ≠ g1) ∧ i < W.heap.size)
def gOf (g0 g1 : Nat) (h : Nat) : Nat := if h = 0 then g0 else g1
namespace DQ2
variable {w W W' : World} {ab g0 g1 qg N : Nat} {d : Int → Int} {qu us : List Int} {A : Option Addr}
theorem no (h : DQ2 w ab g0 g1 qg N d qu A us W) (k : Upd No W W') : DQ2 w ab g0 g1 qg N d qu A us W' := by
  obtain ⟨F, F2, a1, a2, a3, h2, h3, h9, h4, h5, h6, h7, h8⟩ := h
  exact ⟨F, F2, a1.upd k id, a2.upd k id, a3.upd k id, h2.upd k (fun _ _ => id), h3, h9, h4, h5, h6.trans k, h7.upd k (fun _ _ => id), fun i hi => ⟨(h8 i hi).1, (h8 i hi).2.1, Nat.lt_of_lt_of_le (h8 i hi).2.2 k.size⟩⟩
theorem upd (h : DQ2 w ab g0 g1 qg N d qu A us W) : Upd No w W := by
  obtain ⟨F, F2, a1, a2, a3, h2, h3, h9, h4, h5, h6, h7, h8⟩ := h
  exact h6
theorem row1 (h : DQ2 w ab g0 g1 qg N d qu A us W) : Blk W g1 3 ((row0 N d 1).map (Value.int .i64)) := by
  obtain ⟨F, F2, a1, a2, a3, h2, h3, h9, h4, h5, h6, h7, h8⟩ := h
  exact a3
theorem ge1 (h : DQ2 w ab g0 g1 qg N d qu A us W) : w.heap.size ≤ g1 := by
  obtain ⟨F, F2, a1, a2, a3, h2, h3, h9, h4, h5, h6, h7, h8⟩ := h
  exact h5.2.2
theorem arr (h : DQ2 w ab g0 g1 qg N d qu A us W) {k : Nat} (hk : k ≤ 1) : W.cell? ⟨ab, k, none⟩ = some (.slice (some ⟨gOf g0 g1 k, 0, none⟩) N N) := by
  obtain ⟨F, F2, a1, a2, a3, h2, h3, h9, h4, h5, h6, h7, h8⟩ := h
  have hk : k = 0 ∨ k = 1 := by omega
  rcases hk with rfl | rfl
  · exact a1.cell 0
  · exact a1.cell 1
theorem sl (h : DQ2 w ab g0 g1 qg N d qu A us W) : ∃ F2, Ints F2 W A us := by
  obtain ⟨F, F2, a1, a2, a3, h2, h3, h9, h4, h5, h6, h7, h8⟩ := h
  exact ⟨F2, h7⟩
theorem bare (h : DQ2 w ab g0 g1 qg N d qu A us W) : DQ2 w ab g0 g1 qg N d qu none [] W := by
  obtain ⟨F, F2, a1, a2, a3, h2, h3, h9, h4, h5, h6, h7, h8⟩ := h
  exact ⟨F, fun _ => False, a1, a2, a3, h2, h3, h9, h4, h5, h6, Ints.nil_, fun _ e => e.elim⟩
theorem list_ (h : DQ2 w ab g0 g1 qg N d qu A us W) {A' : Option Addr} {c' : Nat} {us' : List Int} (k : Upd No W W') (ho : W'.ownsRow W.heap.size 3 1 (.slice A' us'.length c') us'.length (us'.map (Value.int .i64))) : DQ2 w ab g0 g1 qg N d qu A' us' W' := by
  obtain ⟨F, F2, a1, a2, a3, h2, h3, h9, h4, h5, h6, h7, h8⟩ := h
  have hI : Ints (fun i => W.heap.size ≤ i ∧ i < W'.heap.size) W' A' us' := fun hne => by
    obtain ⟨ad, e, hf, hl, hc⟩ := (Ints.of_own ho) hne
    exact ⟨ad, e, ⟨hf, hl⟩, hl, hc⟩
  have l1 := a1.lt
  have l2 := a2.lt
  have l3 := a3.lt
  refine ⟨F, _, a1.upd k id, a2.upd k id, a3.upd k id, h2.upd k (fun _ _ => id), h3, h9, h4, h5, h6.trans k, hI, fun i hi => ⟨fun e => ?_, ⟨fun e => ?_, fun e => ?_, fun e => ?_⟩, hi.2⟩⟩
  · have := h2.lt i e; omega
  · omega
  · omega
  · omega
theorem cell (h : DQ2 w ab g0 g1 qg N d qu A us W) {i k : Nat} (hk : k ≤ 1) (hi : i < N) : W.cell? ⟨gOf g0 g1 k, i, none⟩ = some (.int .i64 (d ((i : Int) * 2 + (k : Int)))) := by
  obtain ⟨F, F2, a1, a2, a3, h2, h3, h9, h4, h5, h6, h7, h8⟩ := h
  have hk : k = 0 ∨ k = 1 := by omega
  rcases hk with rfl | rfl
  · show W.cell? ⟨g0, i, none⟩ = _
    rw [a2.cell i, List.getElem?_map]
    unfold row0
    rw [rowD_at _ hi]
    rfl
  · show W.cell? ⟨g1, i, none⟩ = _
    rw [a3.cell i, List.getElem?_map]
    unfold row0
    rw [rowD_at _ hi]
    rfl
theorem free (h : DQ2 w ab g0 g1 qg N d qu A us W) {k : Nat} (hk : k ≤ 1) (i : Nat) : W.frozen? ⟨gOf g0 g1 k, i, none⟩ = false := by
  obtain ⟨F, F2, a1, a2, a3, h2, h3, h9, h4, h5, h6, h7, h8⟩ := h
  have hk : k = 0 ∨ k = 1 := by omega
  rcases hk with rfl | rfl
  · exact a2.free i
  · exact a3.free i
theorem set_ (h : DQ2 w ab g0 g1 qg N d qu A us W) {k u : Nat} (hk : k ≤ 1) (hu : u < N) (v : Int) : DQ2 w ab g0 g1 qg N (updF d ((u : Int) * 2 + (k : Int)) v) qu A us (W.setCell ⟨gOf g0 g1 k, u, none⟩ (.int .i64 v)) := by
  obtain ⟨F, F2, a1, a2, a3, h2, h3, h9, h4, h5, h6, h7, h8⟩ := h
  have hk : k = 0 ∨ k = 1 := by omega
  rcases hk with rfl | rfl
  · show DQ2 w ab g0 g1 qg N _ qu A us (W.setCell ⟨g0, u, none⟩ (.int .i64 v))
    have k := Upd.setOne (Upd.refl (One g0) W) u (.int .i64 v)
    refine ⟨F, F2, a1.upd k (fun e => h9.1 e), ?_, ?_, h2.upd k (fun i hi e => h3.2.1 (e ▸ hi)), h3, h9, h4, h5, h6.then_ k fun i e => .inr (by rw [e]; exact h5.2.1), h7.upd k (fun i hi e => (h8 i hi).2.1.2.1 e), fun i hi => ⟨(h8 i hi).1, (h8 i hi).2.1, Nat.lt_of_lt_of_le (h8 i hi).2.2 k.size⟩⟩
    · have := a2.set_ u (.int .i64 v)
      rw [← List.map_set, row0_set d (.inl rfl) v hu] at this
      exact this
    · have e : row0 N (updF d ((u : Int) * 2 + ((0 : Nat) : Int)) v) 1 = row0 N d 1 := row0_other d (.inl rfl) (.inr rfl) (by decide) v
      rw [e]
      exact a3.upd k (fun e => h9.2.2 e.symm)
  · show DQ2 w ab g0 g1 qg N _ qu A us (W.setCell ⟨g1, u, none⟩ (.int .i64 v))
    have k := Upd.setOne (Upd.refl (One g1) W) u (.int .i64 v)
    refine ⟨F, F2, a1.upd k (fun e => h9.2.1 e), ?_, ?_, h2.upd k (fun i hi e => h3.2.2 (e ▸ hi)), h3, h9, h4, h5, h6.then_ k fun i e => .inr (by rw [e]; exact h5.2.2), h7.upd k (fun i hi e => (h8 i hi).2.1.2.2 e), fun i hi => ⟨(h8 i hi).1, (h8 i hi).2.1, Nat.lt_of_lt_of_le (h8 i hi).2.2 k.size⟩⟩
    · have e : row0 N (updF d ((u : Int) * 2 + ((1 : Nat) : Int)) v) 0 = row0 N d 0 := row0_other d (.inr rfl) (.inl rfl) (by decide) v
      rw [e]
      exact a2.upd k (fun e => h9.2.2 e)
    · have := a3.set_ u (.int .i64 v)
      rw [← List.map_set, row0_set d (.inr rfl) v hu] at this
      exact this
theorem push (h : DQ2 w ab g0 g1 qg N d qu A us W) (hN : N ≤ 32768) (hf : qu.length < 2 * N) (u : Int) : Calls Try.prog 121 #[.pointer (some ⟨qg, 0, none⟩), .int .i64 u] W fun e w' => e = .returned (.int .i64 0) ∧ DQ2 w ab g0 g1 qg N d (qu ++ [u]) A us w' := by
  obtain ⟨F, F2, a1, a2, a3, h2, h3, h9, h4, h5, h6, h7, h8⟩ := h
  refine (qpush W F qg ((2 * N : Nat) : Int) qu u h2 (by omega) (by omega) (by omega)).mono ?_
  rintro e w' ⟨rfl, F', hF', hq, hu⟩
  have hs := h6.size
  have hne : ∀ i, i < W.heap.size → ¬ F i → ¬ F' i := fun i hi hn e => by
    rcases hF' i e with e | e
    · exact hn e
    · omega
  refine ⟨rfl, F', F2, a1.upd hu h3.1, a2.upd hu h3.2.1, a3.upd hu h3.2.2, hq, ⟨hne ab a1.lt h3.1, hne g0 a2.lt h3.2.1, hne g1 a3.lt h3.2.2⟩, h9, fun i hi => ?_, h5, h6.then_ hu fun i e => .inr (h4 i e), h7.upd hu (fun i hi => (h8 i hi).1), fun i hi => ⟨hne i (h8 i hi).2.2 (h8 i hi).1, (h8 i hi).2.1, Nat.lt_of_lt_of_le (h8 i hi).2.2 hu.size⟩⟩
  rcases hF' i hi with e | e
  · exact h4 i e
  · omega
/-- what the next pop hands out -/
theorem popA (h : DQ2 w ab g0 g1 qg N d qu A us W) : Calls Try.prog 122 #[.pointer (some ⟨qg, 0, none⟩)] W fun e w' => ∃ x b qu', e = .returned (.tuple #[.int .i64 x, .bool b]) ∧ DQ2 w ab g0 g1 qg N d qu' A us w' ∧ (if b = true then qu = x :: qu' else qu = [] ∧ qu' = []) := by
  have h' := h
  obtain ⟨F, F2, a1, a2, a3, h2, h3, h9, h4, h5, h6, h7, h8⟩ := h
  cases qu with
  | nil =>
    refine (qpop_none W F qg ((2 * N : Nat) : Int) h2).mono ?_
    rintro e w' ⟨rfl, rfl⟩
    exact ⟨0, false, [], rfl, h', by simp⟩
  | cons x qu =>
    refine (qpop W F qg ((2 * N : Nat) : Int) x qu h2).mono ?_
    rintro e w' ⟨rfl, hq, hu⟩
    exact ⟨x, true, qu, rfl, ⟨F, F2, a1.upd hu h3.1, a2.upd hu h3.2.1, a3.upd hu h3.2.2, hq, h3, h9, h4, h5, h6.then_ hu fun i e => .inr (h4 i e), h7.upd hu (fun i hi => (h8 i hi).1), fun i hi => ⟨(h8 i hi).1, (h8 i hi).2.1, Nat.lt_of_lt_of_le (h8 i hi).2.2 hu.size⟩⟩, by simp⟩
end DQ2
end Go.Proofs.Ytmnhgdedkniafaa
