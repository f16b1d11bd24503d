/- Orders: the heap's own functions. -/
import Derived.Test.YtaicemjckagcaaaMbp
namespace Go.Proofs.Ytaicemjckagcaaa
set_option linter.unusedVariables false
open Go.RowKit
/-- the heap's handle -/
def hif (hb : Nat) : Value := .iface 97 (.pointer (some ⟨hb, 0, none⟩))
/-- a heap in memory: its handle's one cell, and its row -/
def HeapM (w : World) (base hb : Nat) (A : Option Addr) (xs : List Int) (c : Nat) : Prop :=
  Blk w hb 95 [.slice A xs.length c] ∧ w.ownsRow base 3 1 (.slice A xs.length c) xs.length (xs.map (Value.int .i64)) ∧ ¬ Own (.slice A xs.length c) hb
theorem HeapM.ints {w : World} {base hb : Nat} {A : Option Addr} {xs : List Int} {c : Nat} (h : HeapM w base hb A xs c) : Ints (fun i => base ≤ i) w A xs := Ints.of_own h.2.1
theorem HeapM.cell {w : World} {base hb : Nat} {A : Option Addr} {xs : List Int} {c : Nat} (h : HeapM w base hb A xs c) : w.cell? ⟨hb, 0, none⟩ = some (.slice A xs.length c) := by simpa using h.1.cell 0
theorem HeapM.upd {w w' : World} {base hb : Nat} {A : Option Addr} {xs : List Int} {c : Nat} (h : HeapM w base hb A xs c) (u : Upd No w w') : HeapM w' base hb A xs c := ⟨h.1.upd u id, own_upd h.2.1 u (fun _ _ => id), h.2.2⟩
theorem HeapM.mLen {w : World} {base hb : Nat} {A : Option Addr} {xs : List Int} {c : Nat} (h : HeapM w base hb A xs c) : (method 412 97 (.pointer (some ⟨hb, 0, none⟩)) "Len").run Try.prog w = .ok (57, .slice A xs.length c) w := m_len _ _ _ _ _ h.cell
theorem HeapM.mLess {w : World} {base hb : Nat} {A : Option Addr} {xs : List Int} {c : Nat} (h : HeapM w base hb A xs c) : (method 412 97 (.pointer (some ⟨hb, 0, none⟩)) "Less").run Try.prog w = .ok (265, .slice A xs.length c) w := m_less _ _ _ _ _ h.cell
theorem HeapM.mSwap {w : World} {base hb : Nat} {A : Option Addr} {xs : List Int} {c : Nat} (h : HeapM w base hb A xs c) : (method 412 97 (.pointer (some ⟨hb, 0, none⟩)) "Swap").run Try.prog w = .ok (266, .slice A xs.length c) w := m_swap _ _ _ _ _ h.cell
theorem HeapM.swap {w : World} {base hb : Nat} {A : Option Addr} {xs : List Int} {c : Nat} (h : HeapM w base hb A xs c) (hl : xs.length ≤ 1000000) {i j : Nat} (hi : i < xs.length) (hj : j < xs.length) :
    Calls Try.prog 266 #[.slice A xs.length c, .int .i64 (i : Int), .int .i64 (j : Int)] w fun e w' => e = .returned (.tuple #[]) ∧ HeapM w' base hb A (swapL xs i j) c ∧ Upd (Own (.slice A xs.length c)) w w' := by
  refine Calls.mono (rdswap w base A c xs i j h.2.1 hi hj hl) ?_
  rintro e w' ⟨rfl, ho, hu⟩
  have hs := swapL_len xs i j
  refine ⟨rfl, ⟨?_, ?_, ?_⟩, hu⟩
  · rw [hs]; exact h.1.upd hu h.2.2
  · rw [hs]; exact ho
  · rw [hs]; exact h.2.2
theorem HeapM.less {w : World} {base hb : Nat} {A : Option Addr} {xs : List Int} {c : Nat} (h : HeapM w base hb A xs c) (hl : xs.length ≤ 1000000) {i j : Nat} (hi : i < xs.length) (hj : j < xs.length) :
    Calls Try.prog 265 #[.slice A xs.length c, .int .i64 (i : Int), .int .i64 (j : Int)] w fun e w' => e = .returned (.bool (decide (xs.getD i 0 < xs.getD j 0))) ∧ HeapM w' base hb A xs c ∧ Upd No w w' := by
  refine Calls.mono (rdless _ w A c xs i j h.ints hi hj hl) ?_
  rintro e w' ⟨rfl, hu⟩
  refine ⟨?_, h.upd hu, hu⟩
  simp [List.getD, hi, hj]
/-- each place but the one is not less than the one ahead of it, and what is behind that one not less than what is ahead of it -/
def UpI (xs : List Int) (j : Nat) : Prop :=
  (∀ k, 1 ≤ k → k < xs.length → k ≠ j → xs.getD ((k - 1) / 2) 0 ≤ xs.getD k 0) ∧ (∀ k, 1 ≤ k → k < xs.length → (k - 1) / 2 = j → 1 ≤ j → xs.getD ((j - 1) / 2) 0 ≤ xs.getD k 0)
/-- a heap from a place on, of so many -/
def HpF (xs : List Int) (lo n : Nat) : Prop := ∀ k, 1 ≤ k → k < n → lo ≤ (k - 1) / 2 → xs.getD ((k - 1) / 2) 0 ≤ xs.getD k 0
theorem swapL_get (xs : List Int) (i j k : Nat) (hi : i < xs.length) (hj : j < xs.length) : (swapL xs i j).getD k 0 = if k = j then xs.getD i 0 else if k = i then xs.getD j 0 else xs.getD k 0 := by
  unfold swapL
  simp only [List.getD_eq_getElem?_getD, List.getElem?_set, List.length_set]
  grind
theorem swapL_perm (xs : List Int) (i j : Nat) (hi : i < xs.length) (hj : j < xs.length) : (swapL xs i j).Perm xs := by
  rw [List.perm_iff_count]
  intro a
  unfold swapL
  rw [List.count_set, List.count_set] <;> grind
theorem up_end (xs : List Int) (j : Nat) (h : UpI xs j) (hs : j = 0 ∨ xs.getD ((j - 1) / 2) 0 ≤ xs.getD j 0) : HpF xs 0 xs.length := by
  intro k h1 h2 _
  by_cases e : k = j
  · subst e
    rcases hs with hs | hs
    · omega
    · exact hs
  · exact h.1 k h1 h2 e
theorem up_step (xs : List Int) (j : Nat) (hj : j < xs.length) (h : UpI xs j) (h0 : 0 < j) (hs : xs.getD j 0 < xs.getD ((j - 1) / 2) 0) : UpI (swapL xs ((j - 1) / 2) j) ((j - 1) / 2) := by
  have hp : (j - 1) / 2 < xs.length := by omega
  constructor
  · intro k h1 h2 h3
    rw [swapL_len] at h2
    rw [swapL_get _ _ _ _ hp hj, swapL_get _ _ _ _ hp hj]
    by_cases e : k = j
    · subst e
      have : (k - 1) / 2 ≠ k := by omega
      simp only [if_true, if_neg this]
      omega
    · rw [if_neg e, if_neg h3]
      by_cases e2 : (k - 1) / 2 = j
      · rw [if_pos e2]
        exact h.2 k h1 h2 e2 (by omega)
      · rw [if_neg e2]
        by_cases e3 : (k - 1) / 2 = (j - 1) / 2
        · rw [if_pos e3]
          have := h.1 k h1 h2 e
          rw [e3] at this
          omega
        · rw [if_neg e3]
          exact h.1 k h1 h2 e
  · intro k h1 h2 h3 h4
    rw [swapL_len] at h2
    rw [swapL_get _ _ _ _ hp hj, swapL_get _ _ _ _ hp hj]
    have a1 : ((j - 1) / 2 - 1) / 2 ≠ j := by omega
    have a2 : ((j - 1) / 2 - 1) / 2 ≠ (j - 1) / 2 := by omega
    have a3 : k ≠ (j - 1) / 2 := by omega
    rw [if_neg a1, if_neg a2, if_neg a3]
    have hpp := h.1 ((j - 1) / 2) h4 hp (by omega)
    by_cases e : k = j
    · rw [if_pos e]; exact hpp
    · rw [if_neg e]
      have := h.1 k h1 h2 e
      rw [h3] at this
      omega
set_option maxRecDepth 100000 in
set_option maxHeartbeats 4000000 in
theorem hup (w : World) (base hb : Nat) (A : Option Addr) (xs : List Int) (c : Nat) (j : Nat) (hj : j < xs.length) (hl : xs.length ≤ 1000000) (h : HeapM w base hb A xs c) (hU : UpI xs j) :
    Calls Try.prog 120 #[hif hb, .int .i64 (j : Int)] w fun e w' => e = .returned (.tuple #[]) ∧ ∃ ys, ys.Perm xs ∧ HpF ys 0 ys.length ∧ HeapM w' base hb A ys c ∧ Upd (Own (.slice A xs.length c)) w w' := by
  unfold hif
  go_enter Try.func120, Try.ntmps120
  go_wp2
  go_loopg [1] j (fun gk vj wr => ∃ ys, vj = .int .i64 (gk : Int) ∧ gk < xs.length ∧ Hid (ys.length = xs.length ∧ ys.Perm xs ∧ UpI ys gk) ∧ HeapM wr base hb A ys c ∧ Upd (Own (.slice A xs.length c)) w wr)
  case atStart => exact ⟨xs, rfl, hj, Lib.hid ⟨rfl, List.Perm.refl _, hU⟩, h, Upd.refl _ _⟩
  case round =>
    obtain ⟨ys, rfl, hg, hY, hH, hu⟩ := hrel
    have hm := hH.mLess
    rcases Nat.eq_zero_or_pos gk with rfl | hpos
    · go_wp2
      go_end0
      exact ⟨rfl, ys, hY.out.2.1, up_end ys 0 hY.out.2.2 (Or.inl rfl), hH, hu⟩
    · obtain ⟨p, hp⟩ : ∃ p, (gk - 1) / 2 = p := ⟨_, rfl⟩
      have hq : ((gk : Int) - 1).tdiv 2 = (p : Int) := by rw [Int.tdiv_eq_ediv_of_nonneg (by omega)]; omega
      have hpi : (((p : Nat) : Int) == (gk : Int)) = false := by rw [beq_eq_false_iff_ne]; omega
      have hw : RowKit.wrap64 (p : Int) = (p : Int) := IntWalk.wrap64_in _ (by omega)
      have hyl := hY.out.1
      have hpl : p < ys.length := by omega
      have hgl : gk < ys.length := by omega
      have HL := Lib.hid (hH.less (by omega) hgl hpl)
      have HP := Lib.hid hp
      clear hp hpl hyl
      go_wp2_with fail
      obtain ⟨b, hb⟩ : ∃ b, decide (ys.getD gk 0 < ys.getD p 0) = b := ⟨_, rfl⟩
      rw [hb] at HL
      have HB := Lib.hid hb
      clear hb
      refine Calls.mono HL.out ?_
      rintro e w2 ⟨rfl, hH2, hu2⟩
      have hm2 := hH2.mSwap
      have HY := Lib.hid hY.out.1
      have HS := Lib.hid (hH2.swap (by have := HY.out; omega) (i := p) (j := gk) (by have := HP.out; have := HY.out; omega) hgl)
      cases b with
      | true =>
        go_wp2_with fail
        refine Calls.mono HS.out ?_
        rintro e w3 ⟨rfl, hH3, hu3⟩
        go_wp2
        trace_state
        go_roundg p
        case measure => have := HP.out; omega
        case rel =>
          have hlt : ys.getD gk 0 < ys.getD p 0 := of_decide_eq_true HB.out
          have hpg : p < gk := by have := HP.out; omega
          have hpe := HP.out
          refine ⟨swapL ys p gk, rfl, by omega, Lib.hid ⟨by rw [swapL_len]; exact HY.out, (swapL_perm ys p gk (by omega) hgl).trans hY.out.2.1, ?_⟩, hH3, (hu.trans (hu2.mono (fun _ _ e => e.elim))).trans (hu3.mono (fun _ _ e => ?_))⟩
          · rw [← hpe] at hlt ⊢
            exact up_step ys gk hgl hY.out.2.2 hpos hlt
          · rw [HY.out] at e
            exact e
      | false =>
        go_wp2
        go_end0
        exact ⟨rfl, ys, hY.out.2.1, up_end ys gk hY.out.2.2 (Or.inr (by rw [HP.out]; have := of_decide_eq_false HB.out; omega)), hH2, hu.trans (hu2.mono (fun _ _ e => e.elim))⟩
end Go.Proofs.Ytaicemjckagcaaa
