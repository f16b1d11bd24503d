/- Orders: the heap's own functions. -/
import Derived.Test.YtaicemjckagcaaaMbo
namespace Go.Proofs.Ytaicemjckagcaaa
set_option linter.unusedVariables false
open Go.RowKit
/-- the heap's handle -/
def hif (hb : Nat) : Value := .iface 97 (.pointer (some ⟨hb, 0, none⟩))
/-- a heap in memory: its handle's one cell, and its row -/
def HeapM (w : World) (base hb : Nat) (A : Option Addr) (xs : List Int) (c : Nat) : Prop :=
  Blk w hb 95 [.slice A xs.length c] ∧ w.ownsRow base 3 1 (.slice A xs.length c) xs.length (xs.map (Value.int .i64)) ∧ ¬ Own (.slice A xs.length c) hb
theorem HeapM.ints {w : World} {base hb : Nat} {A : Option Addr} {xs : List Int} {c : Nat} (h : HeapM w base hb A xs c) : Ints (fun i => base ≤ i) w A xs := Ints.of_own h.2.1
theorem HeapM.cell {w : World} {base hb : Nat} {A : Option Addr} {xs : List Int} {c : Nat} (h : HeapM w base hb A xs c) : w.cell? ⟨hb, 0, none⟩ = some (.slice A xs.length c) := by simpa using h.1.cell 0
theorem HeapM.upd {w w' : World} {base hb : Nat} {A : Option Addr} {xs : List Int} {c : Nat} (h : HeapM w base hb A xs c) (u : Upd No w w') : HeapM w' base hb A xs c := ⟨h.1.upd u id, own_upd h.2.1 u (fun _ _ => id), h.2.2⟩
theorem HeapM.mLen {w : World} {base hb : Nat} {A : Option Addr} {xs : List Int} {c : Nat} (h : HeapM w base hb A xs c) : (method 412 97 (.pointer (some ⟨hb, 0, none⟩)) "Len").run Try.prog w = .ok (57, .slice A xs.length c) w := m_len _ _ _ _ _ h.cell
theorem HeapM.mLess {w : World} {base hb : Nat} {A : Option Addr} {xs : List Int} {c : Nat} (h : HeapM w base hb A xs c) : (method 412 97 (.pointer (some ⟨hb, 0, none⟩)) "Less").run Try.prog w = .ok (265, .slice A xs.length c) w := m_less _ _ _ _ _ h.cell
theorem HeapM.mSwap {w : World} {base hb : Nat} {A : Option Addr} {xs : List Int} {c : Nat} (h : HeapM w base hb A xs c) : (method 412 97 (.pointer (some ⟨hb, 0, none⟩)) "Swap").run Try.prog w = .ok (266, .slice A xs.length c) w := m_swap _ _ _ _ _ h.cell
theorem HeapM.swap {w : World} {base hb : Nat} {A : Option Addr} {xs : List Int} {c : Nat} (h : HeapM w base hb A xs c) (hl : xs.length ≤ 1000000) {i j : Nat} (hi : i < xs.length) (hj : j < xs.length) :
    Calls Try.prog 266 #[.slice A xs.length c, .int .i64 (i : Int), .int .i64 (j : Int)] w fun e w' => e = .returned (.tuple #[]) ∧ HeapM w' base hb A (swapL xs i j) c ∧ Upd (Own (.slice A xs.length c)) w w' := by
  refine Calls.mono (rdswap w base A c xs i j h.2.1 hi hj hl) ?_
  rintro e w' ⟨rfl, ho, hu⟩
  have hs := swapL_len xs i j
  refine ⟨rfl, ⟨?_, ?_, ?_⟩, hu⟩
  · rw [hs]; exact h.1.upd hu h.2.2
  · rw [hs]; exact ho
  · rw [hs]; exact h.2.2
theorem HeapM.less {w : World} {base hb : Nat} {A : Option Addr} {xs : List Int} {c : Nat} (h : HeapM w base hb A xs c) (hl : xs.length ≤ 1000000) {i j : Nat} (hi : i < xs.length) (hj : j < xs.length) :
    Calls Try.prog 265 #[.slice A xs.length c, .int .i64 (i : Int), .int .i64 (j : Int)] w fun e w' => e = .returned (.bool (decide (xs.getD i 0 < xs.getD j 0))) ∧ HeapM w' base hb A xs c ∧ Upd No w w' := by
  refine Calls.mono (rdless _ w A c xs i j h.ints hi hj hl) ?_
  rintro e w' ⟨rfl, hu⟩
  refine ⟨?_, h.upd hu, hu⟩
  simp [List.getD, hi, hj]
/-- each place but the one is not less than the one ahead of it, and what is behind that one not less than what is ahead of it -/
def UpI (xs : List Int) (j : Nat) : Prop :=
  (∀ k, 1 ≤ k → k < xs.length → k ≠ j → xs.getD ((k - 1) / 2) 0 ≤ xs.getD k 0) ∧ (∀ k, 1 ≤ k → k < xs.length → (k - 1) / 2 = j → 1 ≤ j → xs.getD ((j - 1) / 2) 0 ≤ xs.getD k 0)
/-- a heap from a place on, of so many -/
def HpF (xs : List Int) (lo n : Nat) : Prop := ∀ k, 1 ≤ k → k < n → lo ≤ (k - 1) / 2 → xs.getD ((k - 1) / 2) 0 ≤ xs.getD k 0
theorem swapL_get (xs : List Int) (i j k : Nat) (hi : i < xs.length) (hj : j < xs.length) : (swapL xs i j).getD k 0 = if k = j then xs.getD i 0 else if k = i then xs.getD j 0 else xs.getD k 0 := by
  unfold swapL
  simp only [List.getD_eq_getElem?_getD, List.getElem?_set, List.length_set]
  grind
theorem swapL_perm (xs : List Int) (i j : Nat) (hi : i < xs.length) (hj : j < xs.length) : (swapL xs i j).Perm xs := by
  rw [List.perm_iff_count]
  intro a
  unfold swapL
  rw [List.count_set, List.count_set] <;> grind
theorem up_end (xs : List Int) (j : Nat) (h : UpI xs j) (hs : j = 0 ∨ xs.getD ((j - 1) / 2) 0 ≤ xs.getD j 0) : HpF xs 0 xs.length := by
  intro k h1 h2 _
  by_cases e : k = j
  · subst e
    rcases hs with hs | hs
    · omega
    · exact hs
  · exact h.1 k h1 h2 e
theorem up_step (xs : List Int) (j : Nat) (hj : j < xs.length) (h : UpI xs j) (h0 : 0 < j) (hs : xs.getD j 0 < xs.getD ((j - 1) / 2) 0) : UpI (swapL xs ((j - 1) / 2) j) ((j - 1) / 2) := by
  have hp : (j - 1) / 2 < xs.length := by omega
  constructor
  · intro k h1 h2 h3
    rw [swapL_len] at h2
    rw [swapL_get _ _ _ _ hp hj, swapL_get _ _ _ _ hp hj]
    by_cases e : k = j
    · subst e
      have : (k - 1) / 2 ≠ k := by omega
      simp only [if_true, if_neg this]
      omega
    · rw [if_neg e, if_neg h3]
      by_cases e2 : (k - 1) / 2 = j
      · rw [if_pos e2]
        exact h.2 k h1 h2 e2 (by omega)
      · rw [if_neg e2]
        by_cases e3 : (k - 1) / 2 = (j - 1) / 2
        · rw [if_pos e3]
          have := h.1 k h1 h2 e
          rw [e3] at this
          omega
        · rw [if_neg e3]
          exact h.1 k h1 h2 e
  · intro k h1 h2 h3 h4
    rw [swapL_len] at h2
    rw [swapL_get _ _ _ _ hp hj, swapL_get _ _ _ _ hp hj]
    have a1 : ((j - 1) / 2 - 1) / 2 ≠ j := by omega
    have a2 : ((j - 1) / 2 - 1) / 2 ≠ (j - 1) / 2 := by omega
    have a3 : k ≠ (j - 1) / 2 := by omega
    rw [if_neg a1, if_neg a2, if_neg a3]
    have hpp := h.1 ((j - 1) / 2) h4 hp (by omega)
    by_cases e : k = j
    · rw [if_pos e]; exact hpp
    · rw [if_neg e]
      have := h.1 k h1 h2 e
      rw [h3] at this
      omega
set_option maxRecDepth 100000 in
set_option maxHeartbeats 4000000 in
theorem hup (w : World) (base hb : Nat) (A : Option Addr) (xs : List Int) (c : Nat) (j : Nat) (hj : j < xs.length) (hl : xs.length ≤ 1000000) (h : HeapM w base hb A xs c) (hU : UpI xs j) :
    Calls Try.prog 120 #[hif hb, .int .i64 (j : Int)] w fun e w' => e = .returned (.tuple #[]) ∧ ∃ ys, ys.Perm xs ∧ HpF ys 0 ys.length ∧ HeapM w' base hb A ys c ∧ Upd (Own (.slice A xs.length c)) w w' := by
  unfold hif
  go_enter Try.func120, Try.ntmps120
  go_wp2
  go_loopg [1] j (fun gk vj wr => ∃ ys, vj = .int .i64 (gk : Int) ∧ gk < xs.length ∧ Hid (ys.length = xs.length ∧ ys.Perm xs ∧ UpI ys gk) ∧ HeapM wr base hb A ys c ∧ Upd (Own (.slice A xs.length c)) w wr)
  case atStart => exact ⟨xs, rfl, hj, Lib.hid ⟨rfl, List.Perm.refl _, hU⟩, h, Upd.refl _ _⟩
  case round =>
    obtain ⟨ys, rfl, hg, hY, hH, hu⟩ := hrel
    have hm := hH.mLess
    rcases Nat.eq_zero_or_pos gk with rfl | hpos
    · go_wp2
      go_end0
      exact ⟨rfl, ys, hY.out.2.1, up_end ys 0 hY.out.2.2 (Or.inl rfl), hH, hu⟩
    · obtain ⟨p, hp⟩ : ∃ p, (gk - 1) / 2 = p := ⟨_, rfl⟩
      have hq : ((gk : Int) - 1).tdiv 2 = (p : Int) := by rw [Int.tdiv_eq_ediv_of_nonneg (by omega)]; omega
      have hpi : (((p : Nat) : Int) == (gk : Int)) = false := by rw [beq_eq_false_iff_ne]; omega
      have hw : RowKit.wrap64 (p : Int) = (p : Int) := IntWalk.wrap64_in _ (by omega)
      have hyl := hY.out.1
      have hpl : p < ys.length := by omega
      have hgl : gk < ys.length := by omega
      have HL := Lib.hid (hH.less (by omega) hgl hpl)
      have HP := Lib.hid hp
      clear hp hpl hyl
      go_wp2_with fail
      obtain ⟨b, hb⟩ : ∃ b, decide (ys.getD gk 0 < ys.getD p 0) = b := ⟨_, rfl⟩
      rw [hb] at HL
      have HB := Lib.hid hb
      clear hb
      refine Calls.mono HL.out ?_
      rintro e w2 ⟨rfl, hH2, hu2⟩
      have hm2 := hH2.mSwap
      have HY := Lib.hid hY.out.1
      have HS := Lib.hid (hH2.swap (by have := HY.out; omega) (i := p) (j := gk) (by have := HP.out; have := HY.out; omega) hgl)
      cases b with
      | true =>
        go_wp2_with fail
        refine Calls.mono HS.out ?_
        rintro e w3 ⟨rfl, hH3, hu3⟩
        go_wp2
        trace_state
        go_roundg p
        case measure => have := HP.out; omega
        case rel =>
          have hlt : ys.getD gk 0 < ys.getD p 0 := of_decide_eq_true HB.out
          have hpg : p < gk := by have := HP.out; omega
          have hpe := HP.out
          refine ⟨swapL ys p gk, rfl, by omega, Lib.hid ⟨by rw [swapL_len]; exact HY.out, (swapL_perm ys p gk (by omega) hgl).trans hY.out.2.1, ?_⟩, hH3, (hu.trans (hu2.mono (fun _ _ e => e.elim))).trans (hu3.mono (fun _ _ e => ?_))⟩
          · rw [← hpe] at hlt ⊢
            exact up_step ys gk hgl hY.out.2.2 hpos hlt
          · rw [HY.out] at e
            exact e
      | false =>
        go_wp2
        go_end0
        exact ⟨rfl, ys, hY.out.2.1, up_end ys gk hY.out.2.2 (Or.inr (by rw [HP.out]; have := of_decide_eq_false HB.out; omega)), hH2, hu.trans (hu2.mono (fun _ _ e => e.elim))⟩
end Go.Proofs.Ytaicemjckagcaaa

/- Orders: heap.down. -/
namespace Go.Proofs.Ytaicemjckagcaaa
set_option linter.unusedVariables false
open Go.RowKit
/-- the same from a place on -/
def SameFrom (ys xs : List Int) (n : Nat) : Prop := ∀ k, n ≤ k → ys.getD k 0 = xs.getD k 0
/-- all but at one place -/
def DownI (xs : List Int) (lo n i : Nat) : Prop :=
  (∀ k, 1 ≤ k → k < n → lo ≤ (k - 1) / 2 → (k - 1) / 2 ≠ i → xs.getD ((k - 1) / 2) 0 ≤ xs.getD k 0) ∧ (∀ k, 1 ≤ k → k < n → (k - 1) / 2 = i → 1 ≤ i → lo ≤ (i - 1) / 2 → xs.getD ((i - 1) / 2) 0 ≤ xs.getD k 0)
theorem down_end (xs : List Int) (lo n i : Nat) (h : DownI xs lo n i) (hs : ∀ k, 1 ≤ k → k < n → (k - 1) / 2 = i → xs.getD i 0 ≤ xs.getD k 0) : HpF xs lo n := by
  intro k h1 h2 h3
  by_cases e : (k - 1) / 2 = i
  · rw [e]; exact hs k h1 h2 e
  · exact h.1 k h1 h2 h3 e
theorem down_step (xs : List Int) (lo n i j : Nat) (hn : n ≤ xs.length) (hj : j < n) (h : DownI xs lo n i) (h1j : 1 ≤ j) (hij : (j - 1) / 2 = i) (hlt : xs.getD j 0 < xs.getD i 0) (hle : ∀ k, 1 ≤ k → k < n → (k - 1) / 2 = i → xs.getD j 0 ≤ xs.getD k 0) : DownI (swapL xs i j) lo n j := by
  have hi : i < xs.length := by omega
  have hjl : j < xs.length := by omega
  have hne : i ≠ j := by omega
  constructor
  · intro k h1 h2 h3 h4
    rw [swapL_get _ _ _ _ hi hjl, swapL_get _ _ _ _ hi hjl, if_neg h4]
    by_cases e : k = j
    · subst e
      rw [if_pos hij, if_pos rfl]; omega
    · rw [if_neg e]
      by_cases e2 : (k - 1) / 2 = i
      · have e3 : k ≠ i := by omega
        rw [if_pos e2, if_neg e3]
        exact hle k h1 h2 e2
      · rw [if_neg e2]
        by_cases e3 : k = i
        · subst e3
          rw [if_pos rfl]
          exact h.2 j h1j hj hij h1 h3
        · rw [if_neg e3]
          exact h.1 k h1 h2 h3 e2
  · intro k h1 h2 h3 h4 h5
    rw [swapL_get _ _ _ _ hi hjl, swapL_get _ _ _ _ hi hjl, hij]
    have e1 : k ≠ j := by omega
    have e2 : k ≠ i := by omega
    rw [if_neg hne, if_pos rfl, if_neg e1, if_neg e2]
    have := h.1 k h1 h2 (by omega) (by omega)
    rw [h3] at this
    exact this
set_option maxRecDepth 100000 in
set_option maxHeartbeats 4000000 in
theorem hdown (w : World) (base hb : Nat) (A : Option Addr) (xs : List Int) (c : Nat) (lo n : Nat) (hn : n ≤ xs.length) (hlo : lo ≤ 1000000) (hl : xs.length ≤ 1000000) (h : HeapM w base hb A xs c) (hD : DownI xs lo n lo) :
    Calls Try.prog 119 #[hif hb, .int .i64 (lo : Int), .int .i64 (n : Int)] w fun e w' => ∃ b ys, e = .returned (.bool b) ∧ ys.Perm xs ∧ HpF ys lo n ∧ SameFrom ys xs n ∧ HeapM w' base hb A ys c ∧ Upd (Own (.slice A xs.length c)) w w' := by
  unfold hif
  go_enter Try.func119, Try.ntmps119
  go_wp2
  go_loopg [7] n (fun gk vi wr => ∃ i ys, vi = .int .i64 (i : Nat) ∧ gk + i = lo + n ∧ lo ≤ i ∧ (i = lo ∨ i < n) ∧ Hid (ys.length = xs.length ∧ ys.Perm xs ∧ DownI ys lo n i ∧ SameFrom ys xs n) ∧ HeapM wr base hb A ys c ∧ Upd (Own (.slice A xs.length c)) w wr)
  case atStart => exact ⟨lo, xs, rfl, by omega, Nat.le_refl _, Or.inl rfl, Lib.hid ⟨rfl, List.Perm.refl _, hD, fun _ _ => rfl⟩, h, Upd.refl _ _⟩
  case round =>
    obtain ⟨i, ys, rfl, hgk, hloi, hin, HY, hH, hu⟩ := hrel
    obtain ⟨p, hp⟩ : ∃ p : Nat, p = 2 * i + 1 := ⟨_, rfl⟩
    obtain ⟨q, hq⟩ : ∃ q : Nat, q = 2 * i + 2 := ⟨_, rfl⟩
    have ep : Hid ((p : Int) = 2 * (i : Int) + 1) := Lib.hid (by omega)
    have eq : Hid ((q : Int) = 2 * (i : Int) + 1 + 1) := Lib.hid (by omega)
    have i1 : (0 : Int) ≤ (i : Int) := Int.natCast_nonneg _
    have i2 : (i : Int) ≤ 1000000 := by omega
    have HU := Lib.hid hu
    clear hu
    by_cases hpn : p < n
    · have c1 : 2 * (i : Int) + 1 < (n : Int) := by omega
      by_cases hqn : q < n
      · have c2 : 2 * (i : Int) + 1 + 1 < (n : Int) := by omega
        obtain ⟨b1, hb1⟩ : ∃ b, decide (ys.getD q 0 < ys.getD p 0) = b := ⟨_, rfl⟩
        have HL := Lib.hid (hH.less (by have := HY.out.1; omega) (i := q) (j := p) (by have := HY.out.1; omega) (by have := HY.out.1; omega))
        rw [hb1, ep.out, eq.out] at HL
        have HB1 := Lib.hid hb1
        have hm := hH.mLess
        clear hb1
        go_wp2_with fail
        refine Calls.mono HL.out ?_
        rintro e w2 ⟨rfl, hH2, hu2⟩
        have HU2 := Lib.hid (HU.out.trans (show Upd (Own (.slice A xs.length c)) wr w2 from hu2.mono (fun _ _ e => e.elim)))
        cases b1 with
        | true =>
          have HLE : Hid (∀ k, 1 ≤ k → k < n → (k - 1) / 2 = i → ys.getD q 0 ≤ ys.getD k 0) := Lib.hid (fun k h1 h2 h3 => by
            have := of_decide_eq_true HB1.out
            rcases (show k = p ∨ k = q by omega) with rfl | rfl <;> omega)
          obtain ⟨b, hb⟩ : ∃ b, decide (ys.getD q 0 < ys.getD i 0) = b := ⟨_, rfl⟩
          have HL2 := Lib.hid (hH2.less (by have := HY.out.1; omega) (i := q) (j := i) (by have := HY.out.1; omega) (by have := HY.out.1; omega))
          rw [hb, eq.out] at HL2
          have HB := Lib.hid hb
          have hm2 := hH2.mLess
          clear hb
          go_wp2_with fail
          refine Calls.mono HL2.out ?_
          rintro e w3 ⟨rfl, hH3, hu3⟩
          have HU3 := Lib.hid (HU2.out.trans (show Upd (Own (.slice A xs.length c)) _ w3 from hu3.mono (fun _ _ e => e.elim)))
          cases b with
          | false =>
            go_wp2
            go_ret
            exact ⟨_, ys, rfl, HY.out.2.1, down_end ys lo n i HY.out.2.2.1 (fun k h1 h2 h3 => by have a1 := HLE.out k h1 h2 h3; have := of_decide_eq_false HB.out; omega), HY.out.2.2.2, hH3, HU3.out⟩
          | true =>
            have HS := Lib.hid (hH3.swap (by have := HY.out.1; omega) (i := i) (j := q) (by have := HY.out.1; omega) (by have := HY.out.1; omega))
            rw [eq.out] at HS
            have hm3 := hH3.mSwap
            go_wp2_with fail
            refine Calls.mono HS.out ?_
            rintro e w4 ⟨rfl, hH4, hu4⟩
            go_wp2
            go_roundg (lo + n - q)
            case measure => omega
            case rel =>
              have hlt := of_decide_eq_true HB.out
              have hyl := HY.out.1
              refine ⟨q, swapL ys i q, by rw [eq.out], by omega, by omega, Or.inr (by omega), Lib.hid ⟨by rw [swapL_len]; exact hyl, (swapL_perm ys i q (by omega) (by omega)).trans HY.out.2.1, down_step ys lo n i q (by omega) (by omega) HY.out.2.2.1 (by omega) (by omega) hlt HLE.out, fun k hk => ?_⟩, hH4, HU3.out.trans (hu4.mono (fun _ _ e => ?_))⟩
              · rw [swapL_get _ _ _ _ (by omega) (by omega), if_neg (by omega), if_neg (by omega)]
                exact HY.out.2.2.2 k hk
              · rw [hyl] at e
                exact e
        | false =>
          have HLE : Hid (∀ k, 1 ≤ k → k < n → (k - 1) / 2 = i → ys.getD p 0 ≤ ys.getD k 0) := Lib.hid (fun k h1 h2 h3 => by
            have := of_decide_eq_false HB1.out
            rcases (show k = p ∨ k = q by omega) with rfl | rfl <;> omega)
          obtain ⟨b, hb⟩ : ∃ b, decide (ys.getD p 0 < ys.getD i 0) = b := ⟨_, rfl⟩
          have HL2 := Lib.hid (hH2.less (by have := HY.out.1; omega) (i := p) (j := i) (by have := HY.out.1; omega) (by have := HY.out.1; omega))
          rw [hb, ep.out] at HL2
          have HB := Lib.hid hb
          have hm2 := hH2.mLess
          clear hb
          go_wp2_with fail
          refine Calls.mono HL2.out ?_
          rintro e w3 ⟨rfl, hH3, hu3⟩
          have HU3 := Lib.hid (HU2.out.trans (show Upd (Own (.slice A xs.length c)) _ w3 from hu3.mono (fun _ _ e => e.elim)))
          cases b with
          | false =>
            go_wp2
            go_ret
            exact ⟨_, ys, rfl, HY.out.2.1, down_end ys lo n i HY.out.2.2.1 (fun k h1 h2 h3 => by have a1 := HLE.out k h1 h2 h3; have := of_decide_eq_false HB.out; omega), HY.out.2.2.2, hH3, HU3.out⟩
          | true =>
            have HS := Lib.hid (hH3.swap (by have := HY.out.1; omega) (i := i) (j := p) (by have := HY.out.1; omega) (by have := HY.out.1; omega))
            rw [ep.out] at HS
            have hm3 := hH3.mSwap
            go_wp2_with fail
            refine Calls.mono HS.out ?_
            rintro e w4 ⟨rfl, hH4, hu4⟩
            go_wp2
            go_roundg (lo + n - p)
            case measure => omega
            case rel =>
              have hlt := of_decide_eq_true HB.out
              have hyl := HY.out.1
              refine ⟨p, swapL ys i p, by rw [ep.out], by omega, by omega, Or.inr (by omega), Lib.hid ⟨by rw [swapL_len]; exact hyl, (swapL_perm ys i p (by omega) (by omega)).trans HY.out.2.1, down_step ys lo n i p (by omega) (by omega) HY.out.2.2.1 (by omega) (by omega) hlt HLE.out, fun k hk => ?_⟩, hH4, HU3.out.trans (hu4.mono (fun _ _ e => ?_))⟩
              · rw [swapL_get _ _ _ _ (by omega) (by omega), if_neg (by omega), if_neg (by omega)]
                exact HY.out.2.2.2 k hk
              · rw [hyl] at e
                exact e
      · have c2 : ¬ 2 * (i : Int) + 1 + 1 < (n : Int) := by omega
        have HLE : Hid (∀ k, 1 ≤ k → k < n → (k - 1) / 2 = i → ys.getD p 0 ≤ ys.getD k 0) := Lib.hid (fun k h1 h2 h3 => by
          obtain rfl : k = p := by omega
          omega)
        obtain ⟨b, hb⟩ : ∃ b, decide (ys.getD p 0 < ys.getD i 0) = b := ⟨_, rfl⟩
        have HL2 := Lib.hid (hH.less (by have := HY.out.1; omega) (i := p) (j := i) (by have := HY.out.1; omega) (by have := HY.out.1; omega))
        rw [hb, ep.out] at HL2
        have HB := Lib.hid hb
        have hm2 := hH.mLess
        clear hb
        go_wp2_with fail
        refine Calls.mono HL2.out ?_
        rintro e w3 ⟨rfl, hH3, hu3⟩
        have HU3 := Lib.hid (HU.out.trans (show Upd (Own (.slice A xs.length c)) _ w3 from hu3.mono (fun _ _ e => e.elim)))
        cases b with
        | false =>
          go_wp2
          go_ret
          exact ⟨_, ys, rfl, HY.out.2.1, down_end ys lo n i HY.out.2.2.1 (fun k h1 h2 h3 => by have a1 := HLE.out k h1 h2 h3; have := of_decide_eq_false HB.out; omega), HY.out.2.2.2, hH3, HU3.out⟩
        | true =>
          have HS := Lib.hid (hH3.swap (by have := HY.out.1; omega) (i := i) (j := p) (by have := HY.out.1; omega) (by have := HY.out.1; omega))
          rw [ep.out] at HS
          have hm3 := hH3.mSwap
          go_wp2_with fail
          refine Calls.mono HS.out ?_
          rintro e w4 ⟨rfl, hH4, hu4⟩
          go_wp2
          go_roundg (lo + n - p)
          case measure => omega
          case rel =>
            have hlt := of_decide_eq_true HB.out
            have hyl := HY.out.1
            refine ⟨p, swapL ys i p, by rw [ep.out], by omega, by omega, Or.inr (by omega), Lib.hid ⟨by rw [swapL_len]; exact hyl, (swapL_perm ys i p (by omega) (by omega)).trans HY.out.2.1, down_step ys lo n i p (by omega) (by omega) HY.out.2.2.1 (by omega) (by omega) hlt HLE.out, fun k hk => ?_⟩, hH4, HU3.out.trans (hu4.mono (fun _ _ e => ?_))⟩
            · rw [swapL_get _ _ _ _ (by omega) (by omega), if_neg (by omega), if_neg (by omega)]
              exact HY.out.2.2.2 k hk
            · rw [hyl] at e
              exact e
    · have c1 : ¬ 2 * (i : Int) + 1 < (n : Int) := by omega
      go_wp2
      go_ret
      refine ⟨?_, ys, HY.out.2.1, down_end ys lo n i HY.out.2.2.1 (fun k h1 h2 h3 => by omega), HY.out.2.2.2, hH, HU.out⟩
      show Ending.returned (.bool (decide (lo < i))) = _ ∨ Ending.returned (.bool (decide (lo < i))) = _
      cases decide (lo < i) <;> simp
end Go.Proofs.Ytaicemjckagcaaa
