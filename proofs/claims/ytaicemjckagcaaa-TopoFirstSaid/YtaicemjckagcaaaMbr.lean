/- Orders: heap.down. -/
import Derived.Test.YtaicemjckagcaaaMbq
namespace Go.Proofs.Ytaicemjckagcaaa
set_option linter.unusedVariables false
open Go.RowKit
/-- the same from a place on -/
def SameFrom (ys xs : List Int) (n : Nat) : Prop := ∀ k, n ≤ k → ys.getD k 0 = xs.getD k 0
/-- all but at one place -/
def DownI (xs : List Int) (lo n i : Nat) : Prop :=
  (∀ k, 1 ≤ k → k < n → lo ≤ (k - 1) / 2 → (k - 1) / 2 ≠ i → xs.getD ((k - 1) / 2) 0 ≤ xs.getD k 0) ∧ (∀ k, 1 ≤ k → k < n → (k - 1) / 2 = i → 1 ≤ i → lo ≤ (i - 1) / 2 → xs.getD ((i - 1) / 2) 0 ≤ xs.getD k 0)
theorem down_end (xs : List Int) (lo n i : Nat) (h : DownI xs lo n i) (hs : ∀ k, 1 ≤ k → k < n → (k - 1) / 2 = i → xs.getD i 0 ≤ xs.getD k 0) : HpF xs lo n := by
  intro k h1 h2 h3
  by_cases e : (k - 1) / 2 = i
  · rw [e]; exact hs k h1 h2 e
  · exact h.1 k h1 h2 h3 e
theorem down_step (xs : List Int) (lo n i j : Nat) (hn : n ≤ xs.length) (hj : j < n) (h : DownI xs lo n i) (h1j : 1 ≤ j) (hij : (j - 1) / 2 = i) (hlt : xs.getD j 0 < xs.getD i 0) (hle : ∀ k, 1 ≤ k → k < n → (k - 1) / 2 = i → xs.getD j 0 ≤ xs.getD k 0) : DownI (swapL xs i j) lo n j := by
  have hi : i < xs.length := by omega
  have hjl : j < xs.length := by omega
  have hne : i ≠ j := by omega
  constructor
  · intro k h1 h2 h3 h4
    rw [swapL_get _ _ _ _ hi hjl, swapL_get _ _ _ _ hi hjl, if_neg h4]
    by_cases e : k = j
    · subst e
      rw [if_pos hij, if_pos rfl]; omega
    · rw [if_neg e]
      by_cases e2 : (k - 1) / 2 = i
      · have e3 : k ≠ i := by omega
        rw [if_pos e2, if_neg e3]
        exact hle k h1 h2 e2
      · rw [if_neg e2]
        by_cases e3 : k = i
        · subst e3
          rw [if_pos rfl]
          exact h.2 j h1j hj hij h1 h3
        · rw [if_neg e3]
          exact h.1 k h1 h2 h3 e2
  · intro k h1 h2 h3 h4 h5
    rw [swapL_get _ _ _ _ hi hjl, swapL_get _ _ _ _ hi hjl, hij]
    have e1 : k ≠ j := by omega
    have e2 : k ≠ i := by omega
    rw [if_neg hne, if_pos rfl, if_neg e1, if_neg e2]
    have := h.1 k h1 h2 (by omega) (by omega)
    rw [h3] at this
    exact this
set_option maxRecDepth 100000 in
set_option maxHeartbeats 4000000 in
theorem hdown (w : World) (base hb : Nat) (A : Option Addr) (xs : List Int) (c : Nat) (lo n : Nat) (hn : n ≤ xs.length) (hlo : lo ≤ 1000000) (hl : xs.length ≤ 1000000) (h : HeapM w base hb A xs c) (hD : DownI xs lo n lo) :
    Calls Try.prog 119 #[hif hb, .int .i64 (lo : Int), .int .i64 (n : Int)] w fun e w' => ∃ b ys, e = .returned (.bool b) ∧ ys.Perm xs ∧ HpF ys lo n ∧ SameFrom ys xs n ∧ HeapM w' base hb A ys c ∧ Upd (Own (.slice A xs.length c)) w w' := by
  unfold hif
  go_enter Try.func119, Try.ntmps119
  go_wp2
  go_loopg [7] n (fun gk vi wr => ∃ i ys, vi = .int .i64 (i : Nat) ∧ gk + i = lo + n ∧ lo ≤ i ∧ (i = lo ∨ i < n) ∧ Hid (ys.length = xs.length ∧ ys.Perm xs ∧ DownI ys lo n i ∧ SameFrom ys xs n) ∧ HeapM wr base hb A ys c ∧ Upd (Own (.slice A xs.length c)) w wr)
  case atStart => exact ⟨lo, xs, rfl, by omega, Nat.le_refl _, Or.inl rfl, Lib.hid ⟨rfl, List.Perm.refl _, hD, fun _ _ => rfl⟩, h, Upd.refl _ _⟩
  case round =>
    obtain ⟨i, ys, rfl, hgk, hloi, hin, HY, hH, hu⟩ := hrel
    obtain ⟨p, hp⟩ : ∃ p : Nat, p = 2 * i + 1 := ⟨_, rfl⟩
    obtain ⟨q, hq⟩ : ∃ q : Nat, q = 2 * i + 2 := ⟨_, rfl⟩
    have ep : Hid ((p : Int) = 2 * (i : Int) + 1) := Lib.hid (by omega)
    have eq : Hid ((q : Int) = 2 * (i : Int) + 1 + 1) := Lib.hid (by omega)
    have i1 : (0 : Int) ≤ (i : Int) := Int.natCast_nonneg _
    have i2 : (i : Int) ≤ 1000000 := by omega
    have HU := Lib.hid hu
    clear hu
    by_cases hpn : p < n
    · have c1 : 2 * (i : Int) + 1 < (n : Int) := by omega
      by_cases hqn : q < n
      · have c2 : 2 * (i : Int) + 1 + 1 < (n : Int) := by omega
        obtain ⟨b1, hb1⟩ : ∃ b, decide (ys.getD q 0 < ys.getD p 0) = b := ⟨_, rfl⟩
        have HL := Lib.hid (hH.less (by have := HY.out.1; omega) (i := q) (j := p) (by have := HY.out.1; omega) (by have := HY.out.1; omega))
        rw [hb1, ep.out, eq.out] at HL
        have HB1 := Lib.hid hb1
        have hm := hH.mLess
        clear hb1
        go_wp2_with fail
        refine Calls.mono HL.out ?_
        rintro e w2 ⟨rfl, hH2, hu2⟩
        have HU2 := Lib.hid (HU.out.trans (show Upd (Own (.slice A xs.length c)) wr w2 from hu2.mono (fun _ _ e => e.elim)))
        cases b1 with
        | true =>
          have HLE : Hid (∀ k, 1 ≤ k → k < n → (k - 1) / 2 = i → ys.getD q 0 ≤ ys.getD k 0) := Lib.hid (fun k h1 h2 h3 => by
            have := of_decide_eq_true HB1.out
            rcases (show k = p ∨ k = q by omega) with rfl | rfl <;> omega)
          obtain ⟨b, hb⟩ : ∃ b, decide (ys.getD q 0 < ys.getD i 0) = b := ⟨_, rfl⟩
          have HL2 := Lib.hid (hH2.less (by have := HY.out.1; omega) (i := q) (j := i) (by have := HY.out.1; omega) (by have := HY.out.1; omega))
          rw [hb, eq.out] at HL2
          have HB := Lib.hid hb
          have hm2 := hH2.mLess
          clear hb
          go_wp2_with fail
          refine Calls.mono HL2.out ?_
          rintro e w3 ⟨rfl, hH3, hu3⟩
          have HU3 := Lib.hid (HU2.out.trans (show Upd (Own (.slice A xs.length c)) _ w3 from hu3.mono (fun _ _ e => e.elim)))
          cases b with
          | false =>
            go_wp2
            go_ret
            exact ⟨_, ys, rfl, HY.out.2.1, down_end ys lo n i HY.out.2.2.1 (fun k h1 h2 h3 => by have a1 := HLE.out k h1 h2 h3; have := of_decide_eq_false HB.out; omega), HY.out.2.2.2, hH3, HU3.out⟩
          | true =>
            have HS := Lib.hid (hH3.swap (by have := HY.out.1; omega) (i := i) (j := q) (by have := HY.out.1; omega) (by have := HY.out.1; omega))
            rw [eq.out] at HS
            have hm3 := hH3.mSwap
            go_wp2_with fail
            refine Calls.mono HS.out ?_
            rintro e w4 ⟨rfl, hH4, hu4⟩
            go_wp2
            go_roundg (lo + n - q)
            case measure => omega
            case rel =>
              have hlt := of_decide_eq_true HB.out
              have hyl := HY.out.1
              refine ⟨q, swapL ys i q, by rw [eq.out], by omega, by omega, Or.inr (by omega), Lib.hid ⟨by rw [swapL_len]; exact hyl, (swapL_perm ys i q (by omega) (by omega)).trans HY.out.2.1, down_step ys lo n i q (by omega) (by omega) HY.out.2.2.1 (by omega) (by omega) hlt HLE.out, fun k hk => ?_⟩, hH4, HU3.out.trans (hu4.mono (fun _ _ e => ?_))⟩
              · rw [swapL_get _ _ _ _ (by omega) (by omega), if_neg (by omega), if_neg (by omega)]
                exact HY.out.2.2.2 k hk
              · rw [hyl] at e
                exact e
        | false =>
          have HLE : Hid (∀ k, 1 ≤ k → k < n → (k - 1) / 2 = i → ys.getD p 0 ≤ ys.getD k 0) := Lib.hid (fun k h1 h2 h3 => by
            have := of_decide_eq_false HB1.out
            rcases (show k = p ∨ k = q by omega) with rfl | rfl <;> omega)
          obtain ⟨b, hb⟩ : ∃ b, decide (ys.getD p 0 < ys.getD i 0) = b := ⟨_, rfl⟩
          have HL2 := Lib.hid (hH2.less (by have := HY.out.1; omega) (i := p) (j := i) (by have := HY.out.1; omega) (by have := HY.out.1; omega))
          rw [hb, ep.out] at HL2
          have HB := Lib.hid hb
          have hm2 := hH2.mLess
          clear hb
          go_wp2_with fail
          refine Calls.mono HL2.out ?_
          rintro e w3 ⟨rfl, hH3, hu3⟩
          have HU3 := Lib.hid (HU2.out.trans (show Upd (Own (.slice A xs.length c)) _ w3 from hu3.mono (fun _ _ e => e.elim)))
          cases b with
          | false =>
            go_wp2
            go_ret
            exact ⟨_, ys, rfl, HY.out.2.1, down_end ys lo n i HY.out.2.2.1 (fun k h1 h2 h3 => by have a1 := HLE.out k h1 h2 h3; have := of_decide_eq_false HB.out; omega), HY.out.2.2.2, hH3, HU3.out⟩
          | true =>
            have HS := Lib.hid (hH3.swap (by have := HY.out.1; omega) (i := i) (j := p) (by have := HY.out.1; omega) (by have := HY.out.1; omega))
            rw [ep.out] at HS
            have hm3 := hH3.mSwap
            go_wp2_with fail
            refine Calls.mono HS.out ?_
            rintro e w4 ⟨rfl, hH4, hu4⟩
            go_wp2
            go_roundg (lo + n - p)
            case measure => omega
            case rel =>
              have hlt := of_decide_eq_true HB.out
              have hyl := HY.out.1
              refine ⟨p, swapL ys i p, by rw [ep.out], by omega, by omega, Or.inr (by omega), Lib.hid ⟨by rw [swapL_len]; exact hyl, (swapL_perm ys i p (by omega) (by omega)).trans HY.out.2.1, down_step ys lo n i p (by omega) (by omega) HY.out.2.2.1 (by omega) (by omega) hlt HLE.out, fun k hk => ?_⟩, hH4, HU3.out.trans (hu4.mono (fun _ _ e => ?_))⟩
              · rw [swapL_get _ _ _ _ (by omega) (by omega), if_neg (by omega), if_neg (by omega)]
                exact HY.out.2.2.2 k hk
              · rw [hyl] at e
                exact e
      · have c2 : ¬ 2 * (i : Int) + 1 + 1 < (n : Int) := by omega
        have HLE : Hid (∀ k, 1 ≤ k → k < n → (k - 1) / 2 = i → ys.getD p 0 ≤ ys.getD k 0) := Lib.hid (fun k h1 h2 h3 => by
          obtain rfl : k = p := by omega
          omega)
        obtain ⟨b, hb⟩ : ∃ b, decide (ys.getD p 0 < ys.getD i 0) = b := ⟨_, rfl⟩
        have HL2 := Lib.hid (hH.less (by have := HY.out.1; omega) (i := p) (j := i) (by have := HY.out.1; omega) (by have := HY.out.1; omega))
        rw [hb, ep.out] at HL2
        have HB := Lib.hid hb
        have hm2 := hH.mLess
        clear hb
        go_wp2_with fail
        refine Calls.mono HL2.out ?_
        rintro e w3 ⟨rfl, hH3, hu3⟩
        have HU3 := Lib.hid (HU.out.trans (show Upd (Own (.slice A xs.length c)) _ w3 from hu3.mono (fun _ _ e => e.elim)))
        cases b with
        | false =>
          go_wp2
          go_ret
          exact ⟨_, ys, rfl, HY.out.2.1, down_end ys lo n i HY.out.2.2.1 (fun k h1 h2 h3 => by have a1 := HLE.out k h1 h2 h3; have := of_decide_eq_false HB.out; omega), HY.out.2.2.2, hH3, HU3.out⟩
        | true =>
          have HS := Lib.hid (hH3.swap (by have := HY.out.1; omega) (i := i) (j := p) (by have := HY.out.1; omega) (by have := HY.out.1; omega))
          rw [ep.out] at HS
          have hm3 := hH3.mSwap
          go_wp2_with fail
          refine Calls.mono HS.out ?_
          rintro e w4 ⟨rfl, hH4, hu4⟩
          go_wp2
          go_roundg (lo + n - p)
          case measure => omega
          case rel =>
            have hlt := of_decide_eq_true HB.out
            have hyl := HY.out.1
            refine ⟨p, swapL ys i p, by rw [ep.out], by omega, by omega, Or.inr (by omega), Lib.hid ⟨by rw [swapL_len]; exact hyl, (swapL_perm ys i p (by omega) (by omega)).trans HY.out.2.1, down_step ys lo n i p (by omega) (by omega) HY.out.2.2.1 (by omega) (by omega) hlt HLE.out, fun k hk => ?_⟩, hH4, HU3.out.trans (hu4.mono (fun _ _ e => ?_))⟩
            · rw [swapL_get _ _ _ _ (by omega) (by omega), if_neg (by omega), if_neg (by omega)]
              exact HY.out.2.2.2 k hk
            · rw [hyl] at e
              exact e
    · have c1 : ¬ 2 * (i : Int) + 1 < (n : Int) := by omega
      go_wp2
      go_ret
      refine ⟨?_, ys, HY.out.2.1, down_end ys lo n i HY.out.2.2.1 (fun k h1 h2 h3 => by omega), HY.out.2.2.2, hH, HU.out⟩
      show Ending.returned (.bool (decide (lo < i))) = _ ∨ Ending.returned (.bool (decide (lo < i))) = _
      cases decide (lo < i) <;> simp
end Go.Proofs.Ytaicemjckagcaaa

/- Orders: heap.Init, and the heap's Push and Pop. -/
namespace Go.Proofs.Ytaicemjckagcaaa
set_option linter.unusedVariables false
open Go.RowKit
theorem HpF.down {xs : List Int} {lo n : Nat} (h : HpF xs (lo + 1) n) : DownI xs lo n lo :=
  ⟨fun k h1 h2 h3 h4 => h k h1 h2 (by omega), fun k h1 h2 h3 h4 h5 => by omega⟩
theorem HpF.half (xs : List Int) (n : Nat) : HpF xs (n / 2) n := fun k h1 h2 h3 => by omega
set_option maxRecDepth 100000 in
set_option maxHeartbeats 4000000 in
theorem hinit (w : World) (base hb : Nat) (A : Option Addr) (xs : List Int) (c : Nat) (hl : xs.length ≤ 1000000) (h : HeapM w base hb A xs c) :
    Calls Try.prog 56 #[hif hb] w fun e w' => e = .returned (.tuple #[]) ∧ ∃ ys, ys.Perm xs ∧ HpF ys 0 ys.length ∧ HeapM w' base hb A ys c ∧ Upd (Own (.slice A xs.length c)) w w' := by
  have hm := h.mLen
  obtain ⟨p, hp⟩ : ∃ p, xs.length / 2 = p := ⟨_, rfl⟩
  have hq : (xs.length : Int).tdiv 2 = (p : Int) := by rw [Int.tdiv_eq_ediv_of_nonneg (by omega)]; omega
  have hw : RowKit.wrap64 (p : Int) = (p : Int) := IntWalk.wrap64_in _ (by omega)
  have HP := Lib.hid hp
  have p2 : (p : Int) ≤ 1000000 := by omega
  have p1 : (0 : Int) ≤ (p : Int) := Int.natCast_nonneg _
  clear hp
  unfold hif
  go_enter Try.func56, Try.ntmps56
  go_wp2_with fail
  refine Calls.mono (rdlen w A xs.length c) ?_
  rintro e w1 ⟨rfl, rfl⟩
  go_wp2
  go_loopg [3] p (fun gk vi wr => ∃ ys, vi = .int .i64 ((gk : Int) - 1) ∧ gk ≤ p ∧ Hid (ys.length = xs.length ∧ ys.Perm xs ∧ HpF ys gk xs.length) ∧ HeapM wr base hb A ys c ∧ Upd (Own (.slice A xs.length c)) w wr)
  case atStart => exact ⟨xs, rfl, Nat.le_refl _, Lib.hid ⟨rfl, List.Perm.refl _, HP.out ▸ HpF.half xs xs.length⟩, h, Upd.refl _ _⟩
  case round =>
    obtain ⟨ys, rfl, hg, HY, hH, hu⟩ := hrel
    have HU := Lib.hid hu
    clear hu
    cases gk with
    | zero =>
      go_wp2
      go_end0
      exact ⟨rfl, ys, HY.out.2.1, by rw [HY.out.1]; exact HY.out.2.2, hH, HU.out⟩
    | succ g1 =>
      have HC := Lib.hid (hdown wr base hb A ys c g1 xs.length (by have := HY.out.1; omega) (by omega) (by have := HY.out.1; omega) hH HY.out.2.2.down)
      have g0 : (0 : Int) ≤ (g1 : Int) := Int.natCast_nonneg _
      have g2 : (((g1 + 1 : Nat) : Int) - 1) = (g1 : Int) := by omega
      have g3 : (g1 : Int) ≤ 1000000 := by omega
      rw [g2]
      clear g2
      unfold hif at HC
      go_wp2_with fail
      refine Calls.mono HC.out ?_
      rintro e w2 ⟨b, zs, rfl, z1, z2, z3, hH2, hu2⟩
      have HZ := Lib.hid (And.intro z1 z2)
      clear z1 z2 z3
      go_wp2
      go_roundg g1
      case measure => omega
      case rel =>
        have hyl := HY.out.1
        refine ⟨zs, rfl, by omega, Lib.hid ⟨HZ.out.1.length_eq.trans hyl, HZ.out.1.trans HY.out.2.1, HZ.out.2⟩, hH2, HU.out.trans (hu2.mono (fun _ _ e => ?_))⟩
        rw [hyl] at e
        exact e
theorem ta_int (x : Int) (t : Nat) (w : World) : (Instr.typeAssert (.iface 3 (.int .i64 x)) t 3 true).run Try.prog w = .ok (.tuple #[.int .i64 x, .bool true]) w := by kernel_rfl
set_option maxRecDepth 100000 in
set_option maxHeartbeats 4000000 in
theorem rdpush (w : World) (base hb : Nat) (A : Option Addr) (xs : List Int) (c : Nat) (x : Int) (hl : xs.length ≤ 1000000) (hbs : base ≤ w.heap.size) (h : HeapM w base hb A xs c) :
    Calls Try.prog 268 #[.pointer (some ⟨hb, 0, none⟩), .iface 3 (.int .i64 x)] w fun e w' => e = .returned (.tuple #[]) ∧ ∃ A' c', HeapM w' base hb A' (xs ++ [x]) c' ∧ Grew w (.slice A xs.length c) (.slice A' (xs ++ [x]).length c') ∧ Upd (fun i => i = hb ∨ Own (.slice A xs.length c) i) w w' := by
  have hc := h.cell
  have ht := fun t => ta_int x t w
  have HH := Lib.hid h
  have hsz : hb < w.heap.size := by have := h.1; unfold Blk at this; exact (Array.getElem?_eq_some_iff.1 this).1
  clear h
  go_enter Try.func268, Try.ntmps268
  go_wp2_with (at_builtin; refine app1 rfl rfl slt_ready (base := base) (v := .slice A xs.length c) (n := xs.length) (xs := xs.map (Value.int .i64)) (cells := [.int .i64 x]) rfl rfl HH.out.2.1 rfl rfl (by omega) (by omega) hbs ?_; intro v9 w9 hown9 hu9 hg9; obtain ⟨A9, c9, rfl⟩ := own_slice hown9; have hb9 := HH.out.1.upd hu9 HH.out.2.2; have hc9 := hb9.cell 0; have f9 := hb9.free 0; simp only [List.getElem?_cons_zero] at hc9; have HO9 := Lib.hid hown9; have HU9 := Lib.hid hu9; have HG9 := Lib.hid hg9; have HB9 := Lib.hid hb9; clear hown9 hu9 hg9 hb9)
  go_end0
  have hl1 : (xs ++ [x]).length = xs.length + 1 := by simp
  have hN : ¬ Own (.slice A9 (xs.length + 1) c9) hb := by
    intro e
    rcases HG9.out with h1 | ⟨k, h1, h2⟩
    · exact HH.out.2.2 (show _ = some hb by rw [← h1]; exact e)
    · unfold Own at e
      rw [h1] at e
      cases e
      omega
  have hu : Upd (One hb) w9 (w9.setCell ⟨hb, 0, none⟩ (.slice A9 (xs.length + 1) c9)) := (Upd.refl (One hb) w9).setOne 0 _
  refine ⟨rfl, A9, c9, ⟨?_, ?_, ?_⟩, ?_, (HU9.out.mono (fun _ _ e => Or.inr e)).trans (hu.mono (fun _ _ e => Or.inl e))⟩
  · rw [hl1]; simpa using HB9.out.set_ 0 (.slice A9 (xs.length + 1) c9)
  · rw [hl1, List.map_append]; exact own_upd HO9.out hu (fun i e1 e2 => hN (by unfold One at e2; subst e2; exact e1))
  · rw [hl1]; exact hN
  · rw [hl1]; exact HG9.out
set_option maxRecDepth 100000 in
set_option maxHeartbeats 4000000 in
theorem rdpop (w : World) (base hb : Nat) (A : Option Addr) (xs : List Int) (c : Nat) (x : Int) (hl : xs.length ≤ 1000000) (h : HeapM w base hb A (xs ++ [x]) c) :
    Calls Try.prog 267 #[.pointer (some ⟨hb, 0, none⟩)] w fun e w' => e = .returned (.iface 3 (.int .i64 x)) ∧ HeapM w' base hb A xs c ∧ Upd (One hb) w w' := by
  have hc := h.cell
  obtain ⟨g, cur, rfl, hgb, hB, hnc, hcl, hct, hcm⟩ := own_blk h.2.1 (by simp)
  have hlen : (xs ++ [x]).length = xs.length + 1 := by simp
  rw [hlen] at hc
  have c0 : w.cell? ⟨g, xs.length, none⟩ = some (.int .i64 x) := by
    rw [hB.cell]
    have h1 : (cur.take ((xs ++ [x]).length * 1))[xs.length]? = some (.int .i64 x) := by rw [hct]; simp
    rw [List.getElem?_take] at h1
    split at h1
    · exact h1
    · cases h1
  have n1 : (0 : Int) ≤ (xs.length : Int) := Int.natCast_nonneg _
  have n2 : (xs.length : Int) ≤ 1000000 := by omega
  have n3 : (xs.length : Int) ≤ (c : Int) := by omega
  have f0 := h.1.free 0
  have HB := Lib.hid hB
  have HH := Lib.hid h
  have HCL := Lib.hid hcl
  have HCT := Lib.hid hct
  have HHC := Lib.hid hnc
  clear hB hcl hct h hlen hnc
  go_enter Try.func267, Try.ntmps267
  go_wp2
  go_ret
  have hh := HH.out
  have hng : g ≠ hb := fun e => hh.2.2 (by subst e; rfl)
  have hnc := HHC.out
  rw [List.length_append, List.length_singleton] at hnc
  have hu : Upd (One hb) w (w.setCell ⟨hb, 0, none⟩ (.slice (some ⟨g, 0, none⟩) xs.length c)) := (Upd.refl (One hb) w).setOne 0 _
  refine ⟨rfl, ⟨by simpa using hh.1.set_ 0 (.slice (some ⟨g, 0, none⟩) xs.length c), own_of_blk (HB.out.upd hu hng) hgb (by omega) HCL.out ?_ hcm (by simp), fun e => hh.2.2 e⟩, hu⟩
  have h1 := congrArg (List.take xs.length) HCT.out
  rw [List.take_take, List.length_append, List.length_singleton, Nat.min_eq_left (by omega)] at h1
  rw [Nat.mul_one, h1]
  simp
end Go.Proofs.Ytaicemjckagcaaa
