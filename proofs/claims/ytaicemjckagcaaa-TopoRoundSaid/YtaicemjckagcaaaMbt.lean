/- Orders: heap.Init, and the heap's Push and Pop. -/
import Derived.Test.YtaicemjckagcaaaMak
import Derived.Test.YtaicemjckagcaaaMbr
import Derived.Test.YtaicemjckagcaaaMbs
namespace Go.Proofs.Ytaicemjckagcaaa
set_option linter.unusedVariables false
open Go.RowKit
theorem HpF.down {xs : List Int} {lo n : Nat} (h : HpF xs (lo + 1) n) : DownI xs lo n lo :=
  ⟨fun k h1 h2 h3 h4 => h k h1 h2 (by omega), fun k h1 h2 h3 h4 h5 => by omega⟩
theorem HpF.half (xs : List Int) (n : Nat) : HpF xs (n / 2) n := fun k h1 h2 h3 => by omega
set_option maxRecDepth 100000 in
set_option maxHeartbeats 4000000 in
theorem hinit (w : World) (base hb : Nat) (A : Option Addr) (xs : List Int) (c : Nat) (hl : xs.length ≤ 1000000) (h : HeapM w base hb A xs c) :
    Calls Try.prog 56 #[hif hb] w fun e w' => e = .returned (.tuple #[]) ∧ ∃ ys, ys.Perm xs ∧ HpF ys 0 ys.length ∧ HeapM w' base hb A ys c ∧ Upd (Own (.slice A xs.length c)) w w' := by
  have hm := h.mLen
  obtain ⟨p, hp⟩ : ∃ p, xs.length / 2 = p := ⟨_, rfl⟩
  have hq : (xs.length : Int).tdiv 2 = (p : Int) := by rw [Int.tdiv_eq_ediv_of_nonneg (by omega)]; omega
  have hw : RowKit.wrap64 (p : Int) = (p : Int) := IntWalk.wrap64_in _ (by omega)
  have HP := Lib.hid hp
  have p2 : (p : Int) ≤ 1000000 := by omega
  have p1 : (0 : Int) ≤ (p : Int) := Int.natCast_nonneg _
  clear hp
  unfold hif
  go_enter Try.func56, Try.ntmps56
  go_wp2_with fail
  refine Calls.mono (rdlen w A xs.length c) ?_
  rintro e w1 ⟨rfl, rfl⟩
  go_wp2
  go_loopg [3] p (fun gk vi wr => ∃ ys, vi = .int .i64 ((gk : Int) - 1) ∧ gk ≤ p ∧ Hid (ys.length = xs.length ∧ ys.Perm xs ∧ HpF ys gk xs.length) ∧ HeapM wr base hb A ys c ∧ Upd (Own (.slice A xs.length c)) w wr)
  case atStart => exact ⟨xs, rfl, Nat.le_refl _, Lib.hid ⟨rfl, List.Perm.refl _, HP.out ▸ HpF.half xs xs.length⟩, h, Upd.refl _ _⟩
  case round =>
    obtain ⟨ys, rfl, hg, HY, hH, hu⟩ := hrel
    have HU := Lib.hid hu
    clear hu
    cases gk with
    | zero =>
      go_wp2
      go_end0
      exact ⟨rfl, ys, HY.out.2.1, by rw [HY.out.1]; exact HY.out.2.2, hH, HU.out⟩
    | succ g1 =>
      have HC := Lib.hid (hdown wr base hb A ys c g1 xs.length (by have := HY.out.1; omega) (by omega) (by have := HY.out.1; omega) hH HY.out.2.2.down)
      have g0 : (0 : Int) ≤ (g1 : Int) := Int.natCast_nonneg _
      have g2 : (((g1 + 1 : Nat) : Int) - 1) = (g1 : Int) := by omega
      have g3 : (g1 : Int) ≤ 1000000 := by omega
      rw [g2]
      clear g2
      unfold hif at HC
      go_wp2_with fail
      refine Calls.mono HC.out ?_
      rintro e w2 ⟨b, zs, rfl, z1, z2, z3, hH2, hu2⟩
      have HZ := Lib.hid (And.intro z1 z2)
      clear z1 z2 z3
      go_wp2
      go_roundg g1
      case measure => omega
      case rel =>
        have hyl := HY.out.1
        refine ⟨zs, rfl, by omega, Lib.hid ⟨HZ.out.1.length_eq.trans hyl, HZ.out.1.trans HY.out.2.1, HZ.out.2⟩, hH2, HU.out.trans (hu2.mono (fun _ _ e => ?_))⟩
        rw [hyl] at e
        exact e
theorem ta_int (x : Int) (t : Nat) (w : World) : (Instr.typeAssert (.iface 3 (.int .i64 x)) t 3 true).run Try.prog w = .ok (.tuple #[.int .i64 x, .bool true]) w := by kernel_rfl
set_option maxRecDepth 100000 in
set_option maxHeartbeats 4000000 in
theorem rdpush (w : World) (base hb : Nat) (A : Option Addr) (xs : List Int) (c : Nat) (x : Int) (hl : xs.length ≤ 1000000) (hbs : base ≤ w.heap.size) (h : HeapM w base hb A xs c) :
    Calls Try.prog 268 #[.pointer (some ⟨hb, 0, none⟩), .iface 3 (.int .i64 x)] w fun e w' => e = .returned (.tuple #[]) ∧ ∃ A' c', HeapM w' base hb A' (xs ++ [x]) c' ∧ Grew w (.slice A xs.length c) (.slice A' (xs ++ [x]).length c') ∧ Upd (fun i => i = hb ∨ Own (.slice A xs.length c) i) w w' := by
  have hc := h.cell
  have ht := fun t => ta_int x t w
  have HH := Lib.hid h
  have hsz : hb < w.heap.size := by have := h.1; unfold Blk at this; exact (Array.getElem?_eq_some_iff.1 this).1
  clear h
  go_enter Try.func268, Try.ntmps268
  go_wp2_with (at_builtin; refine app1 rfl rfl slt_ready (base := base) (v := .slice A xs.length c) (n := xs.length) (xs := xs.map (Value.int .i64)) (cells := [.int .i64 x]) rfl rfl HH.out.2.1 rfl rfl (by omega) (by omega) hbs ?_; intro v9 w9 hown9 hu9 hg9; obtain ⟨A9, c9, rfl⟩ := own_slice hown9; have hb9 := HH.out.1.upd hu9 HH.out.2.2; have hc9 := hb9.cell 0; have f9 := hb9.free 0; simp only [List.getElem?_cons_zero] at hc9; have HO9 := Lib.hid hown9; have HU9 := Lib.hid hu9; have HG9 := Lib.hid hg9; have HB9 := Lib.hid hb9; clear hown9 hu9 hg9 hb9)
  go_end0
  have hl1 : (xs ++ [x]).length = xs.length + 1 := by simp
  have hN : ¬ Own (.slice A9 (xs.length + 1) c9) hb := by
    intro e
    rcases HG9.out with h1 | ⟨k, h1, h2⟩
    · exact HH.out.2.2 (show _ = some hb by rw [← h1]; exact e)
    · unfold Own at e
      rw [h1] at e
      cases e
      omega
  have hu : Upd (One hb) w9 (w9.setCell ⟨hb, 0, none⟩ (.slice A9 (xs.length + 1) c9)) := (Upd.refl (One hb) w9).setOne 0 _
  refine ⟨rfl, A9, c9, ⟨?_, ?_, ?_⟩, ?_, (HU9.out.mono (fun _ _ e => Or.inr e)).trans (hu.mono (fun _ _ e => Or.inl e))⟩
  · rw [hl1]; simpa using HB9.out.set_ 0 (.slice A9 (xs.length + 1) c9)
  · rw [hl1, List.map_append]; exact own_upd HO9.out hu (fun i e1 e2 => hN (by unfold One at e2; subst e2; exact e1))
  · rw [hl1]; exact hN
  · rw [hl1]; exact HG9.out
set_option maxRecDepth 100000 in
set_option maxHeartbeats 4000000 in
theorem rdpop (w : World) (base hb : Nat) (A : Option Addr) (xs : List Int) (c : Nat) (x : Int) (hl : xs.length ≤ 1000000) (h : HeapM w base hb A (xs ++ [x]) c) :
    Calls Try.prog 267 #[.pointer (some ⟨hb, 0, none⟩)] w fun e w' => e = .returned (.iface 3 (.int .i64 x)) ∧ HeapM w' base hb A xs c ∧ Upd (One hb) w w' := by
  have hc := h.cell
  obtain ⟨g, cur, rfl, hgb, hB, hnc, hcl, hct, hcm⟩ := own_blk h.2.1 (by simp)
  have hlen : (xs ++ [x]).length = xs.length + 1 := by simp
  rw [hlen] at hc
  have c0 : w.cell? ⟨g, xs.length, none⟩ = some (.int .i64 x) := by
    rw [hB.cell]
    have h1 : (cur.take ((xs ++ [x]).length * 1))[xs.length]? = some (.int .i64 x) := by rw [hct]; simp
    rw [List.getElem?_take] at h1
    split at h1
    · exact h1
    · cases h1
  have n1 : (0 : Int) ≤ (xs.length : Int) := Int.natCast_nonneg _
  have n2 : (xs.length : Int) ≤ 1000000 := by omega
  have n3 : (xs.length : Int) ≤ (c : Int) := by omega
  have f0 := h.1.free 0
  have HB := Lib.hid hB
  have HH := Lib.hid h
  have HCL := Lib.hid hcl
  have HCT := Lib.hid hct
  have HHC := Lib.hid hnc
  clear hB hcl hct h hlen hnc
  go_enter Try.func267, Try.ntmps267
  go_wp2
  go_ret
  have hh := HH.out
  have hng : g ≠ hb := fun e => hh.2.2 (by subst e; rfl)
  have hnc := HHC.out
  rw [List.length_append, List.length_singleton] at hnc
  have hu : Upd (One hb) w (w.setCell ⟨hb, 0, none⟩ (.slice (some ⟨g, 0, none⟩) xs.length c)) := (Upd.refl (One hb) w).setOne 0 _
  refine ⟨rfl, ⟨by simpa using hh.1.set_ 0 (.slice (some ⟨g, 0, none⟩) xs.length c), own_of_blk (HB.out.upd hu hng) hgb (by omega) HCL.out ?_ hcm (by simp), fun e => hh.2.2 e⟩, hu⟩
  have h1 := congrArg (List.take xs.length) HCT.out
  rw [List.take_take, List.length_append, List.length_singleton, Nat.min_eq_left (by omega)] at h1
  rw [Nat.mul_one, h1]
  simp
end Go.Proofs.Ytaicemjckagcaaa

/- Orders: heap.Push and heap.Pop. -/
namespace Go.Proofs.Ytaicemjckagcaaa
set_option linter.unusedVariables false
open Go.RowKit
theorem HpF.least {xs : List Int} (h : HpF xs 0 xs.length) : ∀ k, k < xs.length → xs.getD 0 0 ≤ xs.getD k 0 := by
  intro k
  induction k using Nat.strongRecOn with
  | _ k ih =>
    intro hk
    cases k with
    | zero => exact Int.le_refl _
    | succ j =>
      have h1 := h (j + 1) (by omega) hk (by omega)
      have h2 := ih ((j + 1 - 1) / 2) (by omega) (by omega)
      omega
theorem HpF.upI {xs : List Int} (x : Int) (h : HpF xs 0 xs.length) : UpI (xs ++ [x]) xs.length := by
  constructor
  · intro k h1 h2 h3
    rw [List.length_append, List.length_singleton] at h2
    have h4 := h k h1 (by omega) (by omega)
    have e1 : (k - 1) / 2 < xs.length := by omega
    have e2 : k < xs.length := by omega
    simp only [List.getD_eq_getElem?_getD, List.getElem?_append_left e1, List.getElem?_append_left e2]
    simpa only [List.getD_eq_getElem?_getD] using h4
  · intro k h1 h2 h3 h4
    rw [List.length_append, List.length_singleton] at h2
    omega
theorem HpF.swapped {xs : List Int} {n : Nat} (h : HpF xs 0 xs.length) (hn : n < xs.length) : HpF (swapL xs 0 n) 1 n := by
  intro k h1 h2 h3
  rw [swapL_get _ _ _ _ (by omega) hn, swapL_get _ _ _ _ (by omega) hn, if_neg (by omega), if_neg (by omega), if_neg (by omega), if_neg (by omega)]
  exact h k h1 (by omega) (by omega)
theorem last_split (zs : List Int) (n : Nat) (hz : zs.length = n + 1) : zs = zs.take n ++ [zs.getD n 0] := by
  have h1 : zs.getD n 0 = zs[n]'(by omega) := by rw [List.getD_eq_getElem?_getD, List.getElem?_eq_getElem (by omega)]; rfl
  have h2 := List.take_succ_eq_append_getElem (l := zs) (i := n) (by omega)
  rw [List.take_of_length_le (by omega)] at h2
  rw [h1]
  exact h2
theorem HpF.take {zs : List Int} {n : Nat} (h : HpF zs 0 n) : HpF (zs.take n) 0 n := by
  intro k h1 h2 h3
  have h4 := h k h1 h2 h3
  have e1 : (k - 1) / 2 < n := by omega
  simp only [List.getD_eq_getElem?_getD, List.getElem?_take_of_lt e1, List.getElem?_take_of_lt h2]
  simpa only [List.getD_eq_getElem?_getD] using h4
set_option maxRecDepth 100000 in
set_option maxHeartbeats 4000000 in
theorem hpush (w : World) (base hb : Nat) (A : Option Addr) (xs : List Int) (c : Nat) (x : Int) (hl : xs.length ≤ 100000) (hbs : base ≤ w.heap.size) (h : HeapM w base hb A xs c) (hp : HpF xs 0 xs.length) :
    Calls Try.prog 59 #[hif hb, .iface 3 (.int .i64 x)] w fun e w' => e = .returned (.tuple #[]) ∧ ∃ A' c' ys, ys.Perm (xs ++ [x]) ∧ HpF ys 0 ys.length ∧ HeapM w' base hb A' ys c' ∧ Grew w (.slice A xs.length c) (.slice A' ys.length c') ∧ Upd (fun i => i = hb ∨ Own (.slice A xs.length c) i) w w' := by
  have hm := m_push (some ⟨hb, 0, none⟩) w
  have HC := Lib.hid (rdpush w base hb A xs c x (by omega) hbs h)
  have HU := Lib.hid hup
  have HP := Lib.hid hp
  have hl1 : (xs ++ [x]).length = xs.length + 1 := by simp
  have HL1 := Lib.hid hl1
  clear h hp
  unfold hif
  go_enter Try.func59, Try.ntmps59
  go_wp2_with fail
  refine Calls.mono HC.out ?_
  rintro e w1 ⟨rfl, A1, c1, h1, hg1, hu1⟩
  have hm1 := h1.mLen
  have HG1 := Lib.hid hg1
  have HL := Lib.hid (rdlen w1 A1 (xs ++ [x]).length c1)
  rw [hl1] at hm1 HL
  have H1 := Lib.hid h1
  clear hg1 h1 hl1
  go_wp2_with fail
  refine Calls.mono HL.out ?_
  rintro e w2 ⟨rfl, rfl⟩
  go_wp2_with fail
  refine Calls.mono (HU.out w1 base hb A1 (xs ++ [x]) c1 xs.length (by rw [HL1.out]; omega) (by rw [HL1.out]; omega) H1.out (HP.out.upI x)) ?_
  rintro e w3 ⟨rfl, ys, y1, y2, y3, hu3⟩
  have HY2 := Lib.hid y2
  have HY1 := Lib.hid y1
  clear y1 y2
  go_wp2
  go_end0
  refine ⟨rfl, A1, c1, ys, HY1.out, HY2.out, y3, ?_, hu1.then_ hu3 ?_⟩
  · rw [HY1.out.length_eq]; exact HG1.out
  · intro i hi
    rcases HG1.out with h2 | ⟨k, h2, h3⟩
    · exact Or.inl (Or.inr (show _ = some i by rw [← h2]; exact hi))
    · unfold Own at hi
      rw [h2] at hi
      cases hi
      exact Or.inr h3
set_option maxRecDepth 100000 in
set_option maxHeartbeats 4000000 in
theorem hpop (w : World) (base hb : Nat) (A : Option Addr) (xs : List Int) (c : Nat) (n : Nat) (hn : xs.length = n + 1) (hl : xs.length ≤ 100000) (m : Int) (hm0 : xs.getD 0 0 = m) (h : HeapM w base hb A xs c) (hp : HpF xs 0 xs.length) :
    Calls Try.prog 58 #[hif hb] w fun e w' => e = .returned (.iface 3 (.int .i64 m)) ∧ ∃ ys, (ys ++ [m]).Perm xs ∧ HpF ys 0 ys.length ∧ HeapM w' base hb A ys c ∧ Upd (fun i => i = hb ∨ Own (.slice A xs.length c) i) w w' := by
  have hm := h.mLen
  have HL := Lib.hid (rdlen w A xs.length c)
  rw [hn] at HL hm
  have hms := h.mSwap
  have HS := Lib.hid (h.swap (by omega) (i := 0) (j := n) (by omega) (by omega))
  have HD := Lib.hid hdown
  have HR := Lib.hid rdpop
  have HP := Lib.hid hp
  have HN := Lib.hid hn
  have HM := Lib.hid hm0
  rw [hn] at HS hms
  clear h hp hm0
  unfold hif at HD ⊢
  go_enter Try.func58, Try.ntmps58
  go_wp2_with fail
  refine Calls.mono HL.out ?_
  rintro e w2 ⟨rfl, rfl⟩
  go_wp2_with fail
  refine Calls.mono HS.out ?_
  rintro e w3 ⟨rfl, h3, hu3⟩
  have hll : (swapL xs 0 n).length = n + 1 := by rw [swapL_len]; exact hn
  have HLL := Lib.hid hll
  have H3 := Lib.hid h3
  have HU3 := Lib.hid hu3
  clear hll h3 hu3
  go_wp2_with fail
  refine Calls.mono (HD.out w3 base hb A (swapL xs 0 n) c 0 n (by rw [HLL.out]; omega) (by omega) (by rw [HLL.out]; omega) H3.out (HP.out.swapped (by omega)).down) ?_
  rintro e w4 ⟨b, zs, rfl, z1, z2, z3, h4, hu4⟩
  have hzl : zs.length = n + 1 := z1.length_eq.trans HLL.out
  have hzs := last_split zs n hzl
  have hzn : zs.getD n 0 = xs.getD 0 0 := by rw [z3 n (Nat.le_refl _), swapL_get _ _ _ _ (by omega) (by omega), if_pos rfl]
  rw [hzn, HM.out] at hzs
  have H4 := Lib.hid (hzs ▸ h4)
  have hmp := m_pop (some ⟨hb, 0, none⟩) w4
  have HU4 := Lib.hid hu4
  have HZ := Lib.hid (And.intro z1 (And.intro z2 (And.intro hzs hzl)))
  have htl : (zs.take n).length = n := by rw [List.length_take]; omega
  have HTL := Lib.hid htl
  clear z1 z2 z3 hzl hzs hzn h4 hu4 htl
  go_wp2_with fail
  refine Calls.mono (HR.out w4 base hb A (zs.take n) c m (by rw [HTL.out]; omega) H4.out) ?_
  rintro e w5 ⟨rfl, h5, hu5⟩
  go_wp2
  go_ret
  obtain ⟨z1, z2, z3, z4⟩ := HZ.out
  have hperm : (zs.take n ++ [m]).Perm xs := by rw [← z3]; exact z1.trans (swapL_perm xs 0 n (by omega) (by omega))
  have hsl := swapL_len xs 0 n
  refine ⟨rfl, zs.take n, hperm, by rw [HTL.out]; exact z2.take, h5, ?_⟩
  refine Upd.trans ?_ (hu5.mono (fun _ _ e => Or.inl e))
  refine Upd.trans (HU3.out.mono (fun _ _ e => Or.inr ?_)) (HU4.out.mono (fun _ _ e => Or.inr ?_))
  · rw [HN.out]; exact e
  · rw [hsl] at e; exact e
end Go.Proofs.Ytaicemjckagcaaa

/- Closed walks: the digraph of some edges. -/
namespace Go.Proofs.Ytaicemjckagcaaa
set_option linter.unusedVariables false
open Go.RowKit
set_option maxRecDepth 100000 in
set_option maxHeartbeats 4000000 in
theorem cgraph (F F1 F2 : Nat → Prop) (w : World) (A : Option Addr) (c : Nat) (l : List Edge) (hW : Walk F w A l) (A1 A2 : Option Addr) (c1 c2 : Nat) (ids keys : List Int) (hA : Ints F1 w A1 ids) (hB : Ints F2 w A2 keys)
    (hsi : ids.Pairwise (· < ·)) (hsk : keys.Pairwise (· < ·)) (hni : l ≠ [] → ids ≠ [] ∧ keys ≠ []) (hl : l.length ≤ 50000) (hl1 : ids.length ≤ 4096) (hl2 : keys.length ≤ 100000) :
    Calls Try.prog 67 #[.slice A l.length c, .agg #[.slice A1 ids.length c1, .slice A2 keys.length c2]] w fun e w' => ∃ G g K, e = .returned (.tuple #[.pointer (some ⟨g, 0, none⟩), .int .i64 0]) ∧ K ≤ 50000 ∧ DG w' G (some ⟨g, 0, none⟩) ids.length K (arcsQ ids keys ids.length [] l) ∧ Upd No w w' := by
  obtain ⟨wb, hwb⟩ : ∃ wb, w.alloc (.cells #[.slice A1 ids.length c1, .slice A2 keys.length c2] 106) = wb := ⟨_, rfl⟩
  have u0 : Upd No w wb := by rw [← hwb]; exact (Upd.refl No w).alloc _
  have bN : Blk wb w.heap.size 106 [.slice A1 ids.length c1, .slice A2 keys.length c2] := by rw [← hwb]; exact Blk.new w _ _
  have n0 : ∀ W, Upd No wb W → W.cell? ⟨w.heap.size, 0, none⟩ = some (.slice A1 ids.length c1) := fun W u => by have := (bN.upd u id).cell 0; simpa using this
  have n1 : ∀ W, Upd No wb W → W.cell? ⟨w.heap.size, 1, none⟩ = some (.slice A2 keys.length c2) := fun W u => by have := (bN.upd u id).cell 1; simpa using this
  have d1 : decide (4096 < (ids.length : Int)) = false := decide_eq_false (by omega)
  have d2 : decide (1048575 < (keys.length : Int)) = false := decide_eq_false (by omega)
  have hroom : roomN (ids.length : Int) = ids.length := by unfold roomN; omega
  have HNew := Lib.hid (hroom ▸ dgnew wb (ids.length : Int))
  have HCa := Lib.hid (fun (W : World) (u : Upd No wb W) (e : Edge) (he : l ≠ []) => carc F1 F2 W A1 A2 c1 c2 ids keys (hA.upd (u0.trans u) (fun _ _ => id)) (hB.upd (u0.trans u) (fun _ _ => id)) hsi hsk (hni he).1 (hni he).2 (by omega) (by omega) e)
  have HW := Lib.hid (fun (W : World) (u : Upd No wb W) => hW.upd (u0.trans u) (fun _ _ => id))
  have U0 := Lib.hid u0
  have hr : Upd No wb wb := Upd.refl _ _
  obtain ⟨R, hR⟩ : ∃ R, arcsQ ids keys ids.length [] l = R := ⟨_, rfl⟩
  have HR := Lib.hid hR
  rw [hR]
  clear hR hA hB hW bN u0 hsi hsk hni hroom
  go_enter Try.func67, Try.ntmps67
  go_wp2_with fail
  refine (HNew.out).mono ?_
  rintro e w1 ⟨G0, g0, rfl, hdg, hu1, hG0⟩
  have HDG := Lib.hid hdg
  have HG0 := Lib.hid hG0
  have HU1 := Lib.hid hu1
  clear hdg hG0 hu1 hwb hr HNew
  go_wp2
  go_loopg [25] l.length (fun gk i wr => ∃ (k : Nat) (G : Nat → Prop) (q : List HArc), k + gk = l.length ∧ i = .int .i64 k ∧ Hid (arcsQ ids keys ids.length q (l.drop k) = R) ∧ Hid (DG wr G (some ⟨g0, 0, none⟩) ids.length k q) ∧ Hid (∀ j, G j → wb.heap.size ≤ j) ∧ Upd No wb wr)
  case atStart => exact ⟨0, G0, [], by omega, rfl, HR, HDG, HG0, HU1.out⟩
  case round =>
    obtain ⟨k, G, q, hgk, rfl, hq, hD, hG, hu⟩ := hrel
    by_cases hlt : k < l.length
    · obtain ⟨ax, rfl, q0, q1, q2, q3⟩ := (HW.out wr hu).at_ hlt
      obtain ⟨x, hxx⟩ : ∃ x, l[k] = x := ⟨_, rfl⟩
      have hdr := List.drop_eq_getElem_cons hlt
      rw [hxx] at q0 q1 q2 q3 hdr
      have HQ := Lib.hid (show arcsQ ids keys ids.length (addQ ids.length q (toR ids keys x.arc)) (l.drop (k + 1)) = R by rw [← hq.out, hdr]; rfl)
      have i1 : (0 : Int) ≤ (k : Int) := Int.natCast_nonneg _
      have i2 : (k : Int) < (l.length : Int) := by omega
      have hne : l ≠ [] := fun e => by rw [e] at hlt; simp at hlt
      obtain ⟨wx, hwx⟩ : ∃ wx, wr.alloc (.cells #[.int .i64 x.f, .int .i64 x.t, .int .i64 x.k, .int .i64 x.key] 33) = wx := ⟨_, rfl⟩
      have ux : Upd No wr wx := by rw [← hwx]; exact (Upd.refl No wr).alloc _
      have bo : Blk wx wr.heap.size 33 [.int .i64 x.f, .int .i64 x.t, .int .i64 x.k, .int .i64 x.key] := by rw [← hwx]; exact Blk.new wr _ _
      have hux := hu.trans ux
      have g0' := bo.cell 0
      have g1 := bo.cell 1
      have g2 := bo.cell 2
      have g3 := bo.cell 3
      simp only [List.getElem?_cons_zero, List.getElem?_cons_succ] at g0' g1 g2 g3
      have HC := Lib.hid (HCa.out wx hux x hne)
      have HDX := Lib.hid (fun (W : World) (u : Upd No wx W) => dgadd (hD.out.no (ux.trans u)) (by omega) (toR ids keys ⟨x.f, x.t, x.k, x.key⟩))
      have hZ := hux.size
      have HUX := Lib.hid hux
      unfold Edge.cells at HC
      clear hq hdr hxx ux bo
      go_wp2_with fail
      refine (HC.out).mono ?_
      rintro e w2 ⟨rfl, hu2⟩
      go_wp2_with fail
      refine (HDX.out w2 hu2).mono ?_
      rintro e w3 ⟨G3, rfl, hd3, hu3, hg3⟩
      have HD3 := Lib.hid hd3
      have hz2 := hu2.size
      have hG3 := Lib.hid (show ∀ j, G3 j → wb.heap.size ≤ j from fun j h => (hg3 j h).elim (hG.out j) (fun h => by omega))
      have U3 : Upd No wb w3 := (HUX.out.trans hu2).then_ hu3 (fun i e => .inr (hG.out i e))
      clear hd3 hu3 hg3 hu2 HDX HC
      go_wp2
      go_roundg (gk - 1)
      case measure => omega
      case rel => exact ⟨k + 1, G3, _, by omega, by go_num, HQ, HD3, hG3, U3⟩
    · obtain rfl : k = l.length := by omega
      have hqR : q = R := by have := hq.out; rw [List.drop_length] at this; exact this
      have HqR := Lib.hid hqR
      clear hqR hq
      go_wp2
      go_ret2
      rw [← HqR.out]
      exact ⟨G, g0, l.length, rfl, hl, hD.out, U0.out.trans hu⟩
end Go.Proofs.Ytaicemjckagcaaa

/- Closed walks: the edges that do not count are dropped. -/
namespace Go.Proofs.Ytaicemjckagcaaa
set_option linter.unusedVariables false
open Go.RowKit
/-- where the first edge that does not count stands; -1: nowhere -/
def posE (l : List Edge) (mask : Int) : Nat := l.findIdx (badE mask)
def idxE (l : List Edge) (mask : Int) : Int := if posE l mask < l.length then (posE l mask : Int) else -1
theorem posE_hit {l : List Edge} {mask : Int} {k : Nat} (hk : k < l.length) (h : ∀ (j : Nat) (hj : j < k), badE mask (l[j]'(by omega)) = false) (h1 : badE mask l[k] = true) : posE l mask = k := by
  unfold posE
  rw [List.findIdx_eq hk]
  exact ⟨h1, fun j hj => by simp only [h j hj]⟩
theorem posE_miss {l : List Edge} {mask : Int} (h : ∀ (j : Nat) (hj : j < l.length), badE mask l[j] = false) : posE l mask = l.length := by
  unfold posE
  rw [List.findIdx_eq_length]
  intro x hx
  obtain ⟨k, hk, rfl⟩ := List.mem_iff_getElem.1 hx
  simp only [h k hk]
set_option maxRecDepth 100000 in
theorem cidx (F : Nat → Prop) (w : World) (B : Option Addr) (d : Nat) (l : List Edge) (p : Addr) (mask : Int) (H : Walk F w B l) (hl : l.length ≤ 1000000) (hp : w.cell? p = some (.int .i64 mask)) :
    Calls Try.prog 122 #[.slice B l.length d, .func (.func 65) #[] #[.pointer (some p)]] w fun e w' => e = .returned (.int .i64 (idxE l mask)) ∧ Upd No w w' := by
  go_enter Try.func122, Try.ntmps122
  go_wp2
  go_loopg [8] l.length (fun gk s wr => ∃ k : Nat, k + gk = l.length ∧ s = .int .i64 k ∧ Hid (∀ (j : Nat) (hj : j < l.length), j < k → badE mask l[j] = false) ∧ Upd No w wr)
  case atStart => exact ⟨0, by omega, rfl, Lib.hid (fun j _ hj => by omega), Upd.refl _ _⟩
  case round =>
    obtain ⟨k, hgk, rfl, hall, hu⟩ := hrel
    by_cases hlt : k < l.length
    · obtain ⟨ad, rfl, q0, q1, q2, q3⟩ := (H.upd hu (fun _ _ => id)).at_ hlt
      obtain ⟨x, hx⟩ : ∃ x, l[k] = x := ⟨_, rfl⟩
      rw [hx] at q0 q1 q2 q3
      have hpr := hu.keepNo hp
      have X := Lib.hid hx
      have b2 : (k : Int) < (l.length : Int) := by omega
      have b1 : (0 : Int) ≤ (k : Int) := Int.natCast_nonneg _
      have HC := Lib.hid (cbad wr p mask hpr x)
      unfold Edge.cells at HC
      clear hx
      by_cases he : badE mask x = true
      · have hpos := Lib.hid (show idxE l mask = (k : Int) by unfold idxE; rw [posE_hit (l := l) (mask := mask) hlt (fun j hj => hall.out j (by omega) hj) (by rw [X.out]; exact he), if_pos hlt])
        have He := Lib.hid he
        clear he
        go_wp2_with fail
        refine (HC.out).mono ?_
        rintro e w1 ⟨hee, hu1⟩
        rw [He.out] at hee
        subst hee
        go_wp2
        go_ret
        exact ⟨by rw [hpos.out]; rfl, hu.trans hu1⟩
      · have hef : badE mask x = false := by simpa using he
        have He := Lib.hid hef
        clear he hef
        go_wp2_with fail
        refine (HC.out).mono ?_
        rintro e w1 ⟨hee, hu1⟩
        rw [He.out] at hee
        subst hee
        go_wp2
        go_roundg (gk - 1)
        case measure => omega
        case rel => exact ⟨k + 1, by omega, by go_num, Lib.hid (fun j hj hjk => by
            by_cases e : j = k
            · subst e; rw [X.out]; exact He.out
            · exact hall.out j hj (by omega)), hu.trans hu1⟩
    · obtain rfl : k = l.length := by omega
      have hpos := Lib.hid (show idxE l mask = -1 by unfold idxE; rw [posE_miss (l := l) (mask := mask) fun j hj => hall.out j hj hj, if_neg (by omega)])
      go_wp2
      go_ret
      exact ⟨by rw [hpos.out]; rfl, hu⟩
/-- some cells of a block stored into -/
theorem wpl_storeAt {P : Program} {ops : Array Oper} {rest : List Oper} {o : Oper} {a : Act} {W : World} {Q : Exit → Act → World → Prop} (hgd : o.guard = none) {ty : TypeId} {x y : Operand} (ho : o.op = .store ty x y)
    {g off : Nat} {t : TypeId} {cur cells : List Value} {A : Addr} (hx : a.eval x = .pointer (some A)) (hA : A = ⟨g, off, none⟩) (hy : a.eval y = .agg cells.toArray) (hb : Blk W g t cur) (hi : (P.info? ty).map (·.size) = some cells.length) (hfit : off + cells.length ≤ cur.length)
    (h1 : ∀ v ∈ cells, v.oneCell' = true) (h : ∀ w', Blk w' g t (cur.take off ++ cells ++ cur.drop (off + cells.length)) → Upd (One g) W w' → wpList P ops Q rest (a.put o.dst undef) w') : wpList P ops Q (o :: rest) a W := by
  subst hA
  have hst := run_storeCells_at P g off t cells 0 cur.toArray W hb (by simpa using hfit) h1
  simp only [Nat.add_zero] at hst
  have hrun : (storeVar ty ⟨g, off, none⟩ (.agg cells.toArray)).run P W = .ok () (W.setRow g (cur.take off ++ cells ++ cur.drop (off + cells.length)).toArray) := by
    cases hq : P.info? ty with
    | none => simp [hq] at hi
    | some i =>
      have hs : cells.length = i.size := by simp [hq] at hi; omega
      simp [storeVar, sizeOf, typeInfo, hq, Value.cells, hs, hst]
  refine wpList_plain hgd fun _ hK => ?_
  unfold Oper.wp execOp
  simp only [ho, hx, hy, Instr.storeAt, Instr.sureAddr, Sem.run_bind, Sem.run_pure, Result.andThen_ok, hrun]
  exact hK _ _ (h _ (blk_setRow hb) (upd_setRow _ _))
theorem edgesF_cons (a : Edge) (l : List Edge) : edgesF (a :: l) = a.cells ++ edgesF l := rfl
theorem edgesF_app (l m : List Edge) : edgesF (l ++ m) = edgesF l ++ edgesF m := by unfold edgesF; simp
theorem edgesF_take (l : List Edge) (i : Nat) : (edgesF l).take (i * 4) = edgesF (l.take i) := by
  rcases Nat.lt_or_ge l.length i with h | h
  · rw [List.take_of_length_le (by rw [edgesF_len]; omega), List.take_of_length_le (by omega)]
  · conv => lhs; rw [← List.take_append_drop i l, edgesF_app]
    rw [List.take_append_of_le_length (by rw [edgesF_len, List.length_take]; omega), List.take_of_length_le (by rw [edgesF_len, List.length_take]; omega)]
theorem edgesF_set {xs : List Edge} {m n : Nat} {x : Edge} {cs : List Value} (hm : m < n) (hn : xs.length = n) (hc : n * 4 ≤ cs.length) (h : cs.take (n * 4) = edgesF xs) :
    (cs.take (m * 4) ++ x.cells ++ cs.drop (m * 4 + x.cells.length)).take (n * 4) = edgesF (xs.set m x) := by
  have hcs : cs = edgesF xs ++ cs.drop (n * 4) := by rw [← h, List.take_append_drop]
  have hl : x.cells.length = 4 := rfl
  have hsp : xs = xs.take m ++ xs[m]'(by omega) :: xs.drop (m + 1) := by rw [← List.drop_eq_getElem_cons (by omega : m < xs.length), List.take_append_drop]
  have hset : xs.set m x = xs.take m ++ x :: xs.drop (m + 1) := by rw [List.set_eq_take_append_cons_drop, if_pos (by omega)]
  have e1 : cs.take (m * 4) = edgesF (xs.take m) := by
    rw [← edgesF_take, ← h, List.take_take, Nat.min_eq_left (by omega)]
  have e2 : cs.drop (m * 4 + 4) = edgesF (xs.drop (m + 1)) ++ cs.drop (n * 4) := by
    conv => lhs; rw [hcs, hsp, edgesF_app, edgesF_cons, ← List.append_assoc]
    rw [List.append_assoc (edgesF (xs.take m) ++ _), List.drop_append, List.drop_of_length_le (by rw [List.length_append, edgesF_len, List.length_take]; show _ + 4 ≤ _; omega)]
    have : m * 4 + 4 - (edgesF (List.take m xs) ++ (xs[m]'(by omega)).cells).length = 0 := by rw [List.length_append, edgesF_len, List.length_take]; show m * 4 + 4 - (_ + 4) = 0; omega
    rw [this]
    simp
  rw [hl, e1, e2, hset, edgesF_app, edgesF_cons, ← List.append_assoc, ← List.append_assoc]
  rw [List.take_append_of_le_length (by simp only [List.length_append, edgesF_len, hl, List.length_take, List.length_drop]; omega), List.take_of_length_le (by simp only [List.length_append, edgesF_len, hl, List.length_take, List.length_drop]; omega)]
theorem walk_blk {w : World} {g : Nat} {cs : List Value} {l : List Edge} (hb : Blk w g 33 cs) (h : cs.take (l.length * 4) = edgesF l) : Walk (fun i => i = g) w (some ⟨g, 0, none⟩) l := by
  intro _
  refine ⟨_, rfl, rfl, hb.lt, fun i row hi j v hj => ?_⟩
  have e1 : (⟨g, 0, none⟩ : Addr).add (i * 4 + j) = ⟨g, i * 4 + j, none⟩ := by unfold Addr.add; split <;> simp_all
  rw [e1, hb.cell]
  have h1 := flat_get (size := 4) (rows := l.map Edge.cells) edges_len hi hj
  have h2 : (cs.take (l.length * 4))[i * 4 + j]? = some v := by rw [h]; exact h1
  rw [List.getElem?_take] at h2
  split at h2
  · exact h2
  · cases h2
def goodL (l : List Edge) (mask : Int) : List Edge := l.filter fun x => !badE mask x
set_option maxRecDepth 100000 in
set_option maxHeartbeats 8000000 in
theorem cdel (w : World) (ad : Addr) (g c : Nat) (HAD : Hid (ad = ⟨g, 0, none⟩)) (l : List Edge) (cur : List Value) (p : Addr) (mask : Int) (hb : Blk w g 33 cur) (ht : cur.take (l.length * 4) = edgesF l) (hcl : cur.length = c * 4) (hlc : l.length ≤ c) (hl : l.length ≤ 1000000)
    (hp : w.cell? p = some (.int .i64 mask)) (hpg : p.block ≠ g) :
    Calls Try.prog 63 #[.slice (some ad) l.length c, .func (.func 65) #[] #[.pointer (some p)]] w fun e w' => e = .returned (.slice (some ad) (goodL l mask).length c) ∧ (∃ cs, Blk w' g 33 cs ∧ cs.take ((goodL l mask).length * 4) = edgesF (goodL l mask)) ∧ Upd (One g) w w' := by
  have hW : Walk (fun i => i = g) w (some ad) l := by rw [HAD.out]; exact walk_blk hb ht
  have HI := Lib.hid (cidx (fun i => i = g) w (some ad) c l p mask hW hl hp)
  by_cases hpos : posE l mask < l.length
  · have hix : idxE l mask = (posE l mask : Int) := by unfold idxE; rw [if_pos hpos]
    rw [hix] at HI
    have hbad : badE mask l[posE l mask] = true := List.findIdx_getElem (p := badE mask) (w := hpos)
    have hgood : ∀ (j : Nat) (hj : j < posE l mask), badE mask (l[j]'(by omega)) = false := fun j hj => by
      have := List.not_of_lt_findIdx (p := badE mask) (xs := l) hj
      simpa using this
    obtain ⟨k, hk⟩ : ∃ k, posE l mask = k := ⟨_, rfl⟩
    have hkl : k < l.length := by omega
    have htk : goodL (l.take (k + 1)) mask = l.take k := by
      unfold goodL
      rw [List.take_succ_eq_append_getElem hkl, List.filter_append, List.filter_cons_of_neg (by rw [show badE mask l[k] = true by simpa [hk] using hbad]; decide)]
      rw [List.filter_eq_self.2 (fun x hx => by
        obtain ⟨j, hj, rfl⟩ := List.mem_iff_getElem.1 hx
        rw [List.getElem_take, hgood j (by rw [hk]; simp at hj; omega)]
        rfl)]
      simp
    have hkneg : ((k : Int) == -1) = false := by rw [beq_eq_false_iff_ne]; omega
    have hkw : IntKind.i64.wrap ((k : Int) + 1) = (k : Int) + 1 := IntWalk.i64_in _ (by omega)
    rw [hk] at HI
    have HTK := Lib.hid htk
    have HB := Lib.hid hb
    have HT := Lib.hid ht
    have HCL := Lib.hid hcl
    clear hix hbad hgood hpos hk htk hW hb ht hcl
    go_enter Try.func63, Try.ntmps63
    go_wp2_with fail
    refine (HI.out).mono ?_
    rintro e w1 ⟨rfl, hu1⟩
    have HB1 := Lib.hid (HB.out.upd hu1 id)
    have HU1 := Lib.hid (show Upd (One g) w w1 from hu1.mono (fun _ _ e => e.elim))
    have HXL := Lib.hid (List.length_take_of_le (Nat.le_of_lt hkl) : (l.take k).length = k)
    clear hu1
    go_wp2
    go_loopg [5, 6] (l.length - (k + 1)) (fun gk si sj wr => ∃ (m j : Nat) (xs : List Edge) (cs : List Value), j + gk = l.length ∧ si = .int .i64 m ∧ sj = .int .i64 j ∧ m < j ∧ Hid (xs.length = l.length) ∧ Hid (xs.take m = goodL (l.take j) mask ∧ (goodL (l.take j) mask).length = m) ∧ Hid (xs.drop j = l.drop j) ∧ Hid (Blk wr g 33 cs) ∧ Hid (cs.take (l.length * 4) = edgesF xs ∧ cs.length = c * 4) ∧ Upd (One g) w wr)
    case atStart => exact ⟨k, k + 1, l, cur, by omega, rfl, by go_num, by omega, Lib.hid rfl, Lib.hid ⟨HTK.out.symm, by rw [HTK.out]; exact HXL.out⟩, Lib.hid rfl, HB1, Lib.hid ⟨HT.out, HCL.out⟩, HU1.out⟩
    case round =>
      obtain ⟨m, j, xs, cs, hgk, rfl, rfl, hmj, HXN, HM, HD, HBc, HCS, hu⟩ := hrel
      have i0 : (0 : Int) ≤ (m : Int) := Int.natCast_nonneg _
      by_cases hlt : j < l.length
      · obtain ⟨x, hx⟩ : ∃ x, l[j] = x := ⟨_, rfl⟩
        have hjx : j < xs.length := by rw [HXN.out]; exact hlt
        have hxj : xs[j] = x := by
          have h1 := List.drop_eq_getElem_cons hjx
          have h2 := List.drop_eq_getElem_cons hlt
          rw [HD.out, h2] at h1
          injection h1 with h1 _
          rw [← h1, hx]
        have hWx : Walk (fun i => i = g) wr (some ad) xs := by rw [HAD.out]; exact walk_blk HBc.out (by rw [HXN.out]; exact HCS.out.1)
        obtain ⟨ad', e', q0, q1, q2, q3⟩ := hWx.at_ hjx
        cases e'
        rw [hxj] at q0 q1 q2 q3
        have hDn : xs.drop (j + 1) = l.drop (j + 1) := by
          have h1 := List.drop_eq_getElem_cons hjx
          have h2 := List.drop_eq_getElem_cons hlt
          rw [HD.out, h2] at h1
          injection h1 with _ h1
          exact h1.symm
        have HDN := Lib.hid hDn
        have HX := Lib.hid hx
        have i1 : (0 : Int) ≤ (j : Int) := Int.natCast_nonneg _
        have i2 : (j : Int) < (l.length : Int) := by omega
        have i3 : (m : Int) < (l.length : Int) := by omega
        have hpr := hu.keep hp hpg
        obtain ⟨wx, hwx⟩ : ∃ wx, wr.alloc (.cells #[.int .i64 x.f, .int .i64 x.t, .int .i64 x.k, .int .i64 x.key] 33) = wx := ⟨_, rfl⟩
        have ux : Upd No wr wx := by rw [← hwx]; exact (Upd.refl No wr).alloc _
        have bo : Blk wx wr.heap.size 33 [.int .i64 x.f, .int .i64 x.t, .int .i64 x.k, .int .i64 x.key] := by rw [← hwx]; exact Blk.new wr _ _
        have g0 := bo.cell 0
        have g1 := bo.cell 1
        have g2 := bo.cell 2
        have g3 := bo.cell 3
        simp only [List.getElem?_cons_zero, List.getElem?_cons_succ] at g0 g1 g2 g3
        have HC := Lib.hid (cbad wx p mask (ux.keepNo hpr) x)
        have BO := Lib.hid bo
        have UX := Lib.hid ux
        have HPR := Lib.hid hpr
        unfold Edge.cells at HC
        clear hx hjx hxj hWx hDn bo ux hpr HD
        cases hbx : badE mask x
        · rw [hbx] at HC
          have HBX := Lib.hid hbx
          clear hbx
          go_wp2_with fail
          refine (HC.out).mono ?_
          rintro e w2 ⟨rfl, hu2⟩
          have bo2 := BO.out.upd hu2 id
          have g0 := bo2.cell 0
          have g1 := bo2.cell 1
          have g2 := bo2.cell 2
          have g3 := bo2.cell 3
          simp only [List.getElem?_cons_zero, List.getElem?_cons_succ] at g0 g1 g2 g3
          have HB2 := Lib.hid ((HBc.out.upd UX.out id).upd hu2 id)
          have HU2 := Lib.hid (hu.trans ((UX.out.trans hu2).mono (fun _ _ e => e.elim)))
          clear hu2 HC
          go_wp2_with (refine wpl_storeAt rfl rfl (g := g) (off := m * 4) (cells := [.int .i64 x.f, .int .i64 x.t, .int .i64 x.k, .int .i64 x.key]) rfl (by rw [HAD.out, lit_add, Nat.zero_add]) rfl HB2.out (by kernel_rfl) (by have := HCS.out.2; simp only [List.length_cons, List.length_nil]; omega) (by intro v hv; simp only [List.mem_cons, List.not_mem_nil, or_false] at hv; rcases hv with rfl | rfl | rfl | rfl <;> rfl) ?_; intro w5 hb5 hu5)
          have hcs5 := edgesF_set (m := m) (n := l.length) (x := x) (xs := xs) (cs := cs) (by omega) HXN.out (by have := HCS.out.2; omega) HCS.out.1
          have hl5 : (cs.take (m * 4) ++ x.cells ++ cs.drop (m * 4 + x.cells.length)).length = c * 4 := by
            have h4 : x.cells.length = 4 := rfl
            have := HCS.out.2
            rw [List.length_append, List.length_append, List.length_take, List.length_drop, h4]
            omega
          have hgo : goodL (l.take (j + 1)) mask = goodL (l.take j) mask ++ [x] := filtE_yes hlt HX.out (by rw [HBX.out]; rfl)
          have HB5 := Lib.hid hb5
          have HU5 := Lib.hid (HU2.out.trans hu5)
          have HC5 := Lib.hid (And.intro hcs5 hl5)
          have HG5 := Lib.hid hgo
          clear hb5 hu5 hcs5 hl5 hgo
          go_roundg (gk - 1)
          case measure => omega
          case rel =>
            refine ⟨m + 1, j + 1, xs.set m x, _, by omega, by go_num, by go_num, by omega, Lib.hid (by rw [List.length_set]; exact HXN.out), Lib.hid ⟨?_, ?_⟩, Lib.hid ?_, HB5, HC5, HU5.out⟩
            · rw [HG5.out, ← HM.out.1, List.set_eq_take_append_cons_drop, if_pos (by have := HXN.out; omega), List.take_append, List.take_of_length_le (by rw [List.length_take]; omega), List.length_take, Nat.min_eq_left (by have := HXN.out; omega), Nat.add_sub_cancel_left]
              rfl
            · rw [HG5.out, List.length_append, HM.out.2]
              rfl
            · rw [List.drop_set_of_lt (by omega)]
              exact HDN.out
        · rw [hbx] at HC
          have hgo : goodL (l.take (j + 1)) mask = goodL (l.take j) mask := filtE_no hlt HX.out (by rw [hbx]; rfl)
          have HG5 := Lib.hid hgo
          clear hbx hgo
          go_wp2_with fail
          refine (HC.out).mono ?_
          rintro e w2 ⟨rfl, hu2⟩
          have HB2 := Lib.hid ((HBc.out.upd UX.out id).upd hu2 id)
          have HU2 := Lib.hid (hu.trans ((UX.out.trans hu2).mono (fun _ _ e => e.elim)))
          clear hu2 HC
          go_wp2
          go_roundg (gk - 1)
          case measure => omega
          case rel => exact ⟨m, j + 1, xs, cs, by omega, rfl, by go_num, by omega, HXN, Lib.hid (by rw [HG5.out]; exact HM.out), HDN, HB2, HCS, HU2.out⟩
      · obtain rfl : j = l.length := by omega
        have hA := HAD.out
        subst hA
        have hgl : goodL l mask = xs.take m ∧ (goodL l mask).length = m := by
          have := HM.out
          rw [List.take_length] at this
          exact ⟨this.1.symm, this.2⟩
        have HGL := Lib.hid hgl
        have i3 : (m : Int) ≤ (l.length : Int) := by omega
        have hci : ¬ c = m := by omega
        have k1 : ∀ W, (Instr.slice 23 (.slice (some ⟨g, 0, none⟩) l.length c) (some (.int .i64 (m : Int))) none none).run Try.prog W = .ok (.slice (some ⟨g, m * 4, none⟩) (l.length - m) (c - m)) W := fun W => by
          have := run_cut_l (P := Try.prog) (W := W) slt_edges (some ⟨g, 0, none⟩) l.length c m (by omega)
          rwa [cutAi hci] at this
        have k2 : ∀ W, (Instr.slice 23 (.slice (some ⟨g, 0, none⟩) l.length c) none (some (.int .i64 (m : Int))) none).run Try.prog W = .ok (.slice (some ⟨g, 0, none⟩) m c) W := fun W => by
          have := run_cut_h (P := Try.prog) (W := W) slt_edges (some ⟨g, 0, none⟩) l.length c m (by omega)
          rwa [cutA0] at this
        have HU := Lib.hid hu
        clear hgl hu HB1 HU1 HTK HT HCL HXL HM HD
        go_wp2_with (refine wp_clearB rfl rfl slt_edges (z := .agg #[.int .i64 0, .int .i64 0, .int .i64 0, .int .i64 0]) (fun w => by kernel_rfl) rfl (by intro v hv; simp [Value.cells] at hv; subst hv; rfl) (g := g) (off := m * 4) (n := l.length - m) rfl (by omega) HBc.out (by have := HCS.out.2; omega) ?_; intro zs w6 hzs hB6 hu6)
        have hfin : (cs.take (m * 4) ++ zs ++ cs.drop (m * 4 + zs.length)).take (m * 4) = edgesF (goodL l mask) := by
          rw [List.append_assoc, List.take_append_of_le_length (by rw [List.length_take]; have := HCS.out.2; omega), List.take_take, Nat.min_self, HGL.out.1, ← edgesF_take, ← HCS.out.1, List.take_take, Nat.min_eq_left (by omega)]
        have HF := Lib.hid hfin
        have HB7 := Lib.hid hB6
        have HU7 := Lib.hid (HU.out.trans hu6)
        clear hfin hB6 hu6
        go_wp2
        go_ret
        exact ⟨by rw [HGL.out.2]; rfl, ⟨_, HB7.out, by rw [HGL.out.2]; exact HF.out⟩, HU7.out⟩
  · have hix : idxE l mask = -1 := by unfold idxE; rw [if_neg hpos]
    rw [hix] at HI
    have hall : goodL l mask = l := by
      unfold goodL
      rw [List.filter_eq_self]
      intro x hx
      have h0 : posE l mask = l.length := by
        have := List.findIdx_le_length (xs := l) (p := badE mask)
        unfold posE at hpos ⊢
        omega
      have h1 := (List.findIdx_eq_length (p := badE mask) (xs := l)).1 h0 x hx
      rw [h1]
      rfl
    have HALL := Lib.hid hall
    have HB := Lib.hid hb
    have HT := Lib.hid ht
    clear hix hpos hall hW hb ht
    go_enter Try.func63, Try.ntmps63
    go_wp2_with fail
    refine (HI.out).mono ?_
    rintro e w1 ⟨rfl, hu1⟩
    go_wp2
    go_ret
    exact ⟨by rw [HALL.out]; rfl, ⟨cur, HB.out.upd hu1 id, by rw [HALL.out]; exact HT.out⟩, hu1.mono (fun _ _ e => e.elim)⟩
end Go.Proofs.Ytaicemjckagcaaa

/- Closed walks: the first of the shortest: what is called, and what is known of walks. -/
namespace Go.Proofs.Ytaicemjckagcaaa
set_option linter.unusedVariables false
open Go.RowKit
theorem own_empE {W : World} {B n : Nat} {e : TypeId} (hn : n = W.heap.size) (hB : B ≤ W.heap.size) : (W.alloc (.cells #[] e)).ownsRow B e 4 (.slice (some ⟨n, 0, none⟩) 0 0) 0 [] := by
  subst hn
  exact own_base (World.ownsRow_made W #[] 0 (Nat.le_refl _) (by decide) rfl) hB
theorem src_walk {F : Nat → Prop} {w : World} {A : Option Addr} {l : List Edge} (h : Walk F w A l) : Src w A l.length 4 (edgesF l) := by
  have := Recs.src h edges_len
  rwa [List.length_map] at this
theorem cclone (F : Nat → Prop) (w : World) (A : Option Addr) (c : Nat) (l : List Edge) (h : Walk F w A l) (hl : l.length ≤ 1000000) :
    Calls Try.prog 64 #[.slice A l.length c] w (NewEd w l) := by
  have qT : ∀ (w : World) (a : Option Addr) (n c : Nat), (binOp .eql 23 (.slice a n c) (.slice none 0 0)).run Try.prog w = .ok (.bool a.isNone) w := fun w a n c => Lib.run_eql_slice_nil w _ _ a n c 0 0 Try.underlying23
  cases A with
  | none =>
    have h0 : l = [] := by
      cases l with
      | nil => rfl
      | cons a l => obtain ⟨_, e, _⟩ := h (by simp); cases e
    subst h0
    go_enter Try.func64, Try.ntmps64
    go_wp2
    go_ret
    exact ⟨none, 0, rfl, World.ownsRow_nil _ _ _ _, Upd.refl _ _⟩
  | some ad =>
    have hs := Lib.hid (h.upd ((Upd.refl No w).alloc (.cells #[] 33)) (fun _ _ => id))
    go_enter Try.func64, Try.ntmps64
    go_wp2_with (at_builtin; refine appN rfl rfl slt_edges (base := w.heap.size) (v := .slice (some ⟨w.heap.size, 0, none⟩) 0 0) (n := 0) (m := l.length) (xs := []) rfl rfl (own_empE rfl (Nat.le_refl _)) (src_walk hs.out) edges_one (by omega) (by omega) (by simp) ?_)
    intro v4 w4 hown4 hu4 hg4
    obtain ⟨A4, c4, rfl⟩ := own_slice hown4
    have uw4 : Upd No w w4 := ((Upd.refl No w).alloc _).then_ hu4 (fun j e => .inr (own_ge e))
    go_wp2
    go_ret
    exact ⟨A4, c4, by simp, by simpa using hown4, uw4⟩
set_option maxRecDepth 100000 in
theorem cdelW (w : World) (base : Nat) (A : Option Addr) (c : Nat) (l : List Edge) (p : Addr) (mask : Int) (ho : w.ownsRow base 33 4 (.slice A l.length c) l.length (edgesF l)) (hl : l.length ≤ 1000000)
    (hp : w.cell? p = some (.int .i64 mask)) (hpb : p.block < base) :
    Calls Try.prog 63 #[.slice A l.length c, .func (.func 65) #[] #[.pointer (some p)]] w fun e w' => e = .returned (.slice A (goodL l mask).length c) ∧ Walk (fun i => base ≤ i) w' A (goodL l mask) ∧ Upd (Own (.slice A l.length c)) w w' := by
  by_cases h0 : l = []
  · subst h0
    have HI := Lib.hid (cidx (fun _ => True) w A c [] p mask (fun h => absurd rfl h) (by simp) hp)
    rw [show idxE [] mask = -1 from rfl] at HI
    go_enter Try.func63, Try.ntmps63
    go_wp2_with fail
    refine (HI.out).mono ?_
    rintro e w1 ⟨rfl, hu1⟩
    go_wp2
    go_ret
    exact ⟨rfl, fun h => absurd rfl h, hu1.mono (fun _ _ e => e.elim)⟩
  · obtain ⟨g, cur, rfl, hgb, hB, hnc, hcl, hct, hcm⟩ := own_blk ho (List.length_pos_iff.2 h0)
    refine (cdel w ⟨g, 0, none⟩ g c (Lib.hid rfl) l cur p mask hB hct hcl hnc hl hp (by omega)).mono ?_
    rintro e w' ⟨rfl, ⟨cs, hb, ht⟩, hu⟩
    exact ⟨rfl, Recs.weak (walk_blk hb ht) (fun i _ e => by subst e; exact hgb), hu.mono (fun i _ e => by cases e; rfl)⟩
/-- the walk that is told has as many arcs as was said -/
theorem walk_len {N : Nat} {q : List HArc} (hr : ∀ a ∈ q, rightA N a = true) (hs : sortedA q) (mask must : Int) (need : Bool) {i : Int} (h0 : 0 ≤ i) (h1 : i < (N : Int)) (hk : 0 < shortA (ofA mask q) must i (anyD N q mask i) (withF N q mask must i) need) :
    ((walkC (ofA mask q) must i (anyD N q mask i) (withF N q mask must i) (shortA (ofA mask q) must i (anyD N q mask i) (withF N q mask must i) need).toNat i need).length : Int) = shortA (ofA mask q) must i (anyD N q mask i) (withF N q mask must i) need := by
  have hL : LoopD (ofA mask q) must i (anyD N q mask i) (withF N q mask must i) := loopD_of hr mask must i h0 h1
  obtain ⟨c, c1, c2, c3, c4⟩ := short_of hL need hk
  have hsp := walkC_spec (hs.filter _) hL (any_ge hr mask must i h0 h1) (with_ge hr mask must i h0 h1) (shortA (ofA mask q) must i (anyD N q mask i) (withF N q mask must i) need).toNat i need (Int.le_refl _) ⟨c, c2, by omega, c4⟩ (fun l l1 l2 l3 => by
    have := (short_le hL need l1 l2 l3).2
    omega)
  exact (congrArg (fun n : Nat => (n : Int)) hsp.2.1).trans (Int.toNat_of_nonneg (Int.le_of_lt hk))
theorem short_in {N : Nat} {q : List HArc} (hN : N ≤ 100000) (hr : ∀ a ∈ q, rightA N a = true) (mask must : Int) (need : Bool) {i : Int} (h0 : 0 ≤ i) (h1 : i < (N : Int)) :
    0 ≤ shortA (ofA mask q) must i (anyD N q mask i) (withF N q mask must i) need ∧ shortA (ofA mask q) must i (anyD N q mask i) (withF N q mask must i) need ≤ 1000000 := by
  have hb := rows_bdT hN hr mask must i h0 h1
  have hsp := shortF_spec (leftF must (anyD N q mask i) (withF N q mask must i) need) ((ofA mask q).filter fun a => a.f == i) 0 (Int.le_refl _)
  refine ⟨hsp.1, ?_⟩
  refine Classical.byContradiction fun hc => ?_
  have hc2 : 0 < shortF (leftF must (anyD N q mask i) (withF N q mask must i) need) 0 ((ofA mask q).filter fun a => a.f == i) := by unfold shortA at hc; omega
  rcases hsp.2.2.2 hc2 with e | ⟨a, _, ha, e⟩
  · omega
  · have hle : leftF must (anyD N q mask i) (withF N q mask must i) need a ≤ 900000 := by
      unfold leftF
      split
      · exact (hb a.t).2.2
      · exact (hb a.t).1.2
    unfold shortA at hc
    omega
theorem kept_good (l : List Edge) (mask : Int) : goodL l (bits .and .i64 mask 14) = keptE l mask := by
  unfold goodL keptE
  congr 1
  funext e
  rw [badE14, Bool.not_not]
end Go.Proofs.Ytaicemjckagcaaa
