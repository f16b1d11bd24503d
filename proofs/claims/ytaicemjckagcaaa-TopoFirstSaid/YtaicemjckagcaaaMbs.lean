/- Orders: heap.Push and heap.Pop. -/
import Derived.Test.YtaicemjckagcaaaMam
import Derived.Test.YtaicemjckagcaaaMap
import Derived.Test.YtaicemjckagcaaaMbo
import Derived.Test.YtaicemjckagcaaaMbr
namespace Go.Proofs.Ytaicemjckagcaaa
set_option linter.unusedVariables false
open Go.RowKit
theorem HpF.least {xs : List Int} (h : HpF xs 0 xs.length) : ∀ k, k < xs.length → xs.getD 0 0 ≤ xs.getD k 0 := by
  intro k
  induction k using Nat.strongRecOn with
  | _ k ih =>
    intro hk
    cases k with
    | zero => exact Int.le_refl _
    | succ j =>
      have h1 := h (j + 1) (by omega) hk (by omega)
      have h2 := ih ((j + 1 - 1) / 2) (by omega) (by omega)
      omega
theorem HpF.upI {xs : List Int} (x : Int) (h : HpF xs 0 xs.length) : UpI (xs ++ [x]) xs.length := by
  constructor
  · intro k h1 h2 h3
    rw [List.length_append, List.length_singleton] at h2
    have h4 := h k h1 (by omega) (by omega)
    have e1 : (k - 1) / 2 < xs.length := by omega
    have e2 : k < xs.length := by omega
    simp only [List.getD_eq_getElem?_getD, List.getElem?_append_left e1, List.getElem?_append_left e2]
    simpa only [List.getD_eq_getElem?_getD] using h4
  · intro k h1 h2 h3 h4
    rw [List.length_append, List.length_singleton] at h2
    omega
theorem HpF.swapped {xs : List Int} {n : Nat} (h : HpF xs 0 xs.length) (hn : n < xs.length) : HpF (swapL xs 0 n) 1 n := by
  intro k h1 h2 h3
  rw [swapL_get _ _ _ _ (by omega) hn, swapL_get _ _ _ _ (by omega) hn, if_neg (by omega), if_neg (by omega), if_neg (by omega), if_neg (by omega)]
  exact h k h1 (by omega) (by omega)
theorem last_split (zs : List Int) (n : Nat) (hz : zs.length = n + 1) : zs = zs.take n ++ [zs.getD n 0] := by
  have h1 : zs.getD n 0 = zs[n]'(by omega) := by rw [List.getD_eq_getElem?_getD, List.getElem?_eq_getElem (by omega)]; rfl
  have h2 := List.take_succ_eq_append_getElem (l := zs) (i := n) (by omega)
  rw [List.take_of_length_le (by omega)] at h2
  rw [h1]
  exact h2
theorem HpF.take {zs : List Int} {n : Nat} (h : HpF zs 0 n) : HpF (zs.take n) 0 n := by
  intro k h1 h2 h3
  have h4 := h k h1 h2 h3
  have e1 : (k - 1) / 2 < n := by omega
  simp only [List.getD_eq_getElem?_getD, List.getElem?_take_of_lt e1, List.getElem?_take_of_lt h2]
  simpa only [List.getD_eq_getElem?_getD] using h4
set_option maxRecDepth 100000 in
set_option maxHeartbeats 4000000 in
theorem hpush (w : World) (base hb : Nat) (A : Option Addr) (xs : List Int) (c : Nat) (x : Int) (hl : xs.length ≤ 100000) (hbs : base ≤ w.heap.size) (h : HeapM w base hb A xs c) (hp : HpF xs 0 xs.length) :
    Calls Try.prog 59 #[hif hb, .iface 3 (.int .i64 x)] w fun e w' => e = .returned (.tuple #[]) ∧ ∃ A' c' ys, ys.Perm (xs ++ [x]) ∧ HpF ys 0 ys.length ∧ HeapM w' base hb A' ys c' ∧ Grew w (.slice A xs.length c) (.slice A' ys.length c') ∧ Upd (fun i => i = hb ∨ Own (.slice A xs.length c) i) w w' := by
  have hm := m_push (some ⟨hb, 0, none⟩) w
  have HC := Lib.hid (rdpush w base hb A xs c x (by omega) hbs h)
  have HU := Lib.hid hup
  have HP := Lib.hid hp
  have hl1 : (xs ++ [x]).length = xs.length + 1 := by simp
  have HL1 := Lib.hid hl1
  clear h hp
  unfold hif
  go_enter Try.func59, Try.ntmps59
  go_wp2_with fail
  refine Calls.mono HC.out ?_
  rintro e w1 ⟨rfl, A1, c1, h1, hg1, hu1⟩
  have hm1 := h1.mLen
  have HG1 := Lib.hid hg1
  have HL := Lib.hid (rdlen w1 A1 (xs ++ [x]).length c1)
  rw [hl1] at hm1 HL
  have H1 := Lib.hid h1
  clear hg1 h1 hl1
  go_wp2_with fail
  refine Calls.mono HL.out ?_
  rintro e w2 ⟨rfl, rfl⟩
  go_wp2_with fail
  refine Calls.mono (HU.out w1 base hb A1 (xs ++ [x]) c1 xs.length (by rw [HL1.out]; omega) (by rw [HL1.out]; omega) H1.out (HP.out.upI x)) ?_
  rintro e w3 ⟨rfl, ys, y1, y2, y3, hu3⟩
  have HY2 := Lib.hid y2
  have HY1 := Lib.hid y1
  clear y1 y2
  go_wp2
  go_end0
  refine ⟨rfl, A1, c1, ys, HY1.out, HY2.out, y3, ?_, hu1.then_ hu3 ?_⟩
  · rw [HY1.out.length_eq]; exact HG1.out
  · intro i hi
    rcases HG1.out with h2 | ⟨k, h2, h3⟩
    · exact Or.inl (Or.inr (show _ = some i by rw [← h2]; exact hi))
    · unfold Own at hi
      rw [h2] at hi
      cases hi
      exact Or.inr h3
set_option maxRecDepth 100000 in
set_option maxHeartbeats 4000000 in
theorem hpop (w : World) (base hb : Nat) (A : Option Addr) (xs : List Int) (c : Nat) (n : Nat) (hn : xs.length = n + 1) (hl : xs.length ≤ 100000) (m : Int) (hm0 : xs.getD 0 0 = m) (h : HeapM w base hb A xs c) (hp : HpF xs 0 xs.length) :
    Calls Try.prog 58 #[hif hb] w fun e w' => e = .returned (.iface 3 (.int .i64 m)) ∧ ∃ ys, (ys ++ [m]).Perm xs ∧ HpF ys 0 ys.length ∧ HeapM w' base hb A ys c ∧ Upd (fun i => i = hb ∨ Own (.slice A xs.length c) i) w w' := by
  have hm := h.mLen
  have HL := Lib.hid (rdlen w A xs.length c)
  rw [hn] at HL hm
  have hms := h.mSwap
  have HS := Lib.hid (h.swap (by omega) (i := 0) (j := n) (by omega) (by omega))
  have HD := Lib.hid hdown
  have HR := Lib.hid rdpop
  have HP := Lib.hid hp
  have HN := Lib.hid hn
  have HM := Lib.hid hm0
  rw [hn] at HS hms
  clear h hp hm0
  unfold hif at HD ⊢
  go_enter Try.func58, Try.ntmps58
  go_wp2_with fail
  refine Calls.mono HL.out ?_
  rintro e w2 ⟨rfl, rfl⟩
  go_wp2_with fail
  refine Calls.mono HS.out ?_
  rintro e w3 ⟨rfl, h3, hu3⟩
  have hll : (swapL xs 0 n).length = n + 1 := by rw [swapL_len]; exact hn
  have HLL := Lib.hid hll
  have H3 := Lib.hid h3
  have HU3 := Lib.hid hu3
  clear hll h3 hu3
  go_wp2_with fail
  refine Calls.mono (HD.out w3 base hb A (swapL xs 0 n) c 0 n (by rw [HLL.out]; omega) (by omega) (by rw [HLL.out]; omega) H3.out (HP.out.swapped (by omega)).down) ?_
  rintro e w4 ⟨b, zs, rfl, z1, z2, z3, h4, hu4⟩
  have hzl : zs.length = n + 1 := z1.length_eq.trans HLL.out
  have hzs := last_split zs n hzl
  have hzn : zs.getD n 0 = xs.getD 0 0 := by rw [z3 n (Nat.le_refl _), swapL_get _ _ _ _ (by omega) (by omega), if_pos rfl]
  rw [hzn, HM.out] at hzs
  have H4 := Lib.hid (hzs ▸ h4)
  have hmp := m_pop (some ⟨hb, 0, none⟩) w4
  have HU4 := Lib.hid hu4
  have HZ := Lib.hid (And.intro z1 (And.intro z2 (And.intro hzs hzl)))
  have htl : (zs.take n).length = n := by rw [List.length_take]; omega
  have HTL := Lib.hid htl
  clear z1 z2 z3 hzl hzs hzn h4 hu4 htl
  go_wp2_with fail
  refine Calls.mono (HR.out w4 base hb A (zs.take n) c m (by rw [HTL.out]; omega) H4.out) ?_
  rintro e w5 ⟨rfl, h5, hu5⟩
  go_wp2
  go_ret
  obtain ⟨z1, z2, z3, z4⟩ := HZ.out
  have hperm : (zs.take n ++ [m]).Perm xs := by rw [← z3]; exact z1.trans (swapL_perm xs 0 n (by omega) (by omega))
  have hsl := swapL_len xs 0 n
  refine ⟨rfl, zs.take n, hperm, by rw [HTL.out]; exact z2.take, h5, ?_⟩
  refine Upd.trans ?_ (hu5.mono (fun _ _ e => Or.inl e))
  refine Upd.trans (HU3.out.mono (fun _ _ e => Or.inr ?_)) (HU4.out.mono (fun _ _ e => Or.inr ?_))
  · rw [HN.out]; exact e
  · rw [hsl] at e; exact e
end Go.Proofs.Ytaicemjckagcaaa

/- Closed walks: the digraph of some edges. -/
namespace Go.Proofs.Ytaicemjckagcaaa
set_option linter.unusedVariables false
open Go.RowKit
end Go.Proofs.Ytaicemjckagcaaa

/- Closed walks: the edges that do not count are dropped. -/
namespace Go.Proofs.Ytaicemjckagcaaa
set_option linter.unusedVariables false
open Go.RowKit
theorem walk_blk {w : World} {g : Nat} {cs : List Value} {l : List Edge} (hb : Blk w g 33 cs) (h : cs.take (l.length * 4) = edgesF l) : Walk (fun i => i = g) w (some ⟨g, 0, none⟩) l := by
  intro _
  refine ⟨_, rfl, rfl, hb.lt, fun i row hi j v hj => ?_⟩
  have e1 : (⟨g, 0, none⟩ : Addr).add (i * 4 + j) = ⟨g, i * 4 + j, none⟩ := by unfold Addr.add; split <;> simp_all
  rw [e1, hb.cell]
  have h1 := flat_get (size := 4) (rows := l.map Edge.cells) edges_len hi hj
  have h2 : (cs.take (l.length * 4))[i * 4 + j]? = some v := by rw [h]; exact h1
  rw [List.getElem?_take] at h2
  split at h2
  · exact h2
  · cases h2
end Go.Proofs.Ytaicemjckagcaaa

/- Closed walks: the first of the shortest: what is called, and what is known of walks. -/
namespace Go.Proofs.Ytaicemjckagcaaa
set_option linter.unusedVariables false
open Go.RowKit
end Go.Proofs.Ytaicemjckagcaaa

/- Closed walks: the first of the shortest. -/
namespace Go.Proofs.Ytaicemjckagcaaa
set_option linter.unusedVariables false
open Go.RowKit
end Go.Proofs.Ytaicemjckagcaaa

/- Closed walks: the answers that the document gives. -/
namespace Go.Proofs.Ytaicemjckagcaaa
set_option linter.unusedVariables false
open Go.RowKit
section
variable {F : Nat → Prop} {w : World} {A : Option Addr} {c : Nat} {l d : List Edge} {mask must : Int}
end
end Go.Proofs.Ytaicemjckagcaaa

/- Closed walks, the document's: edges in order, and their ids. -/
namespace Go.Proofs.Ytaicemjckagcaaa
set_option linter.unusedVariables false
open Go.RowKit
end Go.Proofs.Ytaicemjckagcaaa

/- Closed walks, the document's: the ids from which so many steps lead to one. -/
namespace Go.Proofs.Ytaicemjckagcaaa
set_option linter.unusedVariables false
open Go.RowKit
/-- a slice of numbers, lying in blocks of F -/
def RowOk (F : Nat → Prop) (w : World) (v : Value) (l : List Int) : Prop := ∃ B c, v = .slice B l.length c ∧ Ints F w B l
theorem RowOk.upd {F S : Nat → Prop} {w w' : World} {v : Value} {l : List Int} (h : RowOk F w v l) (u : Upd S w w') (hn : ∀ i, F i → ¬ S i) : RowOk F w' v l := by
  obtain ⟨B, c, e, h⟩ := h
  exact ⟨B, c, e, h.upd u hn⟩
theorem RowOk.weak {F G : Nat → Prop} {w : World} {v : Value} {l : List Int} (h : RowOk F w v l) (hg : ∀ i, i < w.heap.size → F i → G i) : RowOk G w v l := by
  obtain ⟨B, c, e, h⟩ := h
  exact ⟨B, c, e, h.weak hg⟩
/-- the rows of all steps up to one, as values -/
structure RowsOk (F : Nat → Prop) (w : World) (vs : List Value) (f : Nat → List Int) : Prop where
  ok : ∀ (j : Nat) (h : j < vs.length), RowOk F w vs[j] (f j)
theorem RowsOk.upd {F S : Nat → Prop} {w w' : World} {vs : List Value} {f : Nat → List Int} (h : RowsOk F w vs f) (u : Upd S w w') (hn : ∀ i, F i → ¬ S i) : RowsOk F w' vs f := ⟨fun j hj => (h.ok j hj).upd u hn⟩
theorem RowsOk.weak {F G : Nat → Prop} {w : World} {vs : List Value} {f : Nat → List Int} (h : RowsOk F w vs f) (hg : ∀ i, i < w.heap.size → F i → G i) : RowsOk G w vs f := ⟨fun j hj => (h.ok j hj).weak hg⟩
theorem RowsOk.app {F : Nat → Prop} {w : World} {vs : List Value} {f : Nat → List Int} {v : Value} (h : RowsOk F w vs f) (k : RowOk F w v (f vs.length)) : RowsOk F w (vs ++ [v]) f := ⟨fun j hj => by
  rw [List.length_append, List.length_singleton] at hj
  by_cases h1 : j < vs.length
  · rw [List.getElem_append_left h1]
    exact h.ok j h1
  · have h2 : j = vs.length := by omega
    subst h2
    rw [List.getElem_append_right (Nat.le_refl _)]
    simpa using k⟩
/-- rows of rows as they are read: at ad, so many, each a slice of numbers -/
structure RowsAt (w : World) (A : Option Addr) (n : Nat) (f : Nat → List Int) : Prop where
  at_ : ∀ j, j < n → ∃ ad B c, A = some ad ∧ w.cell? (ad.add j) = some (.slice B (f j).length c) ∧ Ints (fun _ => True) w B (f j)
theorem RowsAt.upd {w w' : World} {A : Option Addr} {n : Nat} {f : Nat → List Int} (h : RowsAt w A n f) (u : Upd No w w') : RowsAt w' A n f := ⟨fun j hj => by
  obtain ⟨ad, B, c, e, h1, h2⟩ := h.at_ j hj
  exact ⟨ad, B, c, e, u.keepNo h1, h2.upd u (fun _ _ => id)⟩⟩
end Go.Proofs.Ytaicemjckagcaaa

/- Closed walks, the document's: the search is walked. -/
namespace Go.Proofs.Ytaicemjckagcaaa
set_option linter.unusedVariables false
open Go.RowKit
theorem rin01u (w : World) (F : Nat → Prop) (A : Option Addr) (c : Nat) (l : List Int) (a : Int) (h : Ints F w A l) (hl : l.length ≤ 4398046511103) {v : Bool} (hv : decide (a ∈ l) = v) :
    Calls Try.prog 17 #[.slice A l.length c, .int .i64 a] w fun e w' => e = .returned (.bool v) ∧ Upd No w w' := by
  subst hv
  refine (rin01 w F A c l a h hl).mono ?_
  rintro e w' ⟨rfl, rfl⟩
  exact ⟨rfl, Upd.refl _ _⟩
end Go.Proofs.Ytaicemjckagcaaa

/- Closed walks, the document's: the first walk of so many steps. -/
namespace Go.Proofs.Ytaicemjckagcaaa
set_option linter.unusedVariables false
open Go.RowKit
end Go.Proofs.Ytaicemjckagcaaa

/- Orders, the document's: Along. -/
namespace Go.Proofs.Ytaicemjckagcaaa
set_option linter.unusedVariables false
open Go.RowKit
/-- one edge is gone along -/
def alongE (order : List Int) (e : Edge) : Bool := !(decide (0 ≤ idxS e.f order 0) && decide (0 ≤ idxS e.t order 0) && decide (idxS e.t order 0 ≤ idxS e.f order 0))
end Go.Proofs.Ytaicemjckagcaaa
