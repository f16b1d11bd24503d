/- Closed walks, plain: the document's search tells the same. -/
import Derived.Test.YtmnhgdedkniafaaMak
import Derived.Test.YtmnhgdedkniafaaMan
import Derived.Test.YtmnhgdedkniafaaMas
import Derived.Test.YtmnhgdedkniafaaMbf
import Derived.Test.YtmnhgdedkniafaaMbg
import Derived.Test.YtmnhgdedkniafaaMbl
import Derived.Test.YtmnhgdedkniafaaMbm
namespace Go.Proofs.Ytmnhgdedkniafaa
set_option linter.unusedVariables false
open Go.RowKit
def bitR (mask k : Int) : Bool := decide (1 ≤ k) && (decide (k ≤ 3) && bitM mask k)
def Edge.arc (e : Edge) : HArc := ⟨e.f, e.t, e.k, e.key⟩
def HArc.edge (a : HArc) : Edge := ⟨a.f, a.t, a.kind, a.label⟩
theorem arc_edge (e : Edge) : e.arc.edge = e := rfl
theorem edge_arc (a : HArc) : a.edge.arc = a := rfl
/-- one step back: the ids from which an edge leads to those of the step ahead -/
def stepN (must : Int) (pa pn : List Int) (b : List Int) (e : Edge) : List Int :=
  if decide (e.t ∈ pn) = true then putL e.f (if (decide (e.t ∈ pa) && bitR must e.k) = true then putL e.f b else b) else (if (decide (e.t ∈ pa) && bitR must e.k) = true then putL e.f b else b)
def stepA (pa : List Int) (a : List Int) (e : Edge) : List Int := if decide (e.t ∈ pa) = true then putL e.f a else a
def stepR (must : Int) (pa pn : List Int) : List Int → List Int → List Edge → List Int × List Int
  | a, b, [] => (a, b)
  | a, b, e :: l => stepR must pa pn (stepA pa a e) (stepN must pa pn b e) l
def rowsW (must : Int) (l : List Edge) (tgt : Int) : Nat → List Int × List Int
  | 0 => ([tgt], [])
  | n + 1 => stepR must (rowsW must l tgt n).1 (rowsW must l tgt n).2 [] [] l
theorem mem_stepA (pa a : List Int) (e : Edge) (u : Int) : u ∈ stepA pa a e ↔ u ∈ a ∨ (e.t ∈ pa ∧ u = e.f) := by
  unfold stepA
  split
  · rename_i h
    have h := of_decide_eq_true h
    rw [mem_putL]
    constructor
    · rintro (e | e)
      · exact .inr ⟨h, e⟩
      · exact .inl e
    · rintro (e | ⟨_, e⟩)
      · exact .inr e
      · exact .inl e
  · rename_i h
    have h : ¬ e.t ∈ pa := fun e => h (decide_eq_true e)
    exact ⟨.inl, fun e => e.elim id fun e => absurd e.1 h⟩
theorem mem_stepN (must : Int) (pa pn b : List Int) (e : Edge) (u : Int) : u ∈ stepN must pa pn b e ↔ u ∈ b ∨ (u = e.f ∧ ((e.t ∈ pa ∧ bitR must e.k = true) ∨ e.t ∈ pn)) := by
  have h1 : ∀ x : List Int, (u ∈ (if (decide (e.t ∈ pa) && bitR must e.k) = true then putL e.f x else x)) ↔ u ∈ x ∨ (u = e.f ∧ (e.t ∈ pa ∧ bitR must e.k = true)) := by
    intro x
    split
    · rename_i h
      rw [Bool.and_eq_true, decide_eq_true_eq] at h
      rw [mem_putL]
      constructor
      · rintro (e | e)
        · exact .inr ⟨e, h⟩
        · exact .inl e
      · rintro (e | ⟨e, _⟩)
        · exact .inr e
        · exact .inl e
    · rename_i h
      rw [Bool.and_eq_true, decide_eq_true_eq] at h
      exact ⟨.inl, fun e => e.elim id fun e => absurd e.2 h⟩
  unfold stepN
  split
  · rename_i h
    have h := of_decide_eq_true h
    rw [mem_putL, h1]
    constructor
    · rintro (e | e | e)
      · exact .inr ⟨e, .inr h⟩
      · exact .inl e
      · exact .inr ⟨e.1, .inl e.2⟩
    · rintro (e | ⟨e, k | k⟩)
      · exact .inr (.inl e)
      · exact .inl e
      · exact .inl e
  · rename_i h
    have h : ¬ e.t ∈ pn := fun e => h (decide_eq_true e)
    rw [h1]
    constructor
    · rintro (e | e)
      · exact .inl e
      · exact .inr ⟨e.1, .inl e.2⟩
    · rintro (e | ⟨e, k | k⟩)
      · exact .inl e
      · exact .inr ⟨e, k⟩
      · exact absurd k h
theorem mem_stepW1 (must : Int) (pa pn : List Int) (u : Int) : ∀ (l : List Edge) (a b : List Int), u ∈ (stepR must pa pn a b l).1 ↔ u ∈ a ∨ ∃ e ∈ l, e.t ∈ pa ∧ u = e.f
  | [], a, b => by simp [stepR]
  | e :: l, a, b => by
    show u ∈ (stepR must pa pn (stepA pa a e) (stepN must pa pn b e) l).1 ↔ _
    rw [mem_stepW1 must pa pn u l, mem_stepA]
    constructor
    · rintro ((h | h) | ⟨x, hx, h⟩)
      · exact .inl h
      · exact .inr ⟨e, List.mem_cons_self, h⟩
      · exact .inr ⟨x, List.mem_cons_of_mem _ hx, h⟩
    · rintro (h | ⟨x, hx, h⟩)
      · exact .inl (.inl h)
      · rcases List.mem_cons.1 hx with rfl | hx
        · exact .inl (.inr h)
        · exact .inr ⟨x, hx, h⟩
theorem mem_stepW2 (must : Int) (pa pn : List Int) (u : Int) : ∀ (l : List Edge) (a b : List Int), u ∈ (stepR must pa pn a b l).2 ↔ u ∈ b ∨ ∃ e ∈ l, u = e.f ∧ ((e.t ∈ pa ∧ bitR must e.k = true) ∨ e.t ∈ pn)
  | [], a, b => by simp [stepR]
  | e :: l, a, b => by
    show u ∈ (stepR must pa pn (stepA pa a e) (stepN must pa pn b e) l).2 ↔ _
    rw [mem_stepW2 must pa pn u l, mem_stepN]
    constructor
    · rintro ((h | h) | ⟨x, hx, h⟩)
      · exact .inl h
      · exact .inr ⟨e, List.mem_cons_self, h⟩
      · exact .inr ⟨x, List.mem_cons_of_mem _ hx, h⟩
    · rintro (h | ⟨x, hx, h⟩)
      · exact .inl (.inl h)
      · rcases List.mem_cons.1 hx with rfl | hx
        · exact .inl (.inr h)
        · exact .inr ⟨x, hx, h⟩
section
variable {l : List Edge} {must lo : Int}
theorem mem_rowsA (hlo : ∀ e ∈ l, lo ≤ e.f) (tgt : Int) : ∀ (n : Nat) (u : Int), u ∈ (rowsW must l tgt n).1 ↔ ∃ c, okW (l.map Edge.arc) lo u c tgt ∧ c.length = n
  | 0, u => by
    show u ∈ [tgt] ↔ _
    rw [List.mem_singleton]
    constructor
    · intro e
      exact ⟨[], e, rfl⟩
    · rintro ⟨c, h, hl⟩
      have : c = [] := List.eq_nil_of_length_eq_zero hl
      subst this
      exact h
  | n + 1, u => by
    show u ∈ (stepR must (rowsW must l tgt n).1 (rowsW must l tgt n).2 [] [] l).1 ↔ _
    rw [mem_stepW1]
    constructor
    · rintro (h | ⟨e, he, h1, h2⟩)
      · cases h
      · obtain ⟨c, k1, k2⟩ := (mem_rowsA hlo tgt n e.t).1 h1
        exact ⟨e.arc :: c, ⟨List.mem_map.2 ⟨e, he, rfl⟩, h2.symm, by rw [h2]; exact hlo e he, k1⟩, by simp [k2]⟩
    · rintro ⟨c, k1, k2⟩
      cases c with
      | nil => simp at k2
      | cons a c =>
        obtain ⟨ha, haf, _, k1⟩ := k1
        obtain ⟨e, he, rfl⟩ := List.mem_map.1 ha
        exact .inr ⟨e, he, (mem_rowsA hlo tgt n e.t).2 ⟨c, k1, by simpa using k2⟩, haf.symm⟩
theorem bitR_isM {e : Edge} (h1 : 1 ≤ e.k) (h2 : e.k ≤ 3) : bitR must e.k = isM must e.arc := by
  unfold bitR isM
  rw [decide_eq_true h1, decide_eq_true h2]
  rfl
theorem mem_rowsN (hlo : ∀ e ∈ l, lo ≤ e.f) (hk : ∀ e ∈ l, 1 ≤ e.k ∧ e.k ≤ 3) (tgt : Int) : ∀ (n : Nat) (u : Int), u ∈ (rowsW must l tgt n).2 ↔ ∃ c, okW (l.map Edge.arc) lo u c tgt ∧ c.length = n ∧ hasM must c = true
  | 0, u => by
    show u ∈ [] ↔ _
    constructor
    · intro e
      cases e
    · rintro ⟨c, h, hl, hm⟩
      have : c = [] := List.eq_nil_of_length_eq_zero hl
      subst this
      cases hm
  | n + 1, u => by
    show u ∈ (stepR must (rowsW must l tgt n).1 (rowsW must l tgt n).2 [] [] l).2 ↔ _
    rw [mem_stepW2]
    constructor
    · rintro (h | ⟨e, he, h2, ⟨h1, h3⟩ | h1⟩)
      · cases h
      · obtain ⟨c, k1, k2⟩ := (mem_rowsA hlo tgt n e.t).1 h1
        rw [bitR_isM (hk e he).1 (hk e he).2] at h3
        exact ⟨e.arc :: c, ⟨List.mem_map.2 ⟨e, he, rfl⟩, h2.symm, by rw [h2]; exact hlo e he, k1⟩, by simp [k2], by rw [hasM_cons, h3]; rfl⟩
      · obtain ⟨c, k1, k2, k3⟩ := (mem_rowsN hlo hk tgt n e.t).1 h1
        exact ⟨e.arc :: c, ⟨List.mem_map.2 ⟨e, he, rfl⟩, h2.symm, by rw [h2]; exact hlo e he, k1⟩, by simp [k2], by rw [hasM_cons, k3]; simp⟩
    · rintro ⟨c, k1, k2, k3⟩
      cases c with
      | nil => simp at k2
      | cons a c =>
        obtain ⟨ha, haf, _, k1⟩ := k1
        obtain ⟨e, he, rfl⟩ := List.mem_map.1 ha
        refine .inr ⟨e, he, haf.symm, ?_⟩
        rw [hasM_cons, Bool.or_eq_true] at k3
        rcases k3 with k3 | k3
        · exact .inl ⟨(mem_rowsA hlo tgt n e.t).2 ⟨c, k1, by simpa using k2⟩, by rw [bitR_isM (hk e he).1 (hk e he).2]; exact k3⟩
        · exact .inr ((mem_rowsN hlo hk tgt n e.t).2 ⟨c, k1, by simpa using k2, k3⟩)
end
/-- whether an edge is the next of the first walk -/
def isR (must : Int) (pa pn : List Int) (here : Int) (need : Bool) (e : Edge) : Bool :=
  e.f == here && (if (need && !bitR must e.k) = true then decide (e.t ∈ pn) else decide (e.t ∈ pa))
/-- the first walk of so many steps -/
def firstR (must : Int) (l : List Edge) (rows : Nat → List Int × List Int) : Nat → Int → Bool → List Edge
  | 0, _, _ => []
  | n + 1, here, need => match l.find? (isR must (rows n).1 (rows n).2 here need) with
    | some e => e :: firstR must l rows n e.t (need && !bitR must e.k)
    | none => firstR must l rows n here need
theorem ltE_less (a b : Edge) : ltE a b = lessA a.arc b.arc := by
  unfold ltE lessA Edge.arc
  simp only [ne_eq]
  by_cases h1 : a.f = b.f
  · rw [if_neg (by simpa using h1), if_pos h1]
    by_cases h2 : a.k = b.k
    · rw [if_neg (by simpa using h2), if_pos h2]
      by_cases h3 : a.key = b.key
      · rw [if_neg (by simpa using h3), if_pos h3]
      · rw [if_pos h3, if_neg h3]
    · rw [if_pos h2, if_neg h2]
  · rw [if_pos h1, if_neg h1]
theorem firstR_spec {l : List Edge} {must lo : Int} (hs : l.Pairwise fun a b => ltE a b = true) (hlo : ∀ e ∈ l, lo ≤ e.f) (hk : ∀ e ∈ l, 1 ≤ e.k ∧ e.k ≤ 3) (tgt : Int) :
    ∀ (n : Nat) (here : Int) (need : Bool), (∃ c, okW (l.map Edge.arc) lo here c tgt ∧ c.length = n ∧ (need = true → hasM must c = true)) →
      okW (l.map Edge.arc) lo here ((firstR must l (rowsW must l tgt) n here need).map Edge.arc) tgt ∧ (firstR must l (rowsW must l tgt) n here need).length = n ∧ (need = true → hasM must ((firstR must l (rowsW must l tgt) n here need).map Edge.arc) = true) ∧
        ∀ c, okW (l.map Edge.arc) lo here c tgt → c.length = n → (need = true → hasM must c = true) → c = (firstR must l (rowsW must l tgt) n here need).map Edge.arc ∨ lexA ((firstR must l (rowsW must l tgt) n here need).map Edge.arc) c
  | 0, here, need, ⟨c, k1, k2, k3⟩ => by
    have : c = [] := List.eq_nil_of_length_eq_zero k2
    subst this
    exact ⟨k1, rfl, k3, fun l _ h2 _ => .inl (List.eq_nil_of_length_eq_zero h2)⟩
  | n + 1, here, need, ⟨c, k1, k2, k3⟩ => by
    have tailM : ∀ (e : Edge) (l : List HArc), (need = true → (isM must e.arc || hasM must l) = true) → ((need && !isM must e.arc) = true → hasM must l = true) := by
      intro e l hm hn
      rw [Bool.and_eq_true] at hn
      have h1 := hm hn.1
      have h2 : isM must e.arc = false := by simpa using hn.2
      rw [h2, Bool.false_or] at h1
      exact h1
    have headM : ∀ (e : Edge) (l : List HArc), ((need && !isM must e.arc) = true → hasM must l = true) → (need = true → (isM must e.arc || hasM must l) = true) := by
      intro e l hm hn
      by_cases h : isM must e.arc = true
      · rw [h]; rfl
      · have e2 : isM must e.arc = false := by simpa using h
        rw [hm (by rw [hn, e2]; rfl)]
        simp
    have good : ∀ (e : Edge), e ∈ l → (isR must (rowsW must l tgt n).1 (rowsW must l tgt n).2 here need e = true ↔ e.f = here ∧ ∃ m, okW (l.map Edge.arc) lo e.t m tgt ∧ m.length = n ∧ (need = true → (isM must e.arc || hasM must m) = true)) := by
      intro e he
      unfold isR
      rw [Bool.and_eq_true, beq_iff_eq, bitR_isM (hk e he).1 (hk e he).2]
      refine and_congr_right fun _ => ?_
      split
      · rename_i hn
        rw [decide_eq_true_eq, mem_rowsN hlo hk]
        constructor
        · rintro ⟨m, m1, m2, m3⟩
          exact ⟨m, m1, m2, fun _ => by rw [m3]; simp⟩
        · rintro ⟨m, m1, m2, m3⟩
          exact ⟨m, m1, m2, tailM e m m3 hn⟩
      · rename_i hn
        rw [decide_eq_true_eq, mem_rowsA hlo]
        constructor
        · rintro ⟨m, m1, m2⟩
          refine ⟨m, m1, m2, fun e2 => ?_⟩
          rw [e2, Bool.true_and] at hn
          have : isM must e.arc = true := by simpa using hn
          rw [this]
          rfl
        · rintro ⟨m, m1, m2, _⟩
          exact ⟨m, m1, m2⟩
    cases c with
    | nil => simp at k2
    | cons a0 c0 =>
      obtain ⟨ha0, haf0, _, k1⟩ := k1
      obtain ⟨e0, he0, rfl⟩ := List.mem_map.1 ha0
      have g0 := (good e0 he0).2 ⟨haf0, c0, k1, by simpa using k2, k3⟩
      obtain ⟨e, hfe⟩ : ∃ e, l.find? (isR must (rowsW must l tgt n).1 (rowsW must l tgt n).2 here need) = some e := by
        rw [← Option.isSome_iff_exists, List.find?_isSome]
        exact ⟨e0, he0, g0⟩
      have hme := List.mem_of_find?_eq_some hfe
      obtain ⟨hef, m, m1, m2, m3⟩ := (good e hme).1 (List.find?_some hfe)
      have hfr : firstR must l (rowsW must l tgt) (n + 1) here need = e :: firstR must l (rowsW must l tgt) n e.t (need && !bitR must e.k) := by
        show (match l.find? (isR must (rowsW must l tgt n).1 (rowsW must l tgt n).2 here need) with | some e => e :: firstR must l (rowsW must l tgt) n e.t (need && !bitR must e.k) | none => firstR must l (rowsW must l tgt) n here need) = _
        rw [hfe]
      rw [bitR_isM (hk e hme).1 (hk e hme).2] at hfr
      have ih := firstR_spec hs hlo hk tgt n e.t (need && !isM must e.arc) ⟨m, m1, m2, tailM e m m3⟩
      rw [hfr, List.map_cons]
      refine ⟨⟨List.mem_map.2 ⟨e, hme, rfl⟩, hef, by rw [← hef]; exact hlo e hme, ih.1⟩, by simp [ih.2.1], fun hn => by rw [hasM_cons]; exact headM e _ ih.2.2.1 hn, fun c hw hl hm => ?_⟩
      cases c with
      | nil => simp at hl
      | cons b c =>
        obtain ⟨hb, hbf, _, hw⟩ := hw
        obtain ⟨x, hx, rfl⟩ := List.mem_map.1 hb
        by_cases hxe : x = e
        · subst hxe
          rcases ih.2.2.2 c hw (by simpa using hl) (tailM x c hm) with h | h
          · exact .inl (by rw [h])
          · exact .inr (.inr ⟨rfl, h⟩)
        · refine .inr (.inl ?_)
          have gx := (good x hx).2 ⟨hbf, c, hw, by simpa using hl, hm⟩
          obtain ⟨l8, l9, h1, h2⟩ := (List.find?_eq_some_iff_append.1 hfe).2
          rw [h1] at hx hs
          rw [← ltE_less]
          rcases List.mem_append.1 hx with hx | hx
          · have := h2 x hx
            rw [gx] at this
            cases this
          · rcases List.mem_cons.1 hx with hx | hx
            · exact absurd hx hxe
            · exact (List.pairwise_cons.1 (List.pairwise_append.1 hs).2.1).1 x hx
/-- how few steps lead from an id back to it: looked at one by one -/
def inR (hit : Nat → Bool) (most : Nat) (id : Int) : Nat → Nat → Nat × Int → Nat × Int
  | 0, _, s => s
  | g + 1, i, s => if (decide (i ≤ most) && (s.1 == 0 || decide (i < s.1))) = true then inR hit most id g (i + 1) (if hit i = true then (i, id) else s) else s
def overR (hit : Int → Nat → Bool) (most : Nat) : List Int → Nat × Int → Nat × Int
  | [], s => s
  | id :: l, s => overR hit most l (inR (hit id) most id most 1 s)
theorem inR_done {hit : Nat → Bool} {most : Nat} {id : Int} : ∀ (g i : Nat) (s : Nat × Int), s.1 ≠ 0 → s.1 ≤ i → inR hit most id g i s = s
  | 0, _, _, _, _ => rfl
  | g + 1, i, s, h1, h2 => by
    unfold inR
    rw [if_neg]
    rw [Bool.and_eq_true, Bool.or_eq_true, beq_iff_eq, decide_eq_true_eq, decide_eq_true_eq]
    omega
theorem inR_spec {hit : Nat → Bool} {most : Nat} {id : Int} : ∀ (g i : Nat) (s : Nat × Int), 1 ≤ i → g + i = most + 1 →
    (inR hit most id g i s = s ∧ ∀ j, i ≤ j → j ≤ most → (s.1 = 0 ∨ j < s.1) → hit j = false) ∨
      (∃ k, i ≤ k ∧ k ≤ most ∧ (s.1 = 0 ∨ k < s.1) ∧ hit k = true ∧ inR hit most id g i s = (k, id) ∧ ∀ j, i ≤ j → j < k → hit j = false)
  | 0, i, s, _, hg => .inl ⟨rfl, fun j h1 h2 _ => by omega⟩
  | g + 1, i, s, hi, hg => by
    unfold inR
    by_cases hc : (decide (i ≤ most) && (s.1 == 0 || decide (i < s.1))) = true
    · rw [if_pos hc]
      rw [Bool.and_eq_true, Bool.or_eq_true, beq_iff_eq, decide_eq_true_eq, decide_eq_true_eq] at hc
      by_cases hh : hit i = true
      · rw [if_pos hh]
        exact .inr ⟨i, Nat.le_refl _, hc.1, hc.2, hh, inR_done g (i + 1) (i, id) (by show i ≠ 0; omega) (by show i ≤ i + 1; omega), fun j h1 h2 => by omega⟩
      · rw [if_neg hh]
        have hf : hit i = false := by simpa using hh
        rcases inR_spec (hit := hit) (most := most) (id := id) g (i + 1) s (by omega) (by omega) with ⟨e, h⟩ | ⟨k, k1, k2, k3, k4, k5, k6⟩
        · refine .inl ⟨e, fun j h1 h2 h3 => ?_⟩
          rcases Nat.eq_or_lt_of_le h1 with e1 | e1
          · rw [← e1]; exact hf
          · exact h j e1 h2 h3
        · refine .inr ⟨k, by omega, k2, k3, k4, k5, fun j h1 h2 => ?_⟩
          rcases Nat.eq_or_lt_of_le h1 with e1 | e1
          · rw [← e1]; exact hf
          · exact k6 j e1 h2
    · rw [if_neg hc]
      rw [Bool.and_eq_true, Bool.or_eq_true, beq_iff_eq, decide_eq_true_eq, decide_eq_true_eq] at hc
      refine .inl ⟨rfl, fun j h1 h2 h3 => ?_⟩
      exfalso
      apply hc
      omega
/-- what has been found so far -/
def FoundR (hit : Int → Nat → Bool) (most : Nat) (ids : List Int) (s : Nat × Int) : Prop :=
  (s.1 = 0 ∧ ∀ x ∈ ids, ∀ j, 1 ≤ j → j ≤ most → hit x j = false) ∨
    (1 ≤ s.1 ∧ s.1 ≤ most ∧ s.2 ∈ ids ∧ hit s.2 s.1 = true ∧ ∀ x ∈ ids, ∀ j, 1 ≤ j → j ≤ most → hit x j = true → s.1 ≤ j ∧ (x < s.2 → s.1 < j))
theorem overR_spec {hit : Int → Nat → Bool} {most : Nat} : ∀ (l ids : List Int) (s : Nat × Int), (ids ++ l).Pairwise (· < ·) → FoundR hit most ids s → FoundR hit most (ids ++ l) (overR hit most l s)
  | [], ids, s, _, h => by rw [List.append_nil]; exact h
  | x :: l, ids, s, hp, h => by
    have hlt : ∀ y ∈ ids, y < x := fun y hy => (List.pairwise_append.1 hp).2.2 y hy x List.mem_cons_self
    have key : FoundR hit most (ids ++ [x]) (inR (hit x) most x most 1 s) := by
      rcases inR_spec (hit := hit x) (id := x) most 1 s (Nat.le_refl _) rfl with ⟨e, k⟩ | ⟨k, k1, k2, k3, k4, k5, k6⟩
      · rw [e]
        rcases h with ⟨h1, h2⟩ | ⟨h1, h2, h3, h4, h5⟩
        · refine .inl ⟨h1, fun y hy j j1 j2 => ?_⟩
          rcases List.mem_append.1 hy with hy | hy
          · exact h2 y hy j j1 j2
          · rw [List.mem_singleton] at hy
            subst hy
            exact k j j1 j2 (.inl h1)
        · refine .inr ⟨h1, h2, List.mem_append_left _ h3, h4, fun y hy j j1 j2 hh => ?_⟩
          rcases List.mem_append.1 hy with hy | hy
          · exact h5 y hy j j1 j2 hh
          · rw [List.mem_singleton] at hy
            subst hy
            have hsx := hlt _ h3
            refine ⟨?_, fun e2 => by omega⟩
            refine Classical.byContradiction fun hc => ?_
            rw [k j j1 j2 (.inr (by omega))] at hh
            cases hh
      · rw [k5]
        refine .inr ⟨k1, k2, List.mem_append_right _ (List.mem_singleton.2 rfl), k4, fun y hy j j1 j2 hh => ?_⟩
        rcases List.mem_append.1 hy with hy | hy
        · rcases h with ⟨h1, h2⟩ | ⟨h1, h2, h3, h4, h5⟩
          · rw [h2 y hy j j1 j2] at hh
            cases hh
          · have := (h5 y hy j j1 j2 hh).1
            show k ≤ j ∧ (y < x → k < j)
            omega
        · rw [List.mem_singleton] at hy
          subst hy
          show k ≤ j ∧ (y < y → k < j)
          refine ⟨?_, fun e2 => by omega⟩
          refine Classical.byContradiction fun hc => ?_
          rw [k6 j j1 (by omega)] at hh
          cases hh
    show FoundR hit most (ids ++ x :: l) (overR hit most l (inR (hit x) most x most 1 s))
    rw [show ids ++ x :: l = (ids ++ [x]) ++ l by simp]
    exact overR_spec l (ids ++ [x]) _ (by rw [show (ids ++ [x]) ++ l = ids ++ x :: l by simp]; exact hp) key
/-- whether so many steps lead from an id back to it -/
def hitR (must : Int) (need : Bool) (l : List Edge) (id : Int) (i : Nat) : Bool :=
  if need = true then decide (id ∈ (rowsW must l id i).2) else decide (id ∈ (rowsW must l id i).1)
theorem hitR_iff {l : List Edge} {must lo : Int} (hlo : ∀ e ∈ l, lo ≤ e.f) (hk : ∀ e ∈ l, 1 ≤ e.k ∧ e.k ≤ 3) (need : Bool) (id : Int) (i : Nat) :
    hitR must need l id i = true ↔ ∃ c, okW (l.map Edge.arc) lo id c id ∧ c.length = i ∧ (need = true → hasM must c = true) := by
  unfold hitR
  split
  · rename_i h
    rw [decide_eq_true_eq, mem_rowsN hlo hk]
    exact ⟨fun ⟨c, a, b, d⟩ => ⟨c, a, b, fun _ => d⟩, fun ⟨c, a, b, d⟩ => ⟨c, a, b, d h⟩⟩
  · rename_i h
    rw [decide_eq_true_eq, mem_rowsA hlo]
    exact ⟨fun ⟨c, a, b⟩ => ⟨c, a, b, fun e => absurd e h⟩, fun ⟨c, a, b, _⟩ => ⟨c, a, b⟩⟩
theorem closed_turn2 {p : List HArc} {must least u : Int} {c : List HArc} (h : okW p least u c u) (hc : c ≠ []) : ∃ v c', c' ≠ [] ∧ okW p v v c' v ∧ c'.length = c.length ∧ hasM must c' = hasM must c ∧ v ≤ u ∧ ∀ b ∈ c, v ≤ b.f := by
  obtain ⟨a, ha, hmin⟩ := least_arc hc
  have hu : a.f ≤ u := by
    cases c with
    | nil => exact absurd rfl hc
    | cons b l => rw [← h.2.1]; exact hmin b List.mem_cons_self
  obtain ⟨l1, l2, e, h1, h2⟩ := okW_part h ha
  subst e
  refine ⟨a.f, (a :: l2) ++ l1, by simp, ?_, by simp only [List.length_append, List.length_cons]; omega, by rw [hasM_append, hasM_append, Bool.or_comm], hu, hmin⟩
  refine okW_raise (okW_append h2 h1) fun b hb => hmin b ?_
  rcases List.mem_append.1 hb with hb | hb
  · exact List.mem_append_right _ hb
  · exact List.mem_append_left _ hb
theorem nodup_len : ∀ {l m : List Int}, l.Pairwise (· ≠ ·) → (∀ x ∈ l, x ∈ m) → l.length ≤ m.length
  | [], m, _, _ => by simp
  | a :: l, m, h, hm => by
    rw [List.pairwise_cons] at h
    have ha := hm a List.mem_cons_self
    have ih := nodup_len (l := l) (m := m.erase a) h.2 (fun x hx => (List.mem_erase_of_ne (fun e => h.1 x hx e.symm)).2 (hm x (List.mem_cons_of_mem _ hx)))
    rw [List.length_erase_of_mem ha] at ih
    have := List.length_pos_of_mem ha
    simp only [List.length_cons]
    omega
/-- the document's answer: none -/
theorem overR_none {l : List Edge} {must lo : Int} {need : Bool} {ids : List Int} (hlo : ∀ e ∈ l, lo ≤ e.f) (hk : ∀ e ∈ l, 1 ≤ e.k ∧ e.k ≤ 3) (hp : ids.Pairwise (· < ·)) (most : Nat) (h : NoWay (l.map Edge.arc) must need) : (overR (hitR must need l) most ids (0, 0)).1 = 0 := by
  have hF := overR_spec (hit := hitR must need l) (most := most) ids [] (0, 0) hp (.inl ⟨rfl, fun x hx => by cases hx⟩)
  rw [List.nil_append] at hF
  rcases hF with h1 | ⟨h1, h2, h3, h4, h5⟩
  · exact h1.1
  · exfalso
    obtain ⟨c, c1, c2, c3⟩ := (hitR_iff hlo hk need _ _).1 h4
    have hc : c ≠ [] := fun e => by rw [e] at c2; simp at c2; omega
    obtain ⟨v, c', k1, k2, k3, k4, _⟩ := closed_turn2 (must := must) c1 hc
    exact h v c' k1 k2 (fun e => by rw [k4]; exact c3 e)
/-- the document's answer: the first of the shortest -/
theorem overR_short {l : List Edge} {must lo : Int} {need : Bool} {ids : List Int} (hs : l.Pairwise fun a b => ltE a b = true) (hlo : ∀ e ∈ l, lo ≤ e.f) (hk : ∀ e ∈ l, 1 ≤ e.k ∧ e.k ≤ 3) (hp : ids.Pairwise (· < ·)) (hids : ∀ e ∈ l, e.f ∈ ids)
    {most : Nat} (hmost : ids.length ≤ most) {v : Int} {c : List HArc} (h : Short (l.map Edge.arc) must need v c) :
    overR (hitR must need l) most ids (0, 0) = (c.length, v) ∧ (firstR must l (rowsW must l v) c.length v need).map Edge.arc = c := by
  have hmem : ∀ a ∈ c, a.f ∈ ids := fun a ha => by
    obtain ⟨e, he, rfl⟩ := List.mem_map.1 (okW_mem h.w a ha)
    exact hids e he
  have hlv : lo ≤ v := by
    have hw := h.w
    cases c with
    | nil => exact absurd rfl h.ne
    | cons a c =>
      obtain ⟨e, he, e2⟩ := List.mem_map.1 hw.1
      rw [← hw.2.1, ← e2]
      exact hlo e he
  have hvi : v ∈ ids := by
    have hw := h.w
    cases hc : c with
    | nil => exact absurd hc h.ne
    | cons a d =>
      rw [hc] at hw
      rw [← hw.2.1]
      exact hmem a (by rw [hc]; exact List.mem_cons_self)
  have hcl : c.length ≤ ids.length := by
    have := nodup_len (l := c.map HArc.f) (m := ids) (List.pairwise_map.2 h.simple) (fun x hx => by
      obtain ⟨a, ha, rfl⟩ := List.mem_map.1 hx
      exact hmem a ha)
    rwa [List.length_map] at this
  have hc1 : 1 ≤ c.length := by
    cases hc : c with
    | nil => exact absurd hc h.ne
    | cons a d => simp
  have hwlo : okW (l.map Edge.arc) lo v c v := okW_mono (fun _ => id) hlv h.w
  have hhit : hitR must need l v c.length = true := (hitR_iff hlo hk need v c.length).2 ⟨c, hwlo, rfl, h.m⟩
  have hF := overR_spec (hit := hitR must need l) (most := most) ids [] (0, 0) hp (.inl ⟨rfl, fun x hx => by cases hx⟩)
  rw [List.nil_append] at hF
  constructor
  · rcases hF with ⟨h1, h2⟩ | ⟨h1, h2, h3, h4, h5⟩
    · rw [h2 v hvi c.length hc1 (by omega)] at hhit
      cases hhit
    · have h6 := h5 v hvi c.length hc1 (by omega) hhit
      obtain ⟨d, d1, d2, d3⟩ := (hitR_iff hlo hk need _ _).1 h4
      have hd : d ≠ [] := fun e => by rw [e] at d2; simp at d2; omega
      obtain ⟨u, c', k1, k2, k3, k4, k5, _⟩ := closed_turn2 (must := must) d1 hd
      have h7 := h.le u c' k1 k2 (fun e => by rw [k4]; exact d3 e)
      have h8 : c.length = (overR (hitR must need l) most ids (0, 0)).1 := by omega
      have h9 := (h7.2 (by omega)).1
      have h10 : ¬ v < (overR (hitR must need l) most ids (0, 0)).2 := fun e => by have := h6.2 e; omega
      have h11 : v = (overR (hitR must need l) most ids (0, 0)).2 := by omega
      rw [h8, h11]
  · obtain ⟨r1, r2, r3, r4⟩ := firstR_spec hs hlo hk v c.length v need ⟨c, hwlo, rfl, h.m⟩
    obtain ⟨r, hr⟩ : ∃ r, (firstR must l (rowsW must l v) c.length v need).map Edge.arc = r := ⟨_, rfl⟩
    rw [hr] at r1 r3 r4 ⊢
    have hrl : r.length = c.length := by rw [← hr, List.length_map]; exact r2
    have hrn : r ≠ [] := fun e => by rw [e] at hrl; simp at hrl; omega
    obtain ⟨u, c', k1, k2, k3, k4, k5, k6⟩ := closed_turn2 (must := must) r1 hrn
    have h7 := h.le u c' k1 k2 (fun e => by rw [k4]; exact r3 e)
    have h9 := (h7.2 (by omega)).1
    have hrv : okW (l.map Edge.arc) v v r v := okW_raise r1 (fun b hb => Int.le_trans h9 (k6 b hb))
    have h12 := ((h.le v r hrn hrv r3).2 hrl.symm).2 rfl
    rcases h12 with e | e
    · exact e
    · rcases r4 c hwlo rfl h.m with e2 | e2
      · exact e2.symm
      · exact (lexA_irr e e2).elim
end Go.Proofs.Ytmnhgdedkniafaa

/- Closed walks, the document's: edges put among others, and those of a mask. -/
namespace Go.Proofs.Ytmnhgdedkniafaa
set_option linter.unusedVariables false
open Go.RowKit
def edgesF (l : List Edge) : List Value := (l.map Edge.cells).flatten
theorem edgesF_len (l : List Edge) : (edgesF l).length = l.length * 4 := by
  unfold edgesF
  induction l with
  | nil => rfl
  | cons a l ih => simp only [List.map_cons, List.flatten_cons, List.length_append, List.length_cons, ih]; simp [Edge.cells]; omega
/-- a new row of edges -/
def NewEd (w : World) (l : List Edge) (e : Ending) (w' : World) : Prop := ∃ A c, e = .returned (.slice A l.length c) ∧ w'.ownsRow w.heap.size 96 4 (.slice A l.length c) l.length (edgesF l) ∧ Upd No w w'
def putEd (a : Edge) : List Edge → List Edge
  | [] => [a]
  | x :: l => if ltE x a = true then x :: putEd a l else a :: (x :: l).filter (fun y => !(y == a))
theorem filtE_no {p : Edge → Bool} {l : List Edge} {k : Nat} {x : Edge} (hk : k < l.length) (hx : l[k] = x) (hr : p x = false) : (l.take (k + 1)).filter p = (l.take k).filter p := by
  subst hx
  rw [List.take_succ_eq_append_getElem hk, List.filter_append, List.filter_cons_of_neg (by rw [hr]; decide)]
  simp
theorem filtE_yes {p : Edge → Bool} {l : List Edge} {k : Nat} {x : Edge} (hk : k < l.length) (hx : l[k] = x) (hr : p x = true) : (l.take (k + 1)).filter p = (l.take k).filter p ++ [x] := by
  subst hx
  rw [List.take_succ_eq_append_getElem hk, List.filter_append, List.filter_cons_of_pos (by rw [hr])]
  rfl
theorem edPut_arc (a : Edge) : ∀ l : List Edge, (putEd a l).map Edge.arc = putA a.arc (l.map Edge.arc)
  | [] => rfl
  | x :: l => by
    have hf : ∀ m : List Edge, (m.filter fun y => !(y == a)).map Edge.arc = (m.map Edge.arc).filter fun y => !(y == a.arc) := by
      intro m
      induction m with
      | nil => rfl
      | cons y m ih =>
        have hb : (y == a) = (y.arc == a.arc) := by
          rw [Bool.eq_iff_iff, beq_iff_eq, beq_iff_eq]
          exact ⟨fun e => by rw [e], fun e => by rw [← arc_edge y, ← arc_edge a, e]⟩
        rw [List.map_cons, List.filter_cons, List.filter_cons, hb]
        split
        · rw [List.map_cons, ih]
        · exact ih
    show (if ltE x a = true then x :: putEd a l else a :: (x :: l).filter (fun y => !(y == a))).map Edge.arc = (if lessA x.arc a.arc = true then x.arc :: putA a.arc (l.map Edge.arc) else a.arc :: ((x :: l).map Edge.arc).filter (fun y => !(y == a.arc)))
    rw [ltE_less]
    split
    · rw [List.map_cons, edPut_arc a l]
    · rw [List.map_cons, hf]
end Go.Proofs.Ytmnhgdedkniafaa

/- Closed walks: which edges do not count. -/
namespace Go.Proofs.Ytmnhgdedkniafaa
set_option linter.unusedVariables false
open Go.RowKit
/-- an edge that does not count -/
def badE (mask : Int) (e : Edge) : Bool := decide (e.k < 1) || (decide (3 < e.k) || !bitM mask e.k)
set_option maxRecDepth 100000 in
set_option maxHeartbeats 4000000 in
theorem cbad (w : World) (p : Addr) (mask : Int) (hp : w.cell? p = some (.int .i64 mask)) (e : Edge) :
    Calls Try.prog 125 #[.agg e.cells.toArray, .pointer (some p)] w fun x w' => x = .returned (.bool (badE mask e)) ∧ Upd No w w' := by
  obtain ⟨ef, et, ek, ey⟩ := e
  have u0 := (Upd.refl No w).alloc (.cells #[.int .i64 ef, .int .i64 et, .int .i64 ek, .int .i64 ey] 96)
  have hp1 := u0.keepNo hp
  have U0 := Lib.hid u0
  unfold Edge.cells
  clear u0
  by_cases h1 : ek < 1
  · have hv : Hid (badE mask ⟨ef, et, ek, ey⟩ = true) := Lib.hid (by unfold badE; rw [decide_eq_true h1]; rfl)
    have d1 : decide (ek < 1) = true := decide_eq_true h1
    go_enter Try.func125, Try.ntmps125
    go_wp2
    go_ret
    exact ⟨by rw [hv.out]; rfl, U0.out⟩
  · have d1 : decide (ek < 1) = false := decide_eq_false h1
    by_cases h2 : 3 < ek
    · have hv : Hid (badE mask ⟨ef, et, ek, ey⟩ = true) := Lib.hid (by unfold badE; rw [d1, decide_eq_true h2]; rfl)
      have d2 : decide (3 < ek) = true := decide_eq_true h2
      go_enter Try.func125, Try.ntmps125
      go_wp2
      go_ret
      exact ⟨by rw [hv.out]; rfl, U0.out⟩
    · have hk : ek = 1 ∨ ek = 2 ∨ ek = 3 := by omega
      clear d1 h1 h2
      rcases hk with rfl | rfl | rfl
      · have hv : Hid (badE mask ⟨ef, et, 1, ey⟩ = (bits .and .i64 (mask / 2) 1 == 0)) := Lib.hid (by rw [and_one0]; rfl)
        go_enter Try.func125, Try.ntmps125
        go_wp2
        go_ret
        exact ⟨by rw [hv.out]; rfl, U0.out⟩
      · have hv : Hid (badE mask ⟨ef, et, 2, ey⟩ = (bits .and .i64 (mask / 4) 1 == 0)) := Lib.hid (by rw [and_one0]; rfl)
        go_enter Try.func125, Try.ntmps125
        go_wp2
        go_ret
        exact ⟨by rw [hv.out]; rfl, U0.out⟩
      · have hv : Hid (badE mask ⟨ef, et, 3, ey⟩ = (bits .and .i64 (mask / 8) 1 == 0)) := Lib.hid (by rw [and_one0]; rfl)
        go_enter Try.func125, Try.ntmps125
        go_wp2
        go_ret
        exact ⟨by rw [hv.out]; rfl, U0.out⟩
end Go.Proofs.Ytmnhgdedkniafaa
