/- Ways: one number, repeated. -/
import Derived.Shelf.Bits.Mul64
import Derived.Test.YtaicemjckagcaaaMaa
import Derived.Test.YtaicemjckagcaaaMad
import Derived.Test.YtaicemjckagcaaaMal
import Derived.Test.YtaicemjckagcaaaMam
import Derived.Test.YtaicemjckagcaaaMbi
namespace Go.Proofs.Ytaicemjckagcaaa
set_option linter.unusedVariables false
open Go.RowKit
end Go.Proofs.Ytaicemjckagcaaa

/- Ways: the digraph that is made of arcs; how far each node is. -/
namespace Go.Proofs.Ytaicemjckagcaaa
set_option linter.unusedVariables false
open Go.RowKit
section
variable {w : World} {G : Nat → Prop} {p : Option Addr} {N K : Nat} {q : List HArc}
def startB (N : Nat) (least node : Int) : Bool := decide (max least 0 ≤ node) && decide (node < (N : Int))
end
end Go.Proofs.Ytaicemjckagcaaa

/- Ways: how far each node is. -/
namespace Go.Proofs.Ytaicemjckagcaaa
set_option linter.unusedVariables false
open Go.RowKit
/-- what a row of numbers is, by a function -/
def rowD (N : Nat) (d : Int → Int) : List Int := (List.range N).map fun i : Nat => d (i : Int)
theorem rowD_at {N i : Nat} (d : Int → Int) (h : i < N) : (rowD N d)[i]? = some (d (i : Int)) := by
  unfold rowD
  rw [List.getElem?_map, List.getElem?_range h]
  rfl
theorem rowD_set {N u : Nat} (d : Int → Int) (v : Int) (h : u < N) : (rowD N d).set u v = rowD N (updF d (u : Int) v) := by
  unfold rowD
  apply List.ext_getElem
  · simp
  · intro i h1 h2
    rw [List.getElem_set]
    simp only [List.getElem_map, List.getElem_range]
    unfold updF
    by_cases e : u = i
    · subst e; simp
    · rw [if_neg e, if_neg (by omega)]
/-- distances and the queue lie there, and a list that is gone through -/
def DQ (w : World) (dg qg N : Nat) (d : Int → Int) (qu : List Int) (A : Option Addr) (us : List Int) (W : World) : Prop :=
  ∃ F F2, Blk W dg 3 ((rowD N d).map (Value.int .i64)) ∧ Que W F qg (N : Int) qu ∧ ¬ F dg ∧ (∀ i, F i → w.heap.size ≤ i) ∧ w.heap.size ≤ dg ∧ Upd No w W ∧ Ints F2 W A us ∧ (∀ i, F2 i → ¬ F i ∧ i ≠ dg ∧ i < W.heap.size)
namespace DQ
variable {w W W' : World} {dg qg N : Nat} {d : Int → Int} {qu us : List Int} {A : Option Addr}
theorem no (h : DQ w dg qg N d qu A us W) (k : Upd No W W') : DQ w dg qg N d qu A us W' := by
  obtain ⟨F, F2, h1, h2, h3, h4, h5, h6, h7, h8⟩ := h
  exact ⟨F, F2, h1.upd k id, h2.upd k (fun _ _ => id), h3, h4, h5, h6.trans k, h7.upd k (fun _ _ => id), fun i hi => ⟨(h8 i hi).1, (h8 i hi).2.1, Nat.lt_of_lt_of_le (h8 i hi).2.2 k.size⟩⟩
theorem upd (h : DQ w dg qg N d qu A us W) : Upd No w W := by
  obtain ⟨F, F2, h1, h2, h3, h4, h5, h6, h7, h8⟩ := h
  exact h6
theorem blk (h : DQ w dg qg N d qu A us W) : Blk W dg 3 ((rowD N d).map (Value.int .i64)) := by
  obtain ⟨F, F2, h1, h2, h3, h4, h5, h6, h7, h8⟩ := h
  exact h1
theorem cell (h : DQ w dg qg N d qu A us W) {i : Nat} (hi : i < N) : W.cell? ⟨dg, i, none⟩ = some (.int .i64 (d (i : Int))) := by
  rw [h.blk.cell i, List.getElem?_map, rowD_at d hi]
  rfl
theorem free (h : DQ w dg qg N d qu A us W) (i : Nat) : W.frozen? ⟨dg, i, none⟩ = false := h.blk.free i
theorem set_ (h : DQ w dg qg N d qu A us W) {u : Nat} (hu : u < N) (v : Int) : DQ w dg qg N (updF d (u : Int) v) qu A us (W.setCell ⟨dg, u, none⟩ (.int .i64 v)) := by
  obtain ⟨F, F2, h1, h2, h3, h4, h5, h6, h7, h8⟩ := h
  have k := Upd.setOne (Upd.refl (One dg) W) u (.int .i64 v)
  refine ⟨F, F2, ?_, h2.upd k (fun i hi e => h3 (e ▸ hi)), h3, h4, h5, h6.then_ k fun i e => .inr (by rw [e]; exact h5), h7.upd k (fun i hi e => (h8 i hi).2.1 e), fun i hi => ⟨(h8 i hi).1, (h8 i hi).2.1, Nat.lt_of_lt_of_le (h8 i hi).2.2 k.size⟩⟩
  have := h1.set_ u (.int .i64 v)
  rw [← List.map_set, rowD_set d v hu] at this
  exact this
theorem push (h : DQ w dg qg N d qu A us W) (hN : N ≤ 65536) (hf : qu.length < N) (u : Int) : Calls Try.prog 165 #[.pointer (some ⟨qg, 0, none⟩), .int .i64 u] W fun e w' => e = .returned (.int .i64 0) ∧ DQ w dg qg N d (qu ++ [u]) A us w' := by
  obtain ⟨F, F2, h1, h2, h3, h4, h5, h6, h7, h8⟩ := h
  refine (qpush W F qg (N : Int) qu u h2 (by omega) (by omega) (by omega)).mono ?_
  rintro e w' ⟨rfl, F', hF', hq, hu⟩
  have hs := h6.size
  have hne : ∀ i, i < W.heap.size → ¬ F i → ¬ F' i := fun i hi hn e => by
    rcases hF' i e with e | e
    · exact hn e
    · omega
  refine ⟨rfl, F', F2, h1.upd hu h3, hq, hne dg h1.lt h3, fun i hi => ?_, h5, h6.then_ hu fun i e => .inr (h4 i e), h7.upd hu (fun i hi => (h8 i hi).1), fun i hi => ⟨hne i (h8 i hi).2.2 (h8 i hi).1, (h8 i hi).2.1, Nat.lt_of_lt_of_le (h8 i hi).2.2 hu.size⟩⟩
  rcases hF' i hi with e | e
  · exact h4 i e
  · omega
theorem pop {x : Int} (h : DQ w dg qg N d (x :: qu) A us W) : Calls Try.prog 166 #[.pointer (some ⟨qg, 0, none⟩)] W fun e w' => e = .returned (.tuple #[.int .i64 x, .bool true]) ∧ DQ w dg qg N d qu A us w' := by
  obtain ⟨F, F2, h1, h2, h3, h4, h5, h6, h7, h8⟩ := h
  refine (qpop W F qg (N : Int) x qu h2).mono ?_
  rintro e w' ⟨rfl, hq, hu⟩
  exact ⟨rfl, F, F2, h1.upd hu h3, hq, h3, h4, h5, h6.then_ hu fun i e => .inr (h4 i e), h7.upd hu (fun i hi => (h8 i hi).1), fun i hi => ⟨(h8 i hi).1, (h8 i hi).2.1, Nat.lt_of_lt_of_le (h8 i hi).2.2 hu.size⟩⟩
end DQ
def prevF (p : List HArc) : Int → List Int := fun x => nxA x true p
end Go.Proofs.Ytaicemjckagcaaa

/- Ways: the first of the shortest. -/
namespace Go.Proofs.Ytaicemjckagcaaa
set_option linter.unusedVariables false
open Go.RowKit
/-- what the distances are: known by this alone -/
structure DistOf (N : Nat) (p : List HArc) (least node : Int) (d : Int → Int) : Prop where
  lo : ∀ u, -1 ≤ d u
  hi : ∀ u, d u < (N : Int) ∨ d u < 0
  inn : ∀ u, 0 ≤ d u → 0 ≤ u ∧ u < (N : Int)
  clo : ∀ v, 0 ≤ d v → ∀ u ∈ prevF p v, least ≤ u → 0 ≤ d u ∧ d u ≤ d v + 1
  par : ∀ u, 0 ≤ d u → (u = node ∧ startB N least node = true) ∨ ∃ v, u ∈ prevF p v ∧ least ≤ u ∧ 0 ≤ d v ∧ d v + 1 = d u
  z : ∀ u, d u = 0 ↔ (u = node ∧ startB N least node = true)
theorem DistOf.le {N : Nat} {p : List HArc} {least node : Int} {d : Int → Int} (h : DistOf N p least node d) {u : Int} (hu : 0 ≤ d u) : least ≤ u := by
  rcases h.par u hu with ⟨e, hs⟩ | ⟨v, h1, h2, h3, h4⟩
  · unfold startB at hs
    rw [Bool.and_eq_true, decide_eq_true_eq] at hs
    omega
  · exact h2
end Go.Proofs.Ytaicemjckagcaaa

/- Ways: how far each node is, by walks with an arc of another mask; plain words on two states of a node. -/
namespace Go.Proofs.Ytaicemjckagcaaa
set_option linter.unusedVariables false
open Go.RowKit
def row0 (N : Nat) (d : Int → Int) (h : Int) : List Int := rowD N fun i : Int => d (i * 2 + h)
theorem row0_set {N u : Nat} (d : Int → Int) {h : Int} (hh : h = 0 ∨ h = 1) (v : Int) (hu : u < N) : (row0 N d h).set u v = row0 N (updF d ((u : Int) * 2 + h) v) h := by
  unfold row0
  rw [rowD_set _ v hu]
  unfold rowD
  apply List.map_congr_left
  intro i hi
  unfold updF
  by_cases e : (i : Int) = (u : Int)
  · rw [if_pos e]
    show v = if (i : Int) * 2 + h = (u : Int) * 2 + h then v else d ((i : Int) * 2 + h)
    rw [if_pos (by omega)]
  · rw [if_neg e]
    show d ((i : Int) * 2 + h) = if (i : Int) * 2 + h = (u : Int) * 2 + h then v else d ((i : Int) * 2 + h)
    rw [if_neg (by omega)]
theorem row0_other {N : Nat} (d : Int → Int) {u h k : Int} (hh : h = 0 ∨ h = 1) (hk : k = 0 ∨ k = 1) (hne : h ≠ k) (v : Int) : row0 N (updF d (u * 2 + h) v) k = row0 N d k := by
  unfold row0 rowD
  apply List.map_congr_left
  intro i hi
  unfold updF
  show (if (i : Int) * 2 + k = u * 2 + h then v else d ((i : Int) * 2 + k)) = d ((i : Int) * 2 + k)
  rw [if_neg (by omega)]
end Go.Proofs.Ytaicemjckagcaaa

/- Closed walks, plain: what distances say of walks. -/
namespace Go.Proofs.Ytaicemjckagcaaa
set_option linter.unusedVariables false
open Go.RowKit
section
variable {α : Type}
end
/-- a walk of arcs through nodes that are not less than one -/
def okW (p : List HArc) (least : Int) : Int → List HArc → Int → Prop
  | u, [], v => u = v
  | u, a :: l, v => a ∈ p ∧ a.f = u ∧ least ≤ u ∧ okW p least a.t l v
theorem okW_append {p : List HArc} {least : Int} : ∀ {l m : List HArc} {u x v : Int}, okW p least u l x → okW p least x m v → okW p least u (l ++ m) v
  | [], m, u, x, v, h, k => by
    have : u = x := h
    subst this
    exact k
  | a :: l, m, u, x, v, h, k => ⟨h.1, h.2.1, h.2.2.1, okW_append h.2.2.2 k⟩
theorem okW_split {p : List HArc} {least : Int} : ∀ {l m : List HArc} {u v : Int}, okW p least u (l ++ m) v → ∃ x, okW p least u l x ∧ okW p least x m v
  | [], m, u, v, h => ⟨u, rfl, h⟩
  | a :: l, m, u, v, h => by
    obtain ⟨x, h1, h2⟩ := okW_split (l := l) h.2.2.2
    exact ⟨x, ⟨h.1, h.2.1, h.2.2.1, h1⟩, h2⟩
theorem okW_mono {p p' : List HArc} {least least' : Int} (hp : ∀ a ∈ p, a ∈ p') (hl : least' ≤ least) : ∀ {l : List HArc} {u v : Int}, okW p least u l v → okW p' least' u l v
  | [], u, v, h => h
  | a :: l, u, v, h => ⟨hp a h.1, h.2.1, Int.le_trans hl h.2.2.1, okW_mono hp hl h.2.2.2⟩
/-! masks -/
theorem wrap64 (n : Nat) (h : n < 18446744073709551616) : IntKind.i64.wrap (n : Int) = (n : Int) ∨ IntKind.i64.wrap (n : Int) = (n : Int) - 18446744073709551616 := by
  unfold IntKind.wrap
  simp [IntKind.signed, IntKind.bits]
  omega
/-- an arc of the other mask -/
def isM (must : Int) (a : HArc) : Bool := bitM must a.kind
/-- whether a walk has an arc of the other mask -/
def hasM (must : Int) (l : List HArc) : Bool := l.any (isM must)
end Go.Proofs.Ytaicemjckagcaaa

/- Closed walks, plain: the shortest from a node, and the first of these. -/
namespace Go.Proofs.Ytaicemjckagcaaa
set_option linter.unusedVariables false
open Go.RowKit
theorem hasM_append (must : Int) (l m : List HArc) : hasM must (l ++ m) = (hasM must l || hasM must m) := by
  unfold hasM
  rw [List.any_append]
section
variable {p : List HArc} {must i : Int} {da dw : Int → Int}
end
section
variable {p : List HArc} {must i : Int} {da dw : Int → Int}
end
/-- one list of arcs is ahead of another -/
def lexA : List HArc → List HArc → Prop
  | a :: l, b :: m => lessA a b = true ∨ (a = b ∧ lexA l m)
  | _, _ => False
end Go.Proofs.Ytaicemjckagcaaa

/- Closed walks, plain: the shortest of all; it meets no node twice. -/
namespace Go.Proofs.Ytaicemjckagcaaa
set_option linter.unusedVariables false
open Go.RowKit
/-- an arc's node is met in a walk: the walk is parted there -/
theorem okW_part {p : List HArc} {least : Int} : ∀ {l : List HArc} {u v : Int} {a : HArc}, okW p least u l v → a ∈ l → ∃ l1 l2, l = l1 ++ a :: l2 ∧ okW p least u l1 a.f ∧ okW p least a.f (a :: l2) v
  | [], u, v, a, h, ha => by cases ha
  | b :: l, u, v, a, h, ha => by
    rcases List.mem_cons.1 ha with rfl | ha
    · exact ⟨[], l, rfl, h.2.1.symm, by rw [h.2.1]; exact h⟩
    · obtain ⟨l1, l2, e, h1, h2⟩ := okW_part h.2.2.2 ha
      exact ⟨b :: l1, l2, by rw [e]; rfl, ⟨h.1, h.2.1, h.2.2.1, h1⟩, h2⟩
theorem okW_mem {p : List HArc} {least : Int} : ∀ {l : List HArc} {u v : Int}, okW p least u l v → ∀ a ∈ l, a ∈ p
  | [], _, _, _, a, ha => by cases ha
  | b :: l, u, v, h, a, ha => by
    rcases List.mem_cons.1 ha with rfl | ha
    · exact h.1
    · exact okW_mem h.2.2.2 a ha
theorem okW_raise {p : List HArc} {least least' : Int} : ∀ {l : List HArc} {u v : Int}, okW p least u l v → (∀ a ∈ l, least' ≤ a.f) → okW p least' u l v
  | [], _, _, h, _ => h
  | b :: l, u, v, h, hl => ⟨h.1, h.2.1, by have := hl b List.mem_cons_self; have := h.2.1; omega, okW_raise h.2.2.2 (fun a ha => hl a (List.mem_cons_of_mem _ ha))⟩
theorem least_arc : ∀ {l : List HArc}, l ≠ [] → ∃ a ∈ l, ∀ b ∈ l, a.f ≤ b.f
  | [], h => absurd rfl h
  | [a], _ => ⟨a, List.mem_singleton.2 rfl, fun b hb => by rw [List.mem_singleton] at hb; rw [hb]; exact Int.le_refl _⟩
  | a :: c :: l, _ => by
    obtain ⟨m, hm, hl⟩ := least_arc (l := c :: l) (by simp)
    by_cases h : a.f ≤ m.f
    · refine ⟨a, List.mem_cons_self, fun b hb => ?_⟩
      rcases List.mem_cons.1 hb with rfl | hb
      · exact Int.le_refl _
      · have := hl b hb; omega
    · refine ⟨m, List.mem_cons_of_mem _ hm, fun b hb => ?_⟩
      rcases List.mem_cons.1 hb with rfl | hb
      · omega
      · exact hl b hb
/-- a closed walk, turned to its least node -/
theorem closed_turn {p : List HArc} {must least u : Int} {c : List HArc} (h : okW p least u c u) (hc : c ≠ []) : ∃ v c', c' ≠ [] ∧ okW p v v c' v ∧ c'.length = c.length ∧ hasM must c' = hasM must c ∧ ∃ a ∈ c, v = a.f := by
  obtain ⟨a, ha, hmin⟩ := least_arc hc
  obtain ⟨l1, l2, e, h1, h2⟩ := okW_part h ha
  subst e
  refine ⟨a.f, (a :: l2) ++ l1, by simp, ?_, by simp only [List.length_append, List.length_cons]; omega, by rw [hasM_append, hasM_append, Bool.or_comm], a, ha, rfl⟩
  refine okW_raise (okW_append h2 h1) fun b hb => hmin b ?_
  rcases List.mem_append.1 hb with hb | hb
  · exact List.mem_append_right _ hb
  · exact List.mem_append_left _ hb
theorem pair_split {c : List HArc} (h : ∀ l1 a l2 b l3, c = l1 ++ a :: (l2 ++ b :: l3) → a.f ≠ b.f) : c.Pairwise fun a b => a.f ≠ b.f := by
  induction c with
  | nil => exact List.Pairwise.nil
  | cons a l ih =>
    refine List.pairwise_cons.2 ⟨fun b hb => ?_, ih fun l1 x l2 y l3 e => h (a :: l1) x l2 y l3 (by rw [e]; rfl)⟩
    obtain ⟨l2, l3, e⟩ := List.append_of_mem hb
    exact h [] a l2 b l3 (by rw [e]; rfl)
/-- the shortest of all closed walks meets no node twice -/
theorem way_simple {p : List HArc} {must i : Int} {need : Bool} {c : List HArc} (hw : okW p i i c i) (hm : need = true → hasM must c = true)
    (hown : ∀ c', c' ≠ [] → okW p i i c' i → (need = true → hasM must c' = true) → c.length ≤ c'.length)
    (hall : ∀ v c', c' ≠ [] → okW p v v c' v → (need = true → hasM must c' = true) → c.length ≤ c'.length) : c.Pairwise fun a b => a.f ≠ b.f := by
  refine pair_split fun l1 a l2 b l3 e hab => ?_
  subst e
  obtain ⟨x, h1, h2⟩ := okW_split hw
  have ha : x = a.f := h2.2.1.symm
  subst ha
  have h3 : okW p i a.f ((a :: l2) ++ b :: l3) i := h2
  obtain ⟨y, h4, h5⟩ := okW_split h3
  have hb : y = b.f := h5.2.1.symm
  subst hb
  have hR : okW p i i (l1 ++ b :: l3) i := okW_append (by rw [← hab]; exact h1) h5
  have hS : okW p i b.f (a :: l2) b.f := by
    have := h4
    rw [hab] at this
    exact this
  have hlen : (l1 ++ b :: l3).length < (l1 ++ a :: (l2 ++ b :: l3)).length ∧ (a :: l2).length < (l1 ++ a :: (l2 ++ b :: l3)).length := by
    simp only [List.length_append, List.length_cons]
    omega
  by_cases hq : need = true → hasM must (l1 ++ b :: l3) = true
  · have := hown _ (by simp) hR hq
    omega
  · have hn : need = true := Classical.byContradiction fun h => hq (fun e => absurd e h)
    have hr : hasM must (l1 ++ b :: l3) = false := by
      have : ¬ hasM must (l1 ++ b :: l3) = true := fun e => hq (fun _ => e)
      simpa using this
    have hmm := hm hn
    rw [hasM_append] at hmm hr
    have e1 : a :: (l2 ++ b :: l3) = (a :: l2) ++ b :: l3 := rfl
    rw [e1, hasM_append] at hmm
    rw [Bool.or_eq_false_iff] at hr
    rw [hr.1, hr.2, Bool.false_or, Bool.or_false] at hmm
    obtain ⟨v, c', k1, k2, k3, k4, _⟩ := closed_turn (must := must) hS (by simp)
    have := hall v c' k1 k2 (fun _ => by rw [k4]; exact hmm)
    omega
end Go.Proofs.Ytaicemjckagcaaa
