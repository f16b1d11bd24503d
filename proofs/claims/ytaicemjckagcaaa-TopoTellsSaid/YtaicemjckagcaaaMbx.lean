/- Orders, the document's: the first order that goes along. -/
import Derived.Test.YtaicemjckagcaaaMbq
import Derived.Test.YtaicemjckagcaaaMbw
namespace Go.Proofs.Ytaicemjckagcaaa
set_option linter.unusedVariables false
open Go.RowKit
/-- a new row of numbers with room -/
def NewC (w : World) (xs : List Int) (e : Ending) (w' : World) : Prop := ∃ A c, e = .returned (.slice A xs.length c) ∧ xs.length ≤ c ∧ Ints (fun i => w.heap.size ≤ i) w' A xs ∧ Upd No w w'
set_option maxRecDepth 100000 in
theorem rDel (w : World) (F : Nat → Prop) (A : Option Addr) (c : Nat) (xs : List Int) (i : Nat) (h : Ints F w A xs) (hl : xs.length ≤ 1000000) (hc : xs.length ≤ c) (hi : i < xs.length) :
    Calls Try.prog 61 #[.slice A xs.length c, .int .i64 i] w (NewC w (xs.take i ++ xs.drop (i + 1))) := by
  have h' := h.lt
  have hcut1 := fun W => run_cut_h W slt_int A xs.length c i (by omega)
  have hcut2 : ∀ W, (Instr.slice 22 (.slice A xs.length c) (some (.int .i64 ((i : Int) + 1))) none none).run Try.prog W = .ok (.slice (cutA A c (i + 1) 1) (xs.length - (i + 1)) (c - (i + 1))) W := fun W => by
    have := run_cut_l W slt_int A xs.length c (i + 1) (by omega)
    rw [show (((i + 1 : Nat) : Int)) = (i : Int) + 1 by omega] at this
    exact this
  have L1 := Lib.hid (show (xs.take i).length = i by rw [List.length_take]; omega)
  have L2 := Lib.hid (show (xs.drop (i + 1)).length = xs.length - (i + 1) by rw [List.length_drop])
  have u1 := (Upd.refl No w).alloc (.cells #[] 3)
  have s1 := (((h'.cut (i := 0) hc).take (i := i)).upd u1 (fun _ _ => id)).src
  rw [List.drop_zero, L1.out] at s1
  have s2 : Hid (∀ W, Upd No w W → Src W (cutA A c (i + 1) 1) (xs.length - (i + 1)) 1 ((xs.drop (i + 1)).map (Value.int .i64))) := by
    refine Lib.hid fun W hu => ?_
    have := ((h'.cut (i := i + 1) hc).upd hu (fun _ _ => id)).src
    rw [L2.out] at this
    exact this
  have tok : True := trivial
  have b0 : (0 : Int) ≤ (i : Int) := Int.natCast_nonneg _
  have b1 : (i : Int) ≤ 1000000 := by omega
  go_enter Try.func61, Try.ntmps61
  go_wp2_with (first
    | (at_builtin; have _t := tok; refine appN rfl rfl slt_int (v := .slice (some ⟨w.heap.size, 0, none⟩) 0 0) (n := 0) (xs := []) (by rfl) rfl (World.ownsRow_made w #[] 0 (Nat.le_refl _) (by decide) rfl) s1 (Ints.one_ _) (by omega) (by omega) (by simp) ?_; intro v1 w1 hown1 hupd1 hgrew1; clear tok; simp only [Nat.zero_add, List.nil_append] at hown1; obtain ⟨A1, c1, rfl⟩ := own_slice hown1; have uw1 : Upd No w w1 := u1.then_ hupd1 (fun j e => .inr (own_ge e)))
    | (at_builtin; refine appN rfl rfl slt_int (n := i) (m := xs.length - (i + 1)) (by rfl) (by rfl) hown1 (s2.out _ uw1) (Ints.one_ _) (by omega) (by omega) (by exact uw1.size) ?_; intro v2 w2 hown2 hupd2 hgrew2))
  obtain ⟨A2, c2, rfl⟩ := own_slice hown2
  have hlt := hown1.lt
  have uw2 : Upd No w w2 := uw1.then_ hupd2 (fun j e => .inr (hlt j e).1)
  have L3 : i + (xs.length - (i + 1)) = (xs.take i ++ xs.drop (i + 1)).length := by rw [List.length_append, L1.out, L2.out]
  rw [← List.map_append, L3] at hown2
  go_ret
  exact ⟨A2, c2, by first | rfl | (rw [L3]; rfl), own_cap hown2, Ints.of_own hown2, uw2⟩
/-- the first place from i on that fits -/
def idxF (p : Int → Bool) : List Int → Nat → Int
  | [], _ => -1
  | x :: l, i => if p x then (i : Int) else idxF p l (i + 1)
theorem idxF_none (p : Int → Bool) : ∀ (l : List Int) (i : Nat), idxF p l i = -1 → l.find? p = none
  | [], _, _ => rfl
  | x :: l, i, h => by
    unfold idxF at h
    cases hp : p x with
    | true => rw [hp] at h; simp only [if_true] at h; omega
    | false => rw [List.find?_cons, hp]; rw [hp] at h; exact idxF_none p l (i + 1) h
theorem idxF_some (p : Int → Bool) : ∀ (l : List Int) (i : Nat), idxF p l i ≠ -1 → ∃ l1 x l2, l = l1 ++ x :: l2 ∧ idxF p l i = ((i + l1.length : Nat) : Int) ∧ l.find? p = some x ∧ p x = true ∧ ∀ y ∈ l1, p y = false
  | [], _, h => absurd rfl h
  | x :: l, i, h => by
    unfold idxF at h ⊢
    cases hp : p x with
    | true => exact ⟨[], x, l, rfl, by simp, by rw [List.find?_cons, hp], hp, by simp⟩
    | false =>
      rw [hp] at h
      obtain ⟨l1, y, l2, h1, h2, h3, h4, h5⟩ := idxF_some p l (i + 1) h
      refine ⟨x :: l1, y, l2, by rw [h1]; rfl, ?_, by rw [List.find?_cons, hp]; exact h3, h4, fun z hz => ?_⟩
      · simp only [Bool.false_eq_true, if_false]; rw [h2, List.length_cons]; omega
      · rcases List.mem_cons.1 hz with rfl | hz
        · exact hp
        · exact h5 z hz
theorem idxF_lb (p : Int → Bool) (l : List Int) (i : Nat) : -1 ≤ idxF p l i := by
  by_cases h : idxF p l i = -1
  · omega
  · obtain ⟨_, _, _, _, h2, _⟩ := idxF_some p l i h; omega
theorem idxF_cut {p : Int → Bool} {L : List Int} {a : Int} (h : idxF p L 0 = a) (ha : ¬ a < 0) : ∃ (k : Nat) (x : Int) (hk : k < L.length), a = (k : Int) ∧ L[k] = x ∧ L.find? p = some x ∧ L.take k ++ L.drop (k + 1) = L.erase x := by
  obtain ⟨l1, x, l2, rfl, h2, h3, h4, h5⟩ := idxF_some p L 0 (by omega)
  have hx : x ∉ l1 := fun hm => by rw [h5 x hm] at h4; cases h4
  refine ⟨l1.length, x, by simp, by rw [← h, h2]; simp, by simp, h3, ?_⟩
  rw [List.erase_append_right _ hx, List.erase_cons_head, List.take_left, List.drop_append]
  simp
theorem idxF_step {p : Int → Bool} {L : List Int} {k : Nat} {x : Int} (hk : k < L.length) (hx : L[k] = x) : idxF p (L.drop k) k = if p x then (k : Int) else idxF p (L.drop (k + 1)) (k + 1) := by
  rw [List.drop_eq_getElem_cons hk, hx]; rfl
theorem setK_put (ids : List Int) : putAll [] ids = setK ids := rise_eq (putAll_lt ids [] List.Pairwise.nil) (setK_lt ids) fun a => by rw [mem_putAll, mem_setK]; simp
theorem putAll_snoc (s l : List Int) (x : Int) : putAll s (l ++ [x]) = putL x (putAll s l) := by
  induction l generalizing s with
  | nil => rfl
  | cons a l ih => exact ih _
/-- whether one is free, told edge by edge -/
theorem free_drop {l : List Edge} {k : Nat} {e : Edge} (hk : k < l.length) (he : l[k] = e) (L : List Int) (x : Int) : freeE (l.drop k) L x = (!(decide (e.t = x) && decide (e.f ∈ L)) && freeE (l.drop (k + 1)) L x) := by
  rw [List.drop_eq_getElem_cons hk, he]; rfl
end Go.Proofs.Ytaicemjckagcaaa
