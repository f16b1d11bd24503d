/- Walks turned: the plain law: the least of all that are begun elsewhere is one, from whichever place it is begun. -/
import Derived.Test.YtgakhpdclhlmpaaWalkF
import Derived.Test.YtgakhpdclhlmpaaWalkG
namespace Go.Proofs.Ytgakhpdclhlmpaa
set_option linter.unusedVariables false
open Go.RowKit

theorem ltE_irr (a : Edge) : ltE a a = false := by unfold ltE; simp
theorem ltE_iff (a b : Edge) : ltE a b = true ↔ a.f < b.f ∨ (a.f = b.f ∧ (a.k < b.k ∨ (a.k = b.k ∧ (a.key < b.key ∨ (a.key = b.key ∧ a.t < b.t))))) := by
  unfold ltE
  split
  · simp; omega
  · split
    · simp; omega
    · split <;> simp <;> omega
theorem ltE_trans {a b c : Edge} (h : ltE a b = true) (k : ltE b c = true) : ltE a c = true := by
  rw [ltE_iff] at *; omega
theorem ltE_tri {a b : Edge} (h : ltE a b = false) (k : ltE b a = false) : a = b := by
  rw [← Bool.not_eq_true, ltE_iff] at h k
  obtain ⟨f, t, n, y⟩ := a
  obtain ⟨f', t', n', y'⟩ := b
  simp only [Edge.mk.injEq] at *
  omega
theorem lexB_cons (a b : Edge) (xs ys : List Edge) : lexB (a :: xs) (b :: ys) = true ↔ ltE a b = true ∨ (a = b ∧ lexB xs ys = true) := by
  show (if a = b then lexB xs ys else ltE a b) = true ↔ _
  by_cases h : a = b
  · subst h; simp [ltE_irr]
  · simp [h]
theorem lexB_trans : ∀ {xs ys zs : List Edge}, lexB xs ys = true → lexB ys zs = true → lexB xs zs = true
  | [], _, _, h, _ => by simp [lexB] at h
  | _ :: _, [], _, h, _ => by simp [lexB] at h
  | _ :: _, _ :: _, [], _, h => by simp [lexB] at h
  | x :: xs, y :: ys, z :: zs, h, k => by
    rw [lexB_cons] at *
    rcases h with h | ⟨rfl, h⟩
    · rcases k with k | ⟨rfl, k⟩
      · exact .inl (ltE_trans h k)
      · exact .inl h
    · rcases k with k | ⟨rfl, k⟩
      · exact .inl k
      · exact .inr ⟨rfl, lexB_trans h k⟩
theorem lexB_tri : ∀ {xs ys : List Edge}, xs.length = ys.length → lexB xs ys = false → lexB ys xs = false → xs = ys
  | [], [], _, _, _ => rfl
  | _ :: _, [], h, _, _ => by simp at h
  | [], _ :: _, h, _, _ => by simp at h
  | x :: xs, y :: ys, hl, h, k => by
    rw [← Bool.not_eq_true, lexB_cons] at h k
    have hxy : x = y := by
      by_cases e : x = y
      · exact e
      · exact ltE_tri (by rw [← Bool.not_eq_true]; exact fun q => h (.inl q)) (by rw [← Bool.not_eq_true]; exact fun q => k (.inl q))
    subst hxy
    rw [lexB_tri (xs := xs) (ys := ys) (by simpa using hl) (by rw [← Bool.not_eq_true]; exact fun q => h (.inr ⟨rfl, q⟩)) (by rw [← Bool.not_eq_true]; exact fun q => k (.inr ⟨rfl, q⟩))]
theorem bestF_min (l : List Edge) : ∀ k, ∀ i, i < k → lexB (rot l i) (rot l (bestF l k)) = false
  | 0, i, h => by omega
  | k + 1, i, h => by
    unfold bestF
    split
    · rename_i hb
      by_cases e : i = k
      · subst e; exact lexB_self _
      · have := bestF_min l k i (by omega)
        rw [← Bool.not_eq_true]
        intro q
        rw [lexB_trans q hb] at this
        cases this
    · rename_i hb
      by_cases e : i = k
      · subst e; exact by simpa using hb
      · exact bestF_min l k i (by omega)
theorem bestF_lt (l : List Edge) : ∀ k, bestF l k = 0 ∨ bestF l k < k
  | 0 => .inl rfl
  | k + 1 => by
    unfold bestF
    split
    · exact .inr (by omega)
    · rcases bestF_lt l k with h | h
      · exact .inl h
      · exact .inr (by omega)
theorem rot_rot (l : List Edge) {i j : Nat} (hi : i < l.length) (hj : j < l.length) : rot (rot l i) j = rot l ((i + j) % l.length) := by
  have hm : (i + j) % l.length < l.length := Nat.mod_lt _ (by omega)
  apply List.ext_getElem?
  intro n
  have e1 := rot_len l (i := i) (by omega)
  by_cases hn : n < l.length
  · rw [rot_at (by omega) (by omega), e1, rot_at (by omega) (Nat.mod_lt _ (by omega)), rot_at (by omega) hn]
    congr 1
    rw [Nat.add_mod_mod, Nat.mod_add_mod, Nat.add_assoc]
  · rw [List.getElem?_eq_none (by rw [rot_len _ (by omega), e1]; omega), List.getElem?_eq_none (by rw [rot_len _ (by omega)]; omega)]
/-- the least: what it is -/
theorem turn_min (l : List Edge) {i : Nat} (hi : i < l.length) : lexB (rot l i) (turnOf l) = false := bestF_min l _ i hi
theorem turn_is (l : List Edge) (h : 0 < l.length) : ∃ b, b < l.length ∧ turnOf l = rot l b := by
  rcases bestF_lt l l.length with e | e
  · exact ⟨0, h, by unfold turnOf; rw [e]⟩
  · exact ⟨_, e, rfl⟩
theorem turn_rot (l : List Edge) {i : Nat} (hi : i < l.length) : turnOf (rot l i) = turnOf l := by
  have e1 := rot_len l (i := i) (by omega)
  obtain ⟨b, hb, eb⟩ := turn_is l (by omega)
  obtain ⟨c, hc, ec⟩ := turn_is (rot l i) (by omega)
  rw [e1] at hc
  apply lexB_tri
  · rw [turn_len, turn_len, e1]
  · rw [ec, rot_rot l hi hc]
    exact turn_min l (Nat.mod_lt _ (by omega))
  · -- rot l b = rot (rot l i) ((b + n - i) % n)
    have hd : (b + (l.length - i)) % l.length < l.length := Nat.mod_lt _ (by omega)
    have e2 : rot (rot l i) ((b + (l.length - i)) % l.length) = rot l b := by
      rw [rot_rot l hi hd, Nat.add_mod_mod]
      congr 1
      rw [show i + (b + (l.length - i)) = b + l.length by omega, Nat.add_mod_right, Nat.mod_eq_of_lt hb]
    rw [eb, ← e2]
    exact turn_min (rot l i) (by rw [e1]; exact hd)
theorem turn_turn (l : List Edge) : turnOf (turnOf l) = turnOf l := by
  by_cases h : 0 < l.length
  · obtain ⟨b, hb, eb⟩ := turn_is l h
    conv => lhs; rw [eb]
    exact turn_rot l hb
  · have : l = [] := List.eq_nil_of_length_eq_zero (by omega)
    subst this
    rfl
theorem turn_less (l : List Edge) : lessB l (turnOf l) = false := by
  unfold lessB
  rw [if_pos (turn_len l).symm]
  by_cases h : 0 < l.length
  · have := turn_min l h
    rwa [rot_zero] at this
  · have : l = [] := List.eq_nil_of_length_eq_zero (by omega)
    subst this
    rfl
theorem rot_perm (l : List Edge) (i : Nat) : (rot l i).Perm l := by
  unfold rot
  exact List.perm_append_comm.trans (by rw [List.take_append_drop])
theorem turn_perm (l : List Edge) : (turnOf l).Perm l := rot_perm l _
theorem perm_any {l m : List Edge} (h : l.Perm m) (p : Edge → Bool) : l.any p = m.any p := by
  rw [Bool.eq_iff_iff]; simp only [List.any_eq_true]
  exact ⟨fun ⟨x, hx, hp⟩ => ⟨x, h.mem_iff.1 hx, hp⟩, fun ⟨x, hx, hp⟩ => ⟨x, h.mem_iff.2 hx, hp⟩⟩
theorem perm_mask {l m : List Edge} (h : l.Perm m) : maskOf l = maskOf m := by
  unfold maskOf hasK
  rw [List.take_length, List.take_length, perm_any h, perm_any h, perm_any h]
theorem perm_simple {l m : List Edge} (h : l.Perm m) : simpleB l = simpleB m := by
  unfold simpleB
  rw [decide_eq_decide]
  exact (h.map _).nodup_iff
theorem closed_rot1 (l : List Edge) {i : Nat} (hi : i < l.length) (h : closedB l = true) : closedB (rot l i) = true := by
  unfold closedB at *
  have e1 := rot_len l (i := i) (by omega)
  simp only [Bool.and_eq_true, decide_eq_true_eq, List.all_eq_true, List.mem_range] at h ⊢
  refine ⟨by omega, fun x hx => ?_⟩
  rw [e1] at hx
  have := h.2 ((i + x) % l.length) (Nat.mod_lt _ (by omega))
  unfold okC at this ⊢
  rw [e1, rot_at (by omega) hx, rot_at (by omega) (Nat.mod_lt _ (by omega))]
  rw [Nat.mod_add_mod] at this
  rw [Nat.add_mod_mod, ← Nat.add_assoc]
  exact this
theorem closed_rot (l : List Edge) {i : Nat} (hi : i < l.length) : closedB (rot l i) = closedB l := by
  have e1 := rot_len l (i := i) (by omega)
  rw [Bool.eq_iff_iff]
  refine ⟨fun h => ?_, closed_rot1 l hi⟩
  by_cases h0 : i = 0
  · subst h0; rwa [rot_zero] at h
  · have := closed_rot1 (rot l i) (i := l.length - i) (by omega) h
    rw [rot_rot l hi (by omega), show i + (l.length - i) = l.length by omega, Nat.mod_self, rot_zero] at this
    exact this
theorem turn_closed (l : List Edge) : closedB (turnOf l) = closedB l := by
  by_cases h : 0 < l.length
  · obtain ⟨b, hb, eb⟩ := turn_is l h
    rw [eb]
    exact closed_rot l hb
  · have : l = [] := List.eq_nil_of_length_eq_zero (by omega)
    subst this
    rfl
end Go.Proofs.Ytgakhpdclhlmpaa
