/- Closed walks, plain: what distances say of walks. -/
import Derived.Test.YtaicemjckagcaaaMbk
namespace Go.Proofs.Ytaicemjckagcaaa
set_option linter.unusedVariables false
open Go.RowKit
section
variable {α : Type}
/-- so many steps of the search lead from the root to one -/
def Steps (ok : α → Bool) (ps : α → List α) (root : α) : Nat → α → Prop
  | 0, u => u = root
  | n + 1, u => ∃ v, Steps ok ps root n v ∧ u ∈ ps v ∧ ok u = true
theorem steps_le {ok : α → Bool} {ps : α → List α} {dom : List α} {root : α} {d : α → Int} (h : BInv ok ps dom root d []) : ∀ (n : Nat) (u : α), Steps ok ps root n u → 0 ≤ d u ∧ d u ≤ (n : Int)
  | 0, u, hu => by
    have : u = root := hu
    have := (h.z u).2 this
    omega
  | n + 1, u, ⟨v, hv, hu, ho⟩ => by
    have ih := steps_le h n v hv
    have := h.clo v ih.1 (by simp) u hu ho
    omega
theorem steps_of {ok : α → Bool} {ps : α → List α} {dom : List α} {root : α} {d : α → Int} (h : BInv ok ps dom root d []) : ∀ (n : Nat) (u : α), d u = (n : Int) → Steps ok ps root n u
  | 0, u, hu => (h.z u).1 (by simpa using hu)
  | n + 1, u, hu => by
    rcases h.par u (by omega) with e | ⟨v, h1, h2, h3, h4⟩
    · have := (h.z u).2 e
      omega
    · exact ⟨v, steps_of h n v (by omega), h1, h2⟩
end
/-- a walk of arcs through nodes that are not less than one -/
def okW (p : List HArc) (least : Int) : Int → List HArc → Int → Prop
  | u, [], v => u = v
  | u, a :: l, v => a ∈ p ∧ a.f = u ∧ least ≤ u ∧ okW p least a.t l v
theorem okW_append {p : List HArc} {least : Int} : ∀ {l m : List HArc} {u x v : Int}, okW p least u l x → okW p least x m v → okW p least u (l ++ m) v
  | [], m, u, x, v, h, k => by
    have : u = x := h
    subst this
    exact k
  | a :: l, m, u, x, v, h, k => ⟨h.1, h.2.1, h.2.2.1, okW_append h.2.2.2 k⟩
theorem okW_split {p : List HArc} {least : Int} : ∀ {l m : List HArc} {u v : Int}, okW p least u (l ++ m) v → ∃ x, okW p least u l x ∧ okW p least x m v
  | [], m, u, v, h => ⟨u, rfl, h⟩
  | a :: l, m, u, v, h => by
    obtain ⟨x, h1, h2⟩ := okW_split (l := l) h.2.2.2
    exact ⟨x, ⟨h.1, h.2.1, h.2.2.1, h1⟩, h2⟩
theorem okW_mono {p p' : List HArc} {least least' : Int} (hp : ∀ a ∈ p, a ∈ p') (hl : least' ≤ least) : ∀ {l : List HArc} {u v : Int}, okW p least u l v → okW p' least' u l v
  | [], u, v, h => h
  | a :: l, u, v, h => ⟨hp a h.1, h.2.1, Int.le_trans hl h.2.2.1, okW_mono hp hl h.2.2.2⟩
/-! masks -/
theorem bitM_bv (x : Int) (j : Nat) (hj : j = 1 ∨ j = 2 ∨ j = 3) : bitM x (j : Int) = (BitVec.ofInt 64 x).toNat.testBit j := by
  unfold bitM
  rw [Nat.testBit_eq_decide_div_mod_eq, BitVec.toNat_ofInt, decide_eq_decide]
  rcases hj with rfl | rfl | rfl
  · show (x / 2) % 2 = 1 ↔ (x % 18446744073709551616).toNat / 2 % 2 = 1
    omega
  · show (x / 4) % 2 = 1 ↔ (x % 18446744073709551616).toNat / 4 % 2 = 1
    omega
  · show (x / 8) % 2 = 1 ↔ (x % 18446744073709551616).toNat / 8 % 2 = 1
    omega
theorem wrap64 (n : Nat) (h : n < 18446744073709551616) : IntKind.i64.wrap (n : Int) = (n : Int) ∨ IntKind.i64.wrap (n : Int) = (n : Int) - 18446744073709551616 := by
  unfold IntKind.wrap
  simp [IntKind.signed, IntKind.bits]
  omega
theorem bitM_wrap (n : Nat) (h : n < 18446744073709551616) (j : Nat) (hj : j = 1 ∨ j = 2 ∨ j = 3) : bitM (IntKind.i64.wrap (n : Int)) (j : Int) = n.testBit j := by
  rw [bitM_bv _ j hj]
  congr 1
  rw [BitVec.toNat_ofInt]
  rcases wrap64 n h with e | e <;> rw [e] <;> omega
theorem bitM_and (x y : Int) (j : Nat) (hj : j = 1 ∨ j = 2 ∨ j = 3) : bitM (bits .and .i64 x y) (j : Int) = (bitM x (j : Int) && bitM y (j : Int)) := by
  rw [bitM_bv x j hj, bitM_bv y j hj]
  have e : bits .and .i64 x y = IntKind.i64.wrap (((BitVec.ofInt 64 x &&& BitVec.ofInt 64 y).toNat : Nat) : Int) := rfl
  rw [e, bitM_wrap _ (BitVec.isLt _) j hj, BitVec.toNat_and, Nat.testBit_and]
theorem bitM_andNot (x y : Int) (j : Nat) (hj : j = 1 ∨ j = 2 ∨ j = 3) : bitM (bits .andNot .i64 x y) (j : Int) = (bitM x (j : Int) && !bitM y (j : Int)) := by
  rw [bitM_bv x j hj, bitM_bv y j hj]
  have e : bits .andNot .i64 x y = IntKind.i64.wrap (((BitVec.ofInt 64 x &&& ~~~ BitVec.ofInt 64 y).toNat : Nat) : Int) := rfl
  rw [e, bitM_wrap _ (BitVec.isLt _) j hj, BitVec.toNat_and, Nat.testBit_and]
  congr 1
  have : (~~~ BitVec.ofInt 64 y).toNat.testBit j = (~~~ BitVec.ofInt 64 y).getLsbD j := rfl
  rw [this, BitVec.getLsbD_not]
  have h64 : decide (j < 64) = true := decide_eq_true (by omega)
  rw [h64, Bool.true_and]
  rfl
/-- an arc of the other mask -/
def isM (must : Int) (a : HArc) : Bool := bitM must a.kind
theorem kind_nat {k : Int} (h1 : 1 ≤ k) (h2 : k ≤ 3) : ∃ j : Nat, k = (j : Int) ∧ (j = 1 ∨ j = 2 ∨ j = 3) := ⟨k.toNat, by omega, by omega⟩
theorem mem_p1 {mask must : Int} {q : List HArc} (hk : ∀ a ∈ q, 1 ≤ a.kind ∧ a.kind ≤ 3) {a : HArc} : a ∈ ofA (bits .andNot .i64 mask must) q ↔ a ∈ ofA mask q ∧ isM must a = false := by
  rw [mem_ofA, mem_ofA]
  unfold isM
  constructor
  · rintro ⟨h1, h2⟩
    obtain ⟨j, hj, hj2⟩ := kind_nat (hk a h1).1 (hk a h1).2
    rw [hj, bitM_andNot _ _ j hj2, Bool.and_eq_true, ← hj] at h2
    exact ⟨⟨h1, h2.1⟩, by simpa using h2.2⟩
  · rintro ⟨⟨h1, h2⟩, h3⟩
    refine ⟨h1, ?_⟩
    obtain ⟨j, hj, hj2⟩ := kind_nat (hk a h1).1 (hk a h1).2
    rw [hj] at h2 h3 ⊢
    rw [bitM_andNot _ _ j hj2, h2, h3]
    rfl
theorem mem_p2 {mask must : Int} {q : List HArc} (hk : ∀ a ∈ q, 1 ≤ a.kind ∧ a.kind ≤ 3) {a : HArc} : a ∈ ofA (bits .and .i64 mask must) q ↔ a ∈ ofA mask q ∧ isM must a = true := by
  rw [mem_ofA, mem_ofA]
  unfold isM
  constructor
  · rintro ⟨h1, h2⟩
    obtain ⟨j, hj, hj2⟩ := kind_nat (hk a h1).1 (hk a h1).2
    rw [hj, bitM_and _ _ j hj2, Bool.and_eq_true, ← hj] at h2
    exact ⟨⟨h1, h2.1⟩, h2.2⟩
  · rintro ⟨⟨h1, h2⟩, h3⟩
    refine ⟨h1, ?_⟩
    obtain ⟨j, hj, hj2⟩ := kind_nat (hk a h1).1 (hk a h1).2
    rw [hj] at h2 h3 ⊢
    rw [bitM_and _ _ j hj2, h2, h3]
    rfl
/-- the steps of the search with two states are walks, backward -/
theorem mem_prev2 {mask must : Int} {q : List HArc} (hk : ∀ a ∈ q, 1 ≤ a.kind ∧ a.kind ≤ 3) (y z : Int) :
    z ∈ prev2 (ofA (bits .andNot .i64 mask must) q) (ofA (bits .and .i64 mask must) q) (bits .andNot .i64 mask must) (bits .and .i64 mask must) y ↔ ∃ a ∈ ofA mask q, a.t = y / 2 ∧ z = a.f * 2 + (if isM must a = true then 1 else y % 2) := by
  have hm : bits .andNot .i64 mask must = bits .and .i64 mask must → ofA (bits .andNot .i64 mask must) q = [] := fun e => by
    rw [List.eq_nil_iff_forall_not_mem]
    intro a ha
    have h1 := (mem_p1 hk).1 ha
    rw [e] at ha
    have h2 := (mem_p2 hk).1 ha
    rw [h1.2] at h2
    cases h2.2
  unfold prev2
  rw [List.mem_append, List.mem_map, List.mem_map]
  have m : ∀ (p : List HArc) (u : Int), u ∈ nxA (y / 2) true p ↔ ∃ a ∈ p, a.t = y / 2 ∧ u = a.f := fun p u => mem_prevF (u := u) (v := y / 2) (p := p)
  constructor
  · rintro (⟨u, hu, rfl⟩ | ⟨u, hu, rfl⟩)
    · obtain ⟨a, ha, h1, rfl⟩ := (m _ u).1 hu
      have h2 := (mem_p1 hk).1 ha
      refine ⟨a, h2.1, h1, ?_⟩
      rw [if_neg (by rw [h2.2]; decide)]
      unfold nowF
      rw [if_neg (fun e => by rw [hm e] at ha; cases ha)]
    · obtain ⟨a, ha, h1, rfl⟩ := (m _ u).1 hu
      have h2 := (mem_p2 hk).1 ha
      exact ⟨a, h2.1, h1, by rw [if_pos h2.2]⟩
  · rintro ⟨a, ha, h1, rfl⟩
    by_cases hM : isM must a = true
    · rw [if_pos hM]
      exact .inr ⟨a.f, (m _ _).2 ⟨a, (mem_p2 hk).2 ⟨ha, hM⟩, h1, rfl⟩, rfl⟩
    · rw [if_neg hM]
      have h3 := (mem_p1 hk).2 ⟨ha, by simpa using hM⟩
      refine .inl ⟨a.f, (m _ _).2 ⟨a, h3, h1, rfl⟩, ?_⟩
      unfold nowF
      rw [if_neg (fun e => by rw [hm e] at h3; cases h3)]
/-- whether a walk has an arc of the other mask -/
def hasM (must : Int) (l : List HArc) : Bool := l.any (isM must)
theorem steps_walk {mask must least node : Int} {q : List HArc} (hk : ∀ a ∈ q, 1 ≤ a.kind ∧ a.kind ≤ 3) :
    ∀ (n : Nat) (u : Int) (h : Int), (h = 0 ∨ h = 1) →
      (Steps (okL2 least) (prev2 (ofA (bits .andNot .i64 mask must) q) (ofA (bits .and .i64 mask must) q) (bits .andNot .i64 mask must) (bits .and .i64 mask must)) (node * 2) n (u * 2 + h) ↔
        ∃ l, okW (ofA mask q) least u l node ∧ l.length = n ∧ (h = 1 ↔ hasM must l = true))
  | 0, u, h, hh => by
    constructor
    · intro e
      have e : u * 2 + h = node * 2 := e
      have : h = 0 := by omega
      subst this
      exact ⟨[], show u = node by omega, rfl, by simp [hasM]⟩
    · rintro ⟨l, h1, h2, h3⟩
      have : l = [] := List.eq_nil_of_length_eq_zero h2
      subst this
      have h1 : u = node := h1
      have h0 : h = 0 := by
        rcases hh with e | e
        · exact e
        · have := h3.1 e
          simp [hasM] at this
      show u * 2 + h = node * 2
      omega
  | n + 1, u, h, hh => by
    constructor
    · rintro ⟨v, hv, hu, ho⟩
      obtain ⟨a, ha, h1, h2⟩ := (mem_prev2 hk v (u * 2 + h)).1 hu
      have hs : (if isM must a = true then (1 : Int) else v % 2) = 0 ∨ (if isM must a = true then (1 : Int) else v % 2) = 1 := by split <;> omega
      have hu2 : u = a.f := by omega
      have hh2 : h = if isM must a = true then 1 else v % 2 := by omega
      have hv2 : v = a.t * 2 + v % 2 := by omega
      rw [hv2] at hv
      obtain ⟨l, k1, k2, k3⟩ := (steps_walk hk n a.t (v % 2) (by omega)).1 hv
      refine ⟨a :: l, ⟨ha, hu2.symm, ?_, k1⟩, by simp [k2], ?_⟩
      · have := of_decide_eq_true ho
        omega
      · unfold hasM
        rw [List.any_cons, Bool.or_eq_true, hh2]
        by_cases hM : isM must a = true
        · rw [if_pos hM]
          exact ⟨fun _ => .inl hM, fun _ => rfl⟩
        · rw [if_neg hM, k3]
          unfold hasM
          exact ⟨.inr, fun e => e.resolve_left hM⟩
    · rintro ⟨l, k1, k2, k3⟩
      cases l with
      | nil => simp at k2
      | cons a l =>
        obtain ⟨ha, haf, hl, k1⟩ := k1
        have k2 : l.length = n := by simpa using k2
        obtain ⟨g, hg, hg2⟩ : ∃ g : Int, (g = 0 ∨ g = 1) ∧ (g = 1 ↔ hasM must l = true) := by
          by_cases e : hasM must l = true
          · exact ⟨1, .inr rfl, by simp [e]⟩
          · exact ⟨0, .inl rfl, by simp [e]⟩
        refine ⟨a.t * 2 + g, (steps_walk hk n a.t g hg).2 ⟨l, k1, k2, hg2⟩, (mem_prev2 hk _ _).2 ⟨a, ha, by omega, ?_⟩, ?_⟩
        · rw [haf]
          have hgm : (a.t * 2 + g) % 2 = g := by omega
          rw [hgm]
          have : h = if isM must a = true then 1 else g := by
            unfold hasM at k3 hg2
            rw [List.any_cons, Bool.or_eq_true] at k3
            by_cases hM : isM must a = true
            · rw [if_pos hM]
              exact k3.2 (.inl hM)
            · rw [if_neg hM]
              by_cases e : l.any (isM must) = true
              · rw [k3.2 (.inr e), hg2.2 e]
              · have h1 : ¬ h = 1 := fun e2 => (k3.1 e2).elim hM e
                have h2 : ¬ g = 1 := fun e2 => e (hg2.1 e2)
                omega
          rw [this]
        · unfold okL2
          have : (u * 2 + h) / 2 = u := by omega
          rw [this]
          exact decide_eq_true hl
end Go.Proofs.Ytaicemjckagcaaa

/- Closed walks, plain: the shortest from a node, and the first of these. -/
namespace Go.Proofs.Ytaicemjckagcaaa
set_option linter.unusedVariables false
open Go.RowKit
theorem hasM_cons (must : Int) (a : HArc) (l : List HArc) : hasM must (a :: l) = (isM must a || hasM must l) := rfl
theorem hasM_append (must : Int) (l m : List HArc) : hasM must (l ++ m) = (hasM must l || hasM must m) := by
  unfold hasM
  rw [List.any_append]
/-- what the two rows of distances say -/
structure LoopD (p : List HArc) (must i : Int) (da dw : Int → Int) : Prop where
  a1 : ∀ (u : Int) (l : List HArc), okW p i u l i → 0 ≤ da u ∧ da u ≤ (l.length : Int)
  a2 : ∀ u, 0 ≤ da u → ∃ l, okW p i u l i ∧ (l.length : Int) = da u
  w1 : ∀ (u : Int) (l : List HArc), okW p i u l i → hasM must l = true → 0 ≤ dw u ∧ dw u ≤ (l.length : Int)
  w2 : ∀ u, 0 ≤ dw u → ∃ l, okW p i u l i ∧ hasM must l = true ∧ (l.length : Int) = dw u
theorem any_le {N : Nat} {p : List HArc} {i : Int} {d : Int → Int} (h : DistOf N p i i d) (hi : startB N i i = true) : ∀ (l : List HArc) (u : Int), okW p i u l i → 0 ≤ d u ∧ d u ≤ (l.length : Int)
  | [], u, hu => by
    have hu : u = i := hu
    have := (h.z u).2 ⟨hu, hi⟩
    simp only [List.length_nil]
    omega
  | a :: l, u, ⟨ha, haf, hl, hw⟩ => by
    have ih := any_le h hi l a.t hw
    have := h.clo a.t ih.1 u (mem_prevF.2 ⟨a, ha, rfl, haf.symm⟩) hl
    simp only [List.length_cons]
    omega
theorem any_of {N : Nat} {p : List HArc} {i : Int} {d : Int → Int} (h : DistOf N p i i d) : ∀ (n : Nat) (u : Int), d u = (n : Int) → ∃ l, okW p i u l i ∧ l.length = n
  | 0, u, hu => ⟨[], ((h.z u).1 (by simpa using hu)).1, rfl⟩
  | n + 1, u, hu => by
    rcases h.par u (by omega) with ⟨e, hs⟩ | ⟨v, h1, h2, h3, h4⟩
    · have := (h.z u).2 ⟨e, hs⟩
      omega
    · obtain ⟨a, ha, hat, haf⟩ := mem_prevF.1 h1
      obtain ⟨l, k1, k2⟩ := any_of h n v (by omega)
      exact ⟨a :: l, ⟨ha, haf.symm, h2, by rw [hat]; exact k1⟩, by simp [k2]⟩
/-- the row of walks with an arc of the other mask -/
def withF (N : Nat) (q : List HArc) (mask must i : Int) : Int → Int := fun u =>
  mustL N (ofA (bits .andNot .i64 mask must) q) (ofA (bits .and .i64 mask must) q) (bits .andNot .i64 mask must) (bits .and .i64 mask must) i i (u * 2 + 1)
theorem startB_self {N : Nat} {i : Int} (h0 : 0 ≤ i) (h1 : i < (N : Int)) : startB N i i = true := by
  unfold startB
  rw [decide_eq_true (by omega), decide_eq_true h1]
  rfl
theorem loopD_of {N : Nat} {q : List HArc} (hr : ∀ a ∈ q, rightA N a = true) (mask must i : Int) (h0 : 0 ≤ i) (h1 : i < (N : Int)) :
    LoopD (ofA mask q) must i (distL N (ofA mask q) i i) (withF N q mask must i) := by
  have hk : ∀ a ∈ q, 1 ≤ a.kind ∧ a.kind ≤ 3 := fun a ha => by
    have := (rightA_iff _ _).1 (hr a ha)
    exact ⟨this.2.2.2.2.1, this.2.2.2.2.2.1⟩
  have hf : ∀ m, ∀ x ∈ ofA m q, 0 ≤ x.f ∧ x.f < (N : Int) := fun m x hx => by
    have := (rightA_iff _ _).1 (hr x (mem_ofA.1 hx).1)
    exact ⟨this.1, this.2.1⟩
  have hs := startB_self h0 h1
  have hd := distL_is (hf mask) i i
  have hdm : i * 2 ∈ nodesZ (2 * N) := mem_nodesZ.2 ⟨by omega, by omega⟩
  have hcl : ∀ v ∈ nodesZ (2 * N), ∀ u ∈ prev2 (ofA (bits .andNot .i64 mask must) q) (ofA (bits .and .i64 mask must) q) (bits .andNot .i64 mask must) (bits .and .i64 mask must) v, okL2 i u = true → u ∈ nodesZ (2 * N) := fun v _ u hu _ => prev2_in (hf _) (hf _) v u hu
  have B0 := BInv.start (ok := okL2 i) (ps := prev2 (ofA (bits .andNot .i64 mask must) q) (ofA (bits .and .i64 mask must) q) (bits .andNot .i64 mask must) (bits .and .i64 mask must)) hdm (nodesZ_nodup (2 * N))
  have B1 := bfsA_end (nodesZ_nodup (2 * N)) hcl (2 * N) _ _ B0 (by have := B0.fit; unfold Fits at this; rw [nodesZ_len] at this; exact this)
  have hw : ∀ u, withF N q mask must i u = bfsA (okL2 i) (prev2 (ofA (bits .andNot .i64 mask must) q) (ofA (bits .and .i64 mask must) q) (bits .andNot .i64 mask must) (bits .and .i64 mask must)) (2 * N) ((fun u => if u = i * 2 then 0 else -1), [i * 2]) (u * 2 + 1) := fun u => by
    unfold withF mustL
    rw [if_pos hs]
    rfl
  refine ⟨fun u l h => any_le hd hs l u h, fun u hu => ?_, fun u l h hm => ?_, fun u hu => ?_⟩
  · obtain ⟨l, k1, k2⟩ := any_of hd (distL N (ofA mask q) i i u).toNat u (by omega)
    exact ⟨l, k1, by omega⟩
  · rw [hw]
    exact steps_le B1 l.length (u * 2 + 1) ((steps_walk hk l.length u 1 (.inr rfl)).2 ⟨l, h, rfl, by simp [hm]⟩)
  · rw [hw] at hu ⊢
    obtain ⟨n, hn⟩ : ∃ n : Nat, bfsA (okL2 i) (prev2 (ofA (bits .andNot .i64 mask must) q) (ofA (bits .and .i64 mask must) q) (bits .andNot .i64 mask must) (bits .and .i64 mask must)) (2 * N) ((fun u => if u = i * 2 then 0 else -1), [i * 2]) (u * 2 + 1) = (n : Int) := ⟨_, (Int.toNat_of_nonneg hu).symm⟩
    obtain ⟨l, k1, k2, k3⟩ := (steps_walk hk n u 1 (.inr rfl)).1 (steps_of B1 n _ hn)
    exact ⟨l, k1, k3.1 rfl, by rw [hn, k2]⟩
/-- how many arcs are left behind an arc -/
def leftF (must : Int) (da dw : Int → Int) (need : Bool) (a : HArc) : Int := if (need && !isM must a) = true then dw a.t else da a.t
section
variable {p : List HArc} {must i : Int} {da dw : Int → Int}
theorem left_le (h : LoopD p must i da dw) (need : Bool) (a : HArc) (l : List HArc) (hw : okW p i a.t l i) (hm : need = true → hasM must (a :: l) = true) : 0 ≤ leftF must da dw need a ∧ leftF must da dw need a ≤ (l.length : Int) := by
  unfold leftF
  split
  · rename_i hn
    rw [Bool.and_eq_true] at hn
    have h1 := hm hn.1
    rw [hasM_cons] at h1
    have h2 : isM must a = false := by simpa using hn.2
    rw [h2, Bool.false_or] at h1
    exact h.w1 a.t l hw h1
  · exact h.a1 a.t l hw
theorem left_of (h : LoopD p must i da dw) (need : Bool) (a : HArc) (h0 : 0 ≤ leftF must da dw need a) : ∃ l, okW p i a.t l i ∧ (l.length : Int) = leftF must da dw need a ∧ (need = true → hasM must (a :: l) = true) := by
  unfold leftF at h0 ⊢
  split at h0
  · rename_i hn
    obtain ⟨l, k1, k2, k3⟩ := h.w2 a.t h0
    rw [if_pos hn]
    exact ⟨l, k1, k3, fun _ => by rw [hasM_cons, k2]; simp⟩
  · rename_i hn
    obtain ⟨l, k1, k2⟩ := h.a2 a.t h0
    rw [if_neg hn]
    refine ⟨l, k1, k2, fun e => ?_⟩
    rw [e, Bool.true_and] at hn
    have : isM must a = true := by simpa using hn
    rw [hasM_cons, this]
    rfl
end
/-- the least of some, and one; 0: there is none -/
def shortF (lf : HArc → Int) : Int → List HArc → Int
  | best, [] => best
  | best, a :: l => shortF lf (if (decide (0 ≤ lf a) && (best == 0 || decide (lf a + 1 < best))) = true then lf a + 1 else best) l
theorem shortF_spec (lf : HArc → Int) : ∀ (l : List HArc) (best : Int), 0 ≤ best → 0 ≤ shortF lf best l ∧ (0 < best → 0 < shortF lf best l ∧ shortF lf best l ≤ best) ∧ (∀ a ∈ l, 0 ≤ lf a → 0 < shortF lf best l ∧ shortF lf best l ≤ lf a + 1) ∧ (0 < shortF lf best l → shortF lf best l = best ∨ ∃ a ∈ l, 0 ≤ lf a ∧ shortF lf best l = lf a + 1)
  | [], best, hb => ⟨hb, fun h => ⟨h, Int.le_refl _⟩, fun a ha => (by cases ha), fun _ => .inl rfl⟩
  | x :: l, best, hb => by
    show 0 ≤ shortF lf (if (decide (0 ≤ lf x) && (best == 0 || decide (lf x + 1 < best))) = true then lf x + 1 else best) l ∧ _
    by_cases hc : (decide (0 ≤ lf x) && (best == 0 || decide (lf x + 1 < best))) = true
    · have hs : shortF lf best (x :: l) = shortF lf (lf x + 1) l := by
        show shortF lf (if (decide (0 ≤ lf x) && (best == 0 || decide (lf x + 1 < best))) = true then lf x + 1 else best) l = _
        rw [if_pos hc]
      rw [if_pos hc, hs]
      rw [Bool.and_eq_true, decide_eq_true_eq, Bool.or_eq_true, beq_iff_eq, decide_eq_true_eq] at hc
      obtain ⟨i1, i2, i3, i4⟩ := shortF_spec lf l (lf x + 1) (by omega)
      have i2' := i2 (by omega)
      refine ⟨i1, fun hb0 => ⟨i2'.1, by omega⟩, fun a ha h0 => ?_, fun h => ?_⟩
      · rcases List.mem_cons.1 ha with rfl | ha
        · exact i2'
        · exact i3 a ha h0
      · rcases i4 h with e | ⟨a, ha, h0, e⟩
        · exact .inr ⟨x, List.mem_cons_self, hc.1, e⟩
        · exact .inr ⟨a, List.mem_cons_of_mem _ ha, h0, e⟩
    · have hs : shortF lf best (x :: l) = shortF lf best l := by
        show shortF lf (if (decide (0 ≤ lf x) && (best == 0 || decide (lf x + 1 < best))) = true then lf x + 1 else best) l = _
        rw [if_neg hc]
      rw [if_neg hc, hs]
      rw [Bool.and_eq_true, decide_eq_true_eq, Bool.or_eq_true, beq_iff_eq, decide_eq_true_eq] at hc
      obtain ⟨i1, i2, i3, i4⟩ := shortF_spec lf l best hb
      refine ⟨i1, i2, fun a ha h0 => ?_, fun h => ?_⟩
      · rcases List.mem_cons.1 ha with rfl | ha
        · have hb0 : 0 < best ∧ best ≤ lf a + 1 := by
            constructor
            · rcases Classical.em (best = 0) with e | e
              · exact absurd ⟨h0, .inl e⟩ hc
              · omega
            · rcases Classical.em (lf a + 1 < best) with e | e
              · exact absurd ⟨h0, .inr e⟩ hc
              · omega
          have := i2 hb0.1
          omega
        · exact i3 a ha h0
      · rcases i4 h with e | ⟨a, ha, h0, e⟩
        · exact .inl e
        · exact .inr ⟨a, List.mem_cons_of_mem _ ha, h0, e⟩
/-- how many arcs the shortest closed walk from a node has -/
def shortA (p : List HArc) (must i : Int) (da dw : Int → Int) (need : Bool) : Int := shortF (leftF must da dw need) 0 (p.filter fun a => a.f == i)
section
variable {p : List HArc} {must i : Int} {da dw : Int → Int}
theorem short_le (h : LoopD p must i da dw) (need : Bool) {c : List HArc} (hc : c ≠ []) (hw : okW p i i c i) (hm : need = true → hasM must c = true) : 0 < shortA p must i da dw need ∧ shortA p must i da dw need ≤ (c.length : Int) := by
  cases c with
  | nil => exact absurd rfl hc
  | cons a l =>
    obtain ⟨ha, haf, hl, hw⟩ := hw
    have h1 := left_le h need a l hw hm
    have h2 := (shortF_spec (leftF must da dw need) (p.filter fun a => a.f == i) 0 (by omega)).2.2.1 a (List.mem_filter.2 ⟨ha, by simp [haf]⟩) h1.1
    unfold shortA
    simp only [List.length_cons]
    omega
theorem short_of (h : LoopD p must i da dw) (need : Bool) (h0 : 0 < shortA p must i da dw need) : ∃ c, c ≠ [] ∧ okW p i i c i ∧ (c.length : Int) = shortA p must i da dw need ∧ (need = true → hasM must c = true) := by
  unfold shortA at h0 ⊢
  rcases (shortF_spec (leftF must da dw need) (p.filter fun a => a.f == i) 0 (by omega)).2.2.2 h0 with e | ⟨a, ha, h1, e⟩
  · omega
  · rw [List.mem_filter, beq_iff_eq] at ha
    obtain ⟨l, k1, k2, k3⟩ := left_of h need a h1
    exact ⟨a :: l, by simp, ⟨ha.1, ha.2, Int.le_refl _, k1⟩, by simp only [List.length_cons]; omega, k3⟩
end
/-- the first walk of so many arcs -/
def walkC (p : List HArc) (must i : Int) (da dw : Int → Int) : Nat → Int → Bool → List HArc
  | 0, _, _ => []
  | n + 1, here, need => match (p.filter fun a => a.f == here).find? (fun a => decide (i ≤ a.t) && decide (leftF must da dw need a = (n : Int))) with
    | some a => a :: walkC p must i da dw n a.t (need && !isM must a)
    | none => walkC p must i da dw n here need
/-- one list of arcs is ahead of another -/
def lexA : List HArc → List HArc → Prop
  | a :: l, b :: m => lessA a b = true ∨ (a = b ∧ lexA l m)
  | _, _ => False
theorem walkC_spec {p : List HArc} {must i : Int} {da dw : Int → Int} (hs : sortedA p) (h : LoopD p must i da dw) (hda : ∀ u, 0 ≤ da u → i ≤ u) (hdw : ∀ u, 0 ≤ dw u → i ≤ u) :
    ∀ (n : Nat) (here : Int) (need : Bool), i ≤ here → (∃ l, okW p i here l i ∧ l.length = n ∧ (need = true → hasM must l = true)) →
      (∀ l, l ≠ [] → okW p i here l i → (need = true → hasM must l = true) → n ≤ l.length) →
      okW p i here (walkC p must i da dw n here need) i ∧ (walkC p must i da dw n here need).length = n ∧ (need = true → hasM must (walkC p must i da dw n here need) = true) ∧
        ∀ l, okW p i here l i → l.length = n → (need = true → hasM must l = true) → l = walkC p must i da dw n here need ∨ lexA (walkC p must i da dw n here need) l
  | 0, here, need, hih, ⟨l, k1, k2, k3⟩, hmin => by
    have : l = [] := List.eq_nil_of_length_eq_zero k2
    subst this
    refine ⟨k1, rfl, k3, fun l _ h2 _ => .inl (List.eq_nil_of_length_eq_zero h2)⟩
  | n + 1, here, need, hih, ⟨l, k1, k2, k3⟩, hmin => by
    have good : ∀ (a : HArc) (l : List HArc), okW p i here (a :: l) i → l.length = n → (need = true → hasM must (a :: l) = true) → a ∈ (p.filter fun a => a.f == here) ∧ (decide (i ≤ a.t) && decide (leftF must da dw need a = (n : Int))) = true := by
      intro a l hw hl hm
      obtain ⟨ha, haf, hia, hw2⟩ := hw
      have h1 := left_le h need a l hw2 hm
      obtain ⟨l2, j1, j2, j3⟩ := left_of h need a h1.1
      have h2 := hmin (a :: l2) (by simp) ⟨ha, haf, hia, j1⟩ j3
      simp only [List.length_cons] at h2
      refine ⟨List.mem_filter.2 ⟨ha, by simp [haf]⟩, ?_⟩
      rw [Bool.and_eq_true, decide_eq_true_eq, decide_eq_true_eq]
      refine ⟨?_, by omega⟩
      unfold leftF at h1
      split at h1
      · exact hdw _ h1.1
      · exact hda _ h1.1
    cases l with
    | nil => simp at k2
    | cons a0 l0 =>
      have g0 := good a0 l0 k1 (by simpa using k2) k3
      obtain ⟨a, hfa⟩ : ∃ a, (p.filter fun a => a.f == here).find? (fun a => decide (i ≤ a.t) && decide (leftF must da dw need a = (n : Int))) = some a := by
        rw [← Option.isSome_iff_exists, List.find?_isSome]
        exact ⟨a0, g0⟩
      have hma := List.mem_of_find?_eq_some hfa
      have hpa := List.find?_some hfa
      rw [List.mem_filter, beq_iff_eq] at hma
      rw [Bool.and_eq_true, decide_eq_true_eq, decide_eq_true_eq] at hpa
      have hwc : walkC p must i da dw (n + 1) here need = a :: walkC p must i da dw n a.t (need && !isM must a) := by
        show (match (p.filter fun a => a.f == here).find? (fun a => decide (i ≤ a.t) && decide (leftF must da dw need a = (n : Int))) with | some a => a :: walkC p must i da dw n a.t (need && !isM must a) | none => walkC p must i da dw n here need) = _
        rw [hfa]
      have tailM : ∀ l : List HArc, (need = true → hasM must (a :: l) = true) → ((need && !isM must a) = true → hasM must l = true) := by
        intro l hm hn
        rw [Bool.and_eq_true] at hn
        have h1 := hm hn.1
        have h2 : isM must a = false := by simpa using hn.2
        rw [hasM_cons, h2, Bool.false_or] at h1
        exact h1
      have headM : ∀ l : List HArc, ((need && !isM must a) = true → hasM must l = true) → (need = true → hasM must (a :: l) = true) := by
        intro l hm hn
        rw [hasM_cons]
        by_cases e : isM must a = true
        · rw [e]; rfl
        · have e2 : isM must a = false := by simpa using e
          rw [hm (by rw [hn, e2]; rfl)]
          simp
      obtain ⟨l1, j1, j2, j3⟩ := left_of h need a (by omega)
      have ih := walkC_spec hs h hda hdw n a.t (need && !isM must a) hpa.1 ⟨l1, j1, by omega, tailM l1 j3⟩ (fun l hl hw hm => by
        have := hmin (a :: l) (by simp) ⟨hma.1, hma.2, hih, hw⟩ (headM l hm)
        simp only [List.length_cons] at this
        omega)
      rw [hwc]
      refine ⟨⟨hma.1, hma.2, hih, ih.1⟩, by simp [ih.2.1], headM _ ih.2.2.1, fun l hw hl hm => ?_⟩
      cases l with
      | nil => simp at hl
      | cons b l =>
        have gb := good b l hw (by simpa using hl) hm
        by_cases e : b = a
        · subst e
          rcases ih.2.2.2 l hw.2.2.2 (by simpa using hl) (tailM l hm) with e | e
          · exact .inl (by rw [e])
          · exact .inr (.inr ⟨rfl, e⟩)
        · refine .inr (.inl ?_)
          -- the first one that fits stands ahead of any other
          obtain ⟨l8, l9, h1, h2⟩ := (List.find?_eq_some_iff_append.1 hfa).2
          have hb := gb.1
          rw [h1] at hb
          have hsf : sortedA (l8 ++ a :: l9) := by rw [← h1]; exact hs.filter _
          rcases List.mem_append.1 hb with hb | hb
          · have := h2 b hb
            rw [gb.2] at this
            cases this
          · rcases List.mem_cons.1 hb with hb | hb
            · exact absurd hb e
            · exact (List.pairwise_cons.1 (List.pairwise_append.1 hsf).2.1).1 b hb
end Go.Proofs.Ytaicemjckagcaaa

/- Closed walks, plain: the shortest of all; it meets no node twice. -/
namespace Go.Proofs.Ytaicemjckagcaaa
set_option linter.unusedVariables false
open Go.RowKit
/-- an arc's node is met in a walk: the walk is parted there -/
theorem okW_part {p : List HArc} {least : Int} : ∀ {l : List HArc} {u v : Int} {a : HArc}, okW p least u l v → a ∈ l → ∃ l1 l2, l = l1 ++ a :: l2 ∧ okW p least u l1 a.f ∧ okW p least a.f (a :: l2) v
  | [], u, v, a, h, ha => by cases ha
  | b :: l, u, v, a, h, ha => by
    rcases List.mem_cons.1 ha with rfl | ha
    · exact ⟨[], l, rfl, h.2.1.symm, by rw [h.2.1]; exact h⟩
    · obtain ⟨l1, l2, e, h1, h2⟩ := okW_part h.2.2.2 ha
      exact ⟨b :: l1, l2, by rw [e]; rfl, ⟨h.1, h.2.1, h.2.2.1, h1⟩, h2⟩
theorem okW_mem {p : List HArc} {least : Int} : ∀ {l : List HArc} {u v : Int}, okW p least u l v → ∀ a ∈ l, a ∈ p
  | [], _, _, _, a, ha => by cases ha
  | b :: l, u, v, h, a, ha => by
    rcases List.mem_cons.1 ha with rfl | ha
    · exact h.1
    · exact okW_mem h.2.2.2 a ha
theorem okW_raise {p : List HArc} {least least' : Int} : ∀ {l : List HArc} {u v : Int}, okW p least u l v → (∀ a ∈ l, least' ≤ a.f) → okW p least' u l v
  | [], _, _, h, _ => h
  | b :: l, u, v, h, hl => ⟨h.1, h.2.1, by have := hl b List.mem_cons_self; have := h.2.1; omega, okW_raise h.2.2.2 (fun a ha => hl a (List.mem_cons_of_mem _ ha))⟩
theorem least_arc : ∀ {l : List HArc}, l ≠ [] → ∃ a ∈ l, ∀ b ∈ l, a.f ≤ b.f
  | [], h => absurd rfl h
  | [a], _ => ⟨a, List.mem_singleton.2 rfl, fun b hb => by rw [List.mem_singleton] at hb; rw [hb]; exact Int.le_refl _⟩
  | a :: c :: l, _ => by
    obtain ⟨m, hm, hl⟩ := least_arc (l := c :: l) (by simp)
    by_cases h : a.f ≤ m.f
    · refine ⟨a, List.mem_cons_self, fun b hb => ?_⟩
      rcases List.mem_cons.1 hb with rfl | hb
      · exact Int.le_refl _
      · have := hl b hb; omega
    · refine ⟨m, List.mem_cons_of_mem _ hm, fun b hb => ?_⟩
      rcases List.mem_cons.1 hb with rfl | hb
      · omega
      · exact hl b hb
/-- a closed walk, turned to its least node -/
theorem closed_turn {p : List HArc} {must least u : Int} {c : List HArc} (h : okW p least u c u) (hc : c ≠ []) : ∃ v c', c' ≠ [] ∧ okW p v v c' v ∧ c'.length = c.length ∧ hasM must c' = hasM must c ∧ ∃ a ∈ c, v = a.f := by
  obtain ⟨a, ha, hmin⟩ := least_arc hc
  obtain ⟨l1, l2, e, h1, h2⟩ := okW_part h ha
  subst e
  refine ⟨a.f, (a :: l2) ++ l1, by simp, ?_, by simp only [List.length_append, List.length_cons]; omega, by rw [hasM_append, hasM_append, Bool.or_comm], a, ha, rfl⟩
  refine okW_raise (okW_append h2 h1) fun b hb => hmin b ?_
  rcases List.mem_append.1 hb with hb | hb
  · exact List.mem_append_right _ hb
  · exact List.mem_append_left _ hb
/-- the first of the shortest closed walks, over the nodes up to one: its node is not told -/
def bestW (ks : Int → Int) (ws : Int → List HArc) : Nat → List HArc
  | 0 => []
  | n + 1 => if (decide (0 < ks (n : Int)) && (bestW ks ws n == [] || decide (ks (n : Int) < ((bestW ks ws n).length : Int)))) = true then ws (n : Int) else bestW ks ws n
theorem bestW_spec (ks : Int → Int) (ws : Int → List HArc) (h : ∀ i : Int, 0 < ks i → ((ws i).length : Int) = ks i) :
    ∀ n : Nat, (bestW ks ws n = [] ∧ ∀ i : Nat, i < n → ¬ 0 < ks (i : Int)) ∨
      (∃ i : Nat, i < n ∧ 0 < ks (i : Int) ∧ bestW ks ws n = ws (i : Int) ∧ (∀ j : Nat, j < n → 0 < ks (j : Int) → ks (i : Int) ≤ ks (j : Int)) ∧ ∀ j : Nat, j < i → ¬ (0 < ks (j : Int) ∧ ks (j : Int) ≤ ks (i : Int)))
  | 0 => .inl ⟨rfl, fun i hi => by omega⟩
  | n + 1 => by
    have ih := bestW_spec ks ws h n
    by_cases hc : (decide (0 < ks (n : Int)) && (bestW ks ws n == [] || decide (ks (n : Int) < ((bestW ks ws n).length : Int)))) = true
    · have e : bestW ks ws (n + 1) = ws (n : Int) := if_pos hc
      rw [Bool.and_eq_true, decide_eq_true_eq, Bool.or_eq_true, beq_iff_eq, decide_eq_true_eq] at hc
      refine .inr ⟨n, by omega, hc.1, e, fun j hj h0 => ?_, fun j hj hk => ?_⟩
      · rcases ih with ⟨h1, h2⟩ | ⟨i, hi, h0i, h1, h2, h3⟩
        · have : j = n := by
            rcases Nat.lt_or_ge j n with e2 | e2
            · exact absurd h0 (h2 j e2)
            · omega
          subst this
          exact Int.le_refl _
        · have hl := h (i : Int) h0i
          rw [← h1] at hl
          rcases hc.2 with e2 | e2
          · rw [e2] at hl; simp at hl; omega
          · rcases Nat.lt_or_ge j n with e3 | e3
            · have := h2 j e3 h0; omega
            · have : j = n := by omega
              subst this
              exact Int.le_refl _
      · rcases ih with ⟨h1, h2⟩ | ⟨i, hi, h0i, h1, h2, h3⟩
        · exact h2 j hj hk.1
        · have hl := h (i : Int) h0i
          rw [← h1] at hl
          have := h2 j hj hk.1
          rcases hc.2 with e2 | e2
          · rw [e2] at hl; simp at hl; omega
          · omega
    · have e : bestW ks ws (n + 1) = bestW ks ws n := if_neg hc
      rw [e]
      have hc' : ¬ (0 < ks (n : Int) ∧ (bestW ks ws n = [] ∨ ks (n : Int) < ((bestW ks ws n).length : Int))) := fun hx => hc (by
        rw [Bool.and_eq_true, decide_eq_true_eq, Bool.or_eq_true, beq_iff_eq, decide_eq_true_eq]
        exact hx)
      rcases ih with ⟨h1, h2⟩ | ⟨i, hi, h0i, h1, h2, h3⟩
      · refine .inl ⟨h1, fun i hi h0 => ?_⟩
        rcases Nat.lt_or_ge i n with e2 | e2
        · exact h2 i e2 h0
        · have : i = n := by omega
          subst this
          exact hc' ⟨h0, .inl h1⟩
      · refine .inr ⟨i, by omega, h0i, h1, fun j hj h0 => ?_, h3⟩
        rcases Nat.lt_or_ge j n with e2 | e2
        · exact h2 j e2 h0
        · have : j = n := by omega
          subst this
          have hl := h (i : Int) h0i
          rw [← h1] at hl
          rcases Classical.em (ks (j : Int) < ks (i : Int)) with e3 | e3
          · exact absurd ⟨h0, .inr (by omega)⟩ hc'
          · omega
theorem pair_split {c : List HArc} (h : ∀ l1 a l2 b l3, c = l1 ++ a :: (l2 ++ b :: l3) → a.f ≠ b.f) : c.Pairwise fun a b => a.f ≠ b.f := by
  induction c with
  | nil => exact List.Pairwise.nil
  | cons a l ih =>
    refine List.pairwise_cons.2 ⟨fun b hb => ?_, ih fun l1 x l2 y l3 e => h (a :: l1) x l2 y l3 (by rw [e]; rfl)⟩
    obtain ⟨l2, l3, e⟩ := List.append_of_mem hb
    exact h [] a l2 b l3 (by rw [e]; rfl)
/-- the shortest of all closed walks meets no node twice -/
theorem way_simple {p : List HArc} {must i : Int} {need : Bool} {c : List HArc} (hw : okW p i i c i) (hm : need = true → hasM must c = true)
    (hown : ∀ c', c' ≠ [] → okW p i i c' i → (need = true → hasM must c' = true) → c.length ≤ c'.length)
    (hall : ∀ v c', c' ≠ [] → okW p v v c' v → (need = true → hasM must c' = true) → c.length ≤ c'.length) : c.Pairwise fun a b => a.f ≠ b.f := by
  refine pair_split fun l1 a l2 b l3 e hab => ?_
  subst e
  obtain ⟨x, h1, h2⟩ := okW_split hw
  have ha : x = a.f := h2.2.1.symm
  subst ha
  have h3 : okW p i a.f ((a :: l2) ++ b :: l3) i := h2
  obtain ⟨y, h4, h5⟩ := okW_split h3
  have hb : y = b.f := h5.2.1.symm
  subst hb
  have hR : okW p i i (l1 ++ b :: l3) i := okW_append (by rw [← hab]; exact h1) h5
  have hS : okW p i b.f (a :: l2) b.f := by
    have := h4
    rw [hab] at this
    exact this
  have hlen : (l1 ++ b :: l3).length < (l1 ++ a :: (l2 ++ b :: l3)).length ∧ (a :: l2).length < (l1 ++ a :: (l2 ++ b :: l3)).length := by
    simp only [List.length_append, List.length_cons]
    omega
  by_cases hq : need = true → hasM must (l1 ++ b :: l3) = true
  · have := hown _ (by simp) hR hq
    omega
  · have hn : need = true := Classical.byContradiction fun h => hq (fun e => absurd e h)
    have hr : hasM must (l1 ++ b :: l3) = false := by
      have : ¬ hasM must (l1 ++ b :: l3) = true := fun e => hq (fun _ => e)
      simpa using this
    have hmm := hm hn
    rw [hasM_append] at hmm hr
    have e1 : a :: (l2 ++ b :: l3) = (a :: l2) ++ b :: l3 := rfl
    rw [e1, hasM_append] at hmm
    rw [Bool.or_eq_false_iff] at hr
    rw [hr.1, hr.2, Bool.false_or, Bool.or_false] at hmm
    obtain ⟨v, c', k1, k2, k3, k4, _⟩ := closed_turn (must := must) hS (by simp)
    have := hall v c' k1 k2 (fun _ => by rw [k4]; exact hmm)
    omega
end Go.Proofs.Ytaicemjckagcaaa

/- Ways: how far each node is, by walks with an arc of another mask. -/
namespace Go.Proofs.Ytaicemjckagcaaa
set_option linter.unusedVariables false
open Go.RowKit
/-- two rows of distances and the queue lie there, and a list that is gone through -/
def DQ2 (w : World) (ab g0 g1 qg N : Nat) (d : Int → Int) (qu : List Int) (A : Option Addr) (us : List Int) (W : World) : Prop :=
  ∃ F F2, Blk W ab 236 [.slice (some ⟨g0, 0, none⟩) N N, .slice (some ⟨g1, 0, none⟩) N N] ∧ Blk W g0 3 ((row0 N d 0).map (Value.int .i64)) ∧ Blk W g1 3 ((row0 N d 1).map (Value.int .i64)) ∧
    Que W F qg ((2 * N : Nat) : Int) qu ∧ (¬ F ab ∧ ¬ F g0 ∧ ¬ F g1) ∧ (ab ≠ g0 ∧ ab ≠ g1 ∧ g0 ≠ g1) ∧ (∀ i, F i → w.heap.size ≤ i) ∧ (w.heap.size ≤ ab ∧ w.heap.size ≤ g0 ∧ w.heap.size ≤ g1) ∧ Upd No w W ∧ Ints F2 W A us ∧
    (∀ i, F2 i → ¬ F i ∧ (i ≠ ab ∧ i ≠ g0 ∧ i ≠ g1) ∧ i < W.heap.size)
def gOf (g0 g1 : Nat) (h : Nat) : Nat := if h = 0 then g0 else g1
namespace DQ2
variable {w W W' : World} {ab g0 g1 qg N : Nat} {d : Int → Int} {qu us : List Int} {A : Option Addr}
theorem no (h : DQ2 w ab g0 g1 qg N d qu A us W) (k : Upd No W W') : DQ2 w ab g0 g1 qg N d qu A us W' := by
  obtain ⟨F, F2, a1, a2, a3, h2, h3, h9, h4, h5, h6, h7, h8⟩ := h
  exact ⟨F, F2, a1.upd k id, a2.upd k id, a3.upd k id, h2.upd k (fun _ _ => id), h3, h9, h4, h5, h6.trans k, h7.upd k (fun _ _ => id), fun i hi => ⟨(h8 i hi).1, (h8 i hi).2.1, Nat.lt_of_lt_of_le (h8 i hi).2.2 k.size⟩⟩
theorem upd (h : DQ2 w ab g0 g1 qg N d qu A us W) : Upd No w W := by
  obtain ⟨F, F2, a1, a2, a3, h2, h3, h9, h4, h5, h6, h7, h8⟩ := h
  exact h6
theorem row1 (h : DQ2 w ab g0 g1 qg N d qu A us W) : Blk W g1 3 ((row0 N d 1).map (Value.int .i64)) := by
  obtain ⟨F, F2, a1, a2, a3, h2, h3, h9, h4, h5, h6, h7, h8⟩ := h
  exact a3
theorem ge1 (h : DQ2 w ab g0 g1 qg N d qu A us W) : w.heap.size ≤ g1 := by
  obtain ⟨F, F2, a1, a2, a3, h2, h3, h9, h4, h5, h6, h7, h8⟩ := h
  exact h5.2.2
theorem arr (h : DQ2 w ab g0 g1 qg N d qu A us W) {k : Nat} (hk : k ≤ 1) : W.cell? ⟨ab, k, none⟩ = some (.slice (some ⟨gOf g0 g1 k, 0, none⟩) N N) := by
  obtain ⟨F, F2, a1, a2, a3, h2, h3, h9, h4, h5, h6, h7, h8⟩ := h
  have hk : k = 0 ∨ k = 1 := by omega
  rcases hk with rfl | rfl
  · exact a1.cell 0
  · exact a1.cell 1
theorem sl (h : DQ2 w ab g0 g1 qg N d qu A us W) : ∃ F2, Ints F2 W A us := by
  obtain ⟨F, F2, a1, a2, a3, h2, h3, h9, h4, h5, h6, h7, h8⟩ := h
  exact ⟨F2, h7⟩
theorem bare (h : DQ2 w ab g0 g1 qg N d qu A us W) : DQ2 w ab g0 g1 qg N d qu none [] W := by
  obtain ⟨F, F2, a1, a2, a3, h2, h3, h9, h4, h5, h6, h7, h8⟩ := h
  exact ⟨F, fun _ => False, a1, a2, a3, h2, h3, h9, h4, h5, h6, Ints.nil_, fun _ e => e.elim⟩
theorem list_ (h : DQ2 w ab g0 g1 qg N d qu A us W) {A' : Option Addr} {c' : Nat} {us' : List Int} (k : Upd No W W') (ho : W'.ownsRow W.heap.size 3 1 (.slice A' us'.length c') us'.length (us'.map (Value.int .i64))) : DQ2 w ab g0 g1 qg N d qu A' us' W' := by
  obtain ⟨F, F2, a1, a2, a3, h2, h3, h9, h4, h5, h6, h7, h8⟩ := h
  have hI : Ints (fun i => W.heap.size ≤ i ∧ i < W'.heap.size) W' A' us' := fun hne => by
    obtain ⟨ad, e, hf, hl, hc⟩ := (Ints.of_own ho) hne
    exact ⟨ad, e, ⟨hf, hl⟩, hl, hc⟩
  have l1 := a1.lt
  have l2 := a2.lt
  have l3 := a3.lt
  refine ⟨F, _, a1.upd k id, a2.upd k id, a3.upd k id, h2.upd k (fun _ _ => id), h3, h9, h4, h5, h6.trans k, hI, fun i hi => ⟨fun e => ?_, ⟨fun e => ?_, fun e => ?_, fun e => ?_⟩, hi.2⟩⟩
  · have := h2.lt i e; omega
  · omega
  · omega
  · omega
theorem cell (h : DQ2 w ab g0 g1 qg N d qu A us W) {i k : Nat} (hk : k ≤ 1) (hi : i < N) : W.cell? ⟨gOf g0 g1 k, i, none⟩ = some (.int .i64 (d ((i : Int) * 2 + (k : Int)))) := by
  obtain ⟨F, F2, a1, a2, a3, h2, h3, h9, h4, h5, h6, h7, h8⟩ := h
  have hk : k = 0 ∨ k = 1 := by omega
  rcases hk with rfl | rfl
  · show W.cell? ⟨g0, i, none⟩ = _
    rw [a2.cell i, List.getElem?_map]
    unfold row0
    rw [rowD_at _ hi]
    rfl
  · show W.cell? ⟨g1, i, none⟩ = _
    rw [a3.cell i, List.getElem?_map]
    unfold row0
    rw [rowD_at _ hi]
    rfl
theorem free (h : DQ2 w ab g0 g1 qg N d qu A us W) {k : Nat} (hk : k ≤ 1) (i : Nat) : W.frozen? ⟨gOf g0 g1 k, i, none⟩ = false := by
  obtain ⟨F, F2, a1, a2, a3, h2, h3, h9, h4, h5, h6, h7, h8⟩ := h
  have hk : k = 0 ∨ k = 1 := by omega
  rcases hk with rfl | rfl
  · exact a2.free i
  · exact a3.free i
theorem set_ (h : DQ2 w ab g0 g1 qg N d qu A us W) {k u : Nat} (hk : k ≤ 1) (hu : u < N) (v : Int) : DQ2 w ab g0 g1 qg N (updF d ((u : Int) * 2 + (k : Int)) v) qu A us (W.setCell ⟨gOf g0 g1 k, u, none⟩ (.int .i64 v)) := by
  obtain ⟨F, F2, a1, a2, a3, h2, h3, h9, h4, h5, h6, h7, h8⟩ := h
  have hk : k = 0 ∨ k = 1 := by omega
  rcases hk with rfl | rfl
  · show DQ2 w ab g0 g1 qg N _ qu A us (W.setCell ⟨g0, u, none⟩ (.int .i64 v))
    have k := Upd.setOne (Upd.refl (One g0) W) u (.int .i64 v)
    refine ⟨F, F2, a1.upd k (fun e => h9.1 e), ?_, ?_, h2.upd k (fun i hi e => h3.2.1 (e ▸ hi)), h3, h9, h4, h5, h6.then_ k fun i e => .inr (by rw [e]; exact h5.2.1), h7.upd k (fun i hi e => (h8 i hi).2.1.2.1 e), fun i hi => ⟨(h8 i hi).1, (h8 i hi).2.1, Nat.lt_of_lt_of_le (h8 i hi).2.2 k.size⟩⟩
    · have := a2.set_ u (.int .i64 v)
      rw [← List.map_set, row0_set d (.inl rfl) v hu] at this
      exact this
    · have e : row0 N (updF d ((u : Int) * 2 + ((0 : Nat) : Int)) v) 1 = row0 N d 1 := row0_other d (.inl rfl) (.inr rfl) (by decide) v
      rw [e]
      exact a3.upd k (fun e => h9.2.2 e.symm)
  · show DQ2 w ab g0 g1 qg N _ qu A us (W.setCell ⟨g1, u, none⟩ (.int .i64 v))
    have k := Upd.setOne (Upd.refl (One g1) W) u (.int .i64 v)
    refine ⟨F, F2, a1.upd k (fun e => h9.2.1 e), ?_, ?_, h2.upd k (fun i hi e => h3.2.2 (e ▸ hi)), h3, h9, h4, h5, h6.then_ k fun i e => .inr (by rw [e]; exact h5.2.2), h7.upd k (fun i hi e => (h8 i hi).2.1.2.2 e), fun i hi => ⟨(h8 i hi).1, (h8 i hi).2.1, Nat.lt_of_lt_of_le (h8 i hi).2.2 k.size⟩⟩
    · have e : row0 N (updF d ((u : Int) * 2 + ((1 : Nat) : Int)) v) 0 = row0 N d 0 := row0_other d (.inr rfl) (.inl rfl) (by decide) v
      rw [e]
      exact a2.upd k (fun e => h9.2.2 e)
    · have := a3.set_ u (.int .i64 v)
      rw [← List.map_set, row0_set d (.inr rfl) v hu] at this
      exact this
theorem push (h : DQ2 w ab g0 g1 qg N d qu A us W) (hN : N ≤ 32768) (hf : qu.length < 2 * N) (u : Int) : Calls Try.prog 165 #[.pointer (some ⟨qg, 0, none⟩), .int .i64 u] W fun e w' => e = .returned (.int .i64 0) ∧ DQ2 w ab g0 g1 qg N d (qu ++ [u]) A us w' := by
  obtain ⟨F, F2, a1, a2, a3, h2, h3, h9, h4, h5, h6, h7, h8⟩ := h
  refine (qpush W F qg ((2 * N : Nat) : Int) qu u h2 (by omega) (by omega) (by omega)).mono ?_
  rintro e w' ⟨rfl, F', hF', hq, hu⟩
  have hs := h6.size
  have hne : ∀ i, i < W.heap.size → ¬ F i → ¬ F' i := fun i hi hn e => by
    rcases hF' i e with e | e
    · exact hn e
    · omega
  refine ⟨rfl, F', F2, a1.upd hu h3.1, a2.upd hu h3.2.1, a3.upd hu h3.2.2, hq, ⟨hne ab a1.lt h3.1, hne g0 a2.lt h3.2.1, hne g1 a3.lt h3.2.2⟩, h9, fun i hi => ?_, h5, h6.then_ hu fun i e => .inr (h4 i e), h7.upd hu (fun i hi => (h8 i hi).1), fun i hi => ⟨hne i (h8 i hi).2.2 (h8 i hi).1, (h8 i hi).2.1, Nat.lt_of_lt_of_le (h8 i hi).2.2 hu.size⟩⟩
  rcases hF' i hi with e | e
  · exact h4 i e
  · omega
/-- what the next pop hands out -/
theorem popA (h : DQ2 w ab g0 g1 qg N d qu A us W) : Calls Try.prog 166 #[.pointer (some ⟨qg, 0, none⟩)] W fun e w' => ∃ x b qu', e = .returned (.tuple #[.int .i64 x, .bool b]) ∧ DQ2 w ab g0 g1 qg N d qu' A us w' ∧ (if b = true then qu = x :: qu' else qu = [] ∧ qu' = []) := by
  have h' := h
  obtain ⟨F, F2, a1, a2, a3, h2, h3, h9, h4, h5, h6, h7, h8⟩ := h
  cases qu with
  | nil =>
    refine (qpop_none W F qg ((2 * N : Nat) : Int) h2).mono ?_
    rintro e w' ⟨rfl, rfl⟩
    exact ⟨0, false, [], rfl, h', by simp⟩
  | cons x qu =>
    refine (qpop W F qg ((2 * N : Nat) : Int) x qu h2).mono ?_
    rintro e w' ⟨rfl, hq, hu⟩
    exact ⟨x, true, qu, rfl, ⟨F, F2, a1.upd hu h3.1, a2.upd hu h3.2.1, a3.upd hu h3.2.2, hq, h3, h9, h4, h5, h6.then_ hu fun i e => .inr (h4 i e), h7.upd hu (fun i hi => (h8 i hi).1), fun i hi => ⟨(h8 i hi).1, (h8 i hi).2.1, Nat.lt_of_lt_of_le (h8 i hi).2.2 hu.size⟩⟩, by simp⟩
end DQ2
end Go.Proofs.Ytaicemjckagcaaa
