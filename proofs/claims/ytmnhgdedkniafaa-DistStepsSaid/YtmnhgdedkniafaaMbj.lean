/- Digraphs, plain: arcs in order, and the rows that hold them. -/
import Derived.Test.YtmnhgdedkniafaaMap
import Derived.Test.YtmnhgdedkniafaaMbi
namespace Go.Proofs.Ytmnhgdedkniafaa
set_option linter.unusedVariables false
open Go.RowKit
/-! lists in strict order -/
theorem eq_of_strict {α : Type} {r : α → α → Prop} (irr : ∀ a, ¬ r a a) (tr : ∀ a b c, r a b → r b c → r a c) : ∀ {l m : List α}, l.Pairwise r → m.Pairwise r → (∀ x, x ∈ l ↔ x ∈ m) → l = m
  | [], [], _, _, _ => rfl
  | [], b :: m, _, _, h => absurd ((h b).2 List.mem_cons_self) (by simp)
  | a :: l, [], _, _, h => absurd ((h a).1 List.mem_cons_self) (by simp)
  | a :: l, b :: m, hl, hm, h => by
    have hl' := List.pairwise_cons.1 hl
    have hm' := List.pairwise_cons.1 hm
    have hab : a = b := by
      rcases List.mem_cons.1 ((h a).1 List.mem_cons_self) with e | e
      · exact e
      rcases List.mem_cons.1 ((h b).2 List.mem_cons_self) with f | f
      · exact f.symm
      exact absurd (tr _ _ _ (hm'.1 a e) (hl'.1 b f)) (irr b)
    subst hab
    have : l = m := eq_of_strict irr tr hl'.2 hm'.2 fun x => by
      constructor
      · intro hx
        rcases List.mem_cons.1 ((h x).1 (List.mem_cons_of_mem _ hx)) with e | e
        · subst e; exact absurd (hl'.1 x hx) (irr x)
        · exact e
      · intro hx
        rcases List.mem_cons.1 ((h x).2 (List.mem_cons_of_mem _ hx)) with e | e
        · subst e; exact absurd (hm'.1 x hx) (irr x)
        · exact e
    rw [this]
theorem rises_eq {l m : List Int} (hl : l.Pairwise (· < ·)) (hm : m.Pairwise (· < ·)) (h : ∀ x, x ∈ l ↔ x ∈ m) : l = m :=
  eq_of_strict (r := (· < ·)) (fun a => by omega) (fun a b c => by omega) hl hm h
theorem lessA_iff (a b : HArc) : lessA a b = true ↔ a.f < b.f ∨ (a.f = b.f ∧ (a.kind < b.kind ∨ (a.kind = b.kind ∧ (a.label < b.label ∨ (a.label = b.label ∧ a.t < b.t))))) := by
  unfold lessA
  split
  · split
    · split
      · simp_all
      · simp_all
    · simp_all
  · simp_all
theorem lessA_irr (a : HArc) : ¬ lessA a a = true := by rw [lessA_iff]; omega
theorem lessA_trans (a b c : HArc) (h : lessA a b = true) (k : lessA b c = true) : lessA a c = true := by rw [lessA_iff] at *; omega
theorem lessA_tri (a b : HArc) (h : ¬ lessA a b = true) (k : a ≠ b) : lessA b a = true := by
  rw [lessA_iff] at *
  have : ¬ (a.f = b.f ∧ a.kind = b.kind ∧ a.label = b.label ∧ a.t = b.t) := by
    rintro ⟨e1, e2, e3, e4⟩
    obtain ⟨af, at', ak, al⟩ := a
    obtain ⟨bf, bt, bk, bl⟩ := b
    simp only at e1 e2 e3 e4
    subst e1 e2 e3 e4
    exact k rfl
  omega
def sortedA (q : List HArc) : Prop := q.Pairwise fun a b => lessA a b = true
theorem sortedA_eq {l m : List HArc} (hl : sortedA l) (hm : sortedA m) (h : ∀ x, x ∈ l ↔ x ∈ m) : l = m := eq_of_strict lessA_irr lessA_trans hl hm h
def putA (a : HArc) : List HArc → List HArc
  | [] => [a]
  | x :: l => if lessA x a = true then x :: putA a l else a :: (x :: l).filter (fun y => !(y == a))
theorem mem_putA (a b : HArc) : ∀ l, b ∈ putA a l ↔ b = a ∨ b ∈ l
  | [] => by simp [putA]
  | x :: l => by
    have ih := mem_putA a b l
    unfold putA
    split
    · simp only [List.mem_cons, ih]; grind
    · rw [List.mem_cons, List.mem_filter]
      by_cases h : b = a <;> simp [h]
theorem putA_sorted (a : HArc) : ∀ l, sortedA l → sortedA (putA a l)
  | [], _ => by simp [putA, sortedA]
  | x :: l, h => by
    have h' := List.pairwise_cons.1 h
    unfold putA
    split
    · rename_i hx
      refine List.pairwise_cons.2 ⟨fun b hb => ?_, putA_sorted a l h'.2⟩
      rcases (mem_putA a b l).1 hb with rfl | h2
      · exact hx
      · exact h'.1 b h2
    · rename_i hx
      refine List.pairwise_cons.2 ⟨fun b hb => ?_, h.filter _⟩
      rw [List.mem_filter] at hb
      have h1 : b ≠ a := by simpa using hb.2
      by_cases hxa : x = a
      · subst hxa
        rcases List.mem_cons.1 hb.1 with rfl | h2
        · exact absurd rfl h1
        · exact h'.1 b h2
      · have h3 := lessA_tri x a hx hxa
        rcases List.mem_cons.1 hb.1 with rfl | h2
        · exact h3
        · exact lessA_trans _ _ _ h3 (h'.1 b h2)
theorem putA_len (a : HArc) (l : List HArc) : (putA a l).length ≤ l.length + 1 := by
  induction l with
  | nil => simp [putA]
  | cons x l ih =>
    unfold putA
    split
    · simp only [List.length_cons] at *; omega
    · have := List.length_filter_le (fun y => !(y == a)) (x :: l)
      simp only [List.length_cons] at *; omega
theorem putA_new (a : HArc) : ∀ l, a ∉ l → (putA a l).length = l.length + 1
  | [], _ => by simp [putA]
  | x :: l, h => by
    have ih := putA_new a l (fun e => h (List.mem_cons_of_mem _ e))
    unfold putA
    split
    · simp only [List.length_cons, ih]
    · rw [List.filter_eq_self.2 (fun y hy => by
        have : y ≠ a := fun e => h (e ▸ hy)
        simpa using this)]
      simp
/-- the nodes next to one, by the document -/
def nxS (node : Int) (back : Bool) (s : List Int) : List HArc → List Int
  | [] => s
  | x :: l => nxS node back (if back = true then (if x.t = node then putL x.f s else s) else (if x.f = node then putL x.t s else s)) l
def nxA (node : Int) (back : Bool) (p : List HArc) : List Int := nxS node back [] p
theorem mem_nxS (node : Int) (back : Bool) (v : Int) : ∀ (l : List HArc) (s : List Int), v ∈ nxS node back s l ↔ v ∈ s ∨ ∃ x ∈ l, (if back then x.t = node ∧ v = x.f else x.f = node ∧ v = x.t)
  | [], s => by simp [nxS]
  | x :: l, s => by
    show v ∈ nxS node back (if back = true then (if x.t = node then putL x.f s else s) else (if x.f = node then putL x.t s else s)) l ↔ _
    rw [mem_nxS node back v l]
    cases back
    · by_cases h : x.f = node <;> simp [h, mem_putL] <;> grind
    · by_cases h : x.t = node <;> simp [h, mem_putL] <;> grind
theorem nxS_lt (node : Int) (back : Bool) : ∀ (l : List HArc) (s : List Int), s.Pairwise (· < ·) → (nxS node back s l).Pairwise (· < ·)
  | [], _, h => h
  | x :: l, s, h => by
    show (nxS node back (if back = true then (if x.t = node then putL x.f s else s) else (if x.f = node then putL x.t s else s)) l).Pairwise (· < ·)
    apply nxS_lt node back l
    cases back
    · by_cases h2 : x.f = node
      · simpa [h2] using putL_lt _ _ h
      · simpa [h2] using h
    · by_cases h2 : x.t = node
      · simpa [h2] using putL_lt _ _ h
      · simpa [h2] using h
theorem nxS_len (node : Int) (back : Bool) : ∀ (l : List HArc) (s : List Int), (nxS node back s l).length ≤ s.length + l.length
  | [], s => by simp [nxS]
  | x :: l, s => by
    show (nxS node back (if back = true then (if x.t = node then putL x.f s else s) else (if x.f = node then putL x.t s else s)) l).length ≤ _
    have := nxS_len node back l (if back = true then (if x.t = node then putL x.f s else s) else (if x.f = node then putL x.t s else s))
    have h1 := putL_len x.f s
    have h2 := putL_len x.t s
    have : (if back = true then (if x.t = node then putL x.f s else s) else (if x.f = node then putL x.t s else s)).length ≤ s.length + 1 := by
      split <;> split <;> omega
    simp only [List.length_cons]
    omega
/-! rows of ends -/
theorem cmpD_irr (a : DEnd) : ¬ cmpD a a < 0 := by rw [cmpD_lt]; omega
theorem cmpD_tri (a b : DEnd) (h : ¬ cmpD a b < 0) (k : a ≠ b) : cmpD b a < 0 := by
  rw [cmpD_lt] at *
  have : ¬ (a.kind = b.kind ∧ a.label = b.label ∧ a.node = b.node) := by
    rintro ⟨e1, e2, e3⟩
    obtain ⟨ak, al, an⟩ := a
    obtain ⟨bk, bl, bn⟩ := b
    simp only at e1 e2 e3
    subst e1 e2 e3
    exact k rfl
  omega
theorem mem_putE (l : List DEnd) (e x : DEnd) : x ∈ putE l e ↔ x = e ∨ x ∈ l := by
  unfold putE insAt
  have := List.take_append_drop (posD l e) l
  have h2 : x ∈ l ↔ x ∈ l.take (posD l e) ∨ x ∈ l.drop (posD l e) := by rw [← List.mem_append, this]
  rw [h2]
  simp only [List.mem_append, List.mem_singleton]
  grind
theorem mem_take_lt {l : List DEnd} {p : Nat} {x : DEnd} (h : x ∈ l.take p) : ∃ k, ∃ hk : k < l.length, k < p ∧ l[k] = x := by
  obtain ⟨k, hk, rfl⟩ := List.mem_iff_getElem.1 h
  rw [List.length_take] at hk
  exact ⟨k, by omega, by omega, by simp⟩
theorem mem_drop_ge {l : List DEnd} {p : Nat} {x : DEnd} (h : x ∈ l.drop p) : ∃ k, ∃ hk : k < l.length, p ≤ k ∧ l[k] = x := by
  obtain ⟨k, hk, rfl⟩ := List.mem_iff_getElem.1 h
  rw [List.length_drop] at hk
  exact ⟨p + k, by omega, by omega, by simp⟩
theorem putE_rise {l : List DEnd} (h : riseD l) {e : DEnd} (hn : e ∉ l) : riseD (putE l e) := by
  have hp := posD_parts h e
  unfold putE insAt riseD
  rw [List.pairwise_append, List.pairwise_append]
  have h1 : (l.take (posD l e) ++ l.drop (posD l e)).Pairwise fun a b => cmpD a b < 0 := by rw [List.take_append_drop]; exact h
  rw [List.pairwise_append] at h1
  have hd : ∀ x ∈ l.drop (posD l e), cmpD e x < 0 := fun x hx => by
    obtain ⟨k, hk, hkp, rfl⟩ := mem_drop_ge hx
    exact cmpD_tri _ _ (fun e2 => by have := (hp.2 k hk).1 e2; omega) (fun e2 => hn (e2 ▸ List.getElem_mem hk))
  have ht : ∀ x ∈ l.take (posD l e), cmpD x e < 0 := fun x hx => by
    obtain ⟨k, hk, hkp, rfl⟩ := mem_take_lt hx
    exact (hp.2 k hk).2 hkp
  refine ⟨⟨h1.1, List.pairwise_singleton _ _, fun a ha b hb => ?_⟩, h1.2.1, fun a ha b hb => ?_⟩
  · rw [List.mem_singleton] at hb
    subst hb
    exact ht a ha
  · rcases List.mem_append.1 ha with ha | ha
    · exact h1.2.2 a ha b hb
    · rw [List.mem_singleton] at ha
      subst ha
      exact hd b hb
theorem takeE_rise {l : List DEnd} (h : riseD l) (e : DEnd) : riseD (takeE l e) := by
  unfold takeE delAt riseD
  have h1 : (l.take (posD l e) ++ l.drop (posD l e)).Pairwise fun a b => cmpD a b < 0 := by rw [List.take_append_drop]; exact h
  rw [List.pairwise_append] at h1
  rw [List.pairwise_append]
  have hs : (l.drop (posD l e + 1)).Sublist (l.drop (posD l e)) := by
    have : l.drop (posD l e + 1) = (l.drop (posD l e)).drop 1 := by rw [List.drop_drop]
    rw [this]; exact List.drop_sublist _ _
  exact ⟨h1.1, h1.2.1.sublist hs, fun a ha b hb => h1.2.2 a ha b (hs.subset hb)⟩
theorem mem_takeE {l : List DEnd} (h : riseD l) {e : DEnd} (hm : e ∈ l) (x : DEnd) : x ∈ takeE l e ↔ x ≠ e ∧ x ∈ l := by
  have hlt := posD_lt h hm
  have hat := isAt_mem h e
  rw [decide_eq_true hm] at hat
  have he : l[posD l e] = e := by
    unfold isAt at hat
    rw [List.getElem?_eq_getElem hlt] at hat
    exact (cmpD_eq _ _).1 (by simpa using hat)
  have hsplit : l = l.take (posD l e) ++ e :: l.drop (posD l e + 1) := by
    have h1 := List.take_append_drop (posD l e) l
    rw [List.drop_eq_getElem_cons hlt, he] at h1
    exact h1.symm
  have hpw : (l.take (posD l e) ++ e :: l.drop (posD l e + 1)).Pairwise fun a b => cmpD a b < 0 := by rw [← hsplit]; exact h
  rw [List.pairwise_append] at hpw
  have hc := List.pairwise_cons.1 hpw.2.1
  have hx : x ∈ l ↔ x ∈ l.take (posD l e) ∨ x = e ∨ x ∈ l.drop (posD l e + 1) := by
    conv => lhs; rw [hsplit]
    rw [List.mem_append, List.mem_cons]
  rw [hx]
  unfold takeE delAt
  rw [List.mem_append]
  constructor
  · rintro (h1 | h1)
    · exact ⟨fun e2 => cmpD_irr e (by have := hpw.2.2 x h1 e List.mem_cons_self; rwa [e2] at this), .inl h1⟩
    · exact ⟨fun e2 => cmpD_irr e (by have := hc.1 x h1; rwa [e2] at this), .inr (.inr h1)⟩
  · rintro ⟨h1, h2 | h2 | h2⟩
    · exact .inl h2
    · exact absurd h2 h1
    · exact .inr h2
end Go.Proofs.Ytmnhgdedkniafaa
