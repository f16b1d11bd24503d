/- Orders, in plain words: what is told goes along, hl1 each id once, and none that goes along is ahead of it. -/
import Derived.Test.YtaicemjckagcaaaMbg
import Derived.Test.YtaicemjckagcaaaMbs
namespace Go.Proofs.Ytaicemjckagcaaa
set_option linter.unusedVariables false
open Go.RowKit
theorem idxS_eq (x : Int) : ∀ (l : List Int) (k : Nat), idxS x l k = if x ∈ l then ((k + l.idxOf x : Nat) : Int) else -1
  | [], _ => by simp [idxS]
  | y :: l, k => by
    rw [idxS_cons, idxS_eq x l (k + 1), List.idxOf_cons]
    by_cases h : y = x
    · subst h; simp
    · have h2 : (y == x) = false := by simpa using h
      rw [if_neg h, h2]
      by_cases h3 : x ∈ l
      · rw [if_pos h3, if_pos (List.mem_cons_of_mem _ h3)]; simp; omega
      · rw [if_neg h3, if_neg (by rw [List.mem_cons]; exact fun hh => hh.elim (fun e => h e.symm) h3)]
/-- the order goes along that edge -/
def AlongP (order : List Int) (e : Edge) : Prop := e.f ∈ order → e.t ∈ order → order.idxOf e.f < order.idxOf e.t
theorem along_iff (order : List Int) (e : Edge) : alongE order e = true ↔ AlongP order e := by
  unfold alongE AlongP
  rw [idxS_eq, idxS_eq]
  by_cases h1 : e.f ∈ order <;> by_cases h2 : e.t ∈ order <;> simp [h1, h2]
theorem all_along (order : List Int) (l : List Edge) : l.all (alongE order) = true ↔ ∀ e ∈ l, AlongP order e := by
  rw [List.all_eq_true]
  exact ⟨fun h e he => (along_iff _ _).1 (h e he), fun h e he => (along_iff _ _).2 (h e he)⟩
theorem free_iff (l : List Edge) (L : List Int) (x : Int) : freeE l L x = true ↔ ∀ e ∈ l, e.t = x → e.f ∉ L := by
  unfold freeE
  rw [List.all_eq_true]
  constructor
  · intro h e he h1 h2; have := h e he; simp [h1, h2] at this
  · intro h e he
    have := h e he
    simp only [Bool.not_eq_true', Bool.and_eq_false_iff, decide_eq_false_iff_not]
    by_cases h1 : e.t = x
    · exact Or.inr (this h1)
    · exact Or.inl h1
/-- one by one, the least that is free -/
def Goes (l : List Edge) : List Int → List Int → Prop
  | L, [] => L = []
  | L, x :: p => L.find? (freeE l L) = some x ∧ Goes l (L.erase x) p
theorem goes_of (l : List Edge) : ∀ (n : Nat) (L out a : List Int), n = L.length → ordA l n L out = some a → ∃ p, a = out ++ p ∧ Goes l L p
  | 0, L, out, a, hn, h => by
    have : L = [] := List.eq_nil_of_length_eq_zero hn.symm
    cases h
    exact ⟨[], by simp, this⟩
  | n + 1, L, out, a, hn, h => by
    unfold ordA at h
    cases hf : L.find? (freeE l L) with
    | none => rw [hf] at h; cases h
    | some x =>
      rw [hf] at h
      have hx := List.mem_of_find?_eq_some hf
      obtain ⟨p, hp, hg⟩ := goes_of l n (L.erase x) (out ++ [x]) a (by rw [List.length_erase_of_mem hx]; omega) h
      exact ⟨x :: p, by rw [hp]; simp, hf, hg⟩
theorem goes_perm (l : List Edge) : ∀ (p L : List Int), Goes l L p → p.Perm L
  | [], L, h => by rw [show L = [] from h]
  | x :: p, L, h => by
    have hx := List.mem_of_find?_eq_some h.1
    exact ((goes_perm l p _ h.2).cons x).trans (List.perm_cons_erase hx).symm
theorem goes_along (l : List Edge) : ∀ (p L : List Int), Goes l L p → L.Nodup → ∀ e ∈ l, AlongP p e
  | [], _, _, _, _, _ => fun h => by cases h
  | x :: p, L, h, hd, e, he => by
    intro h1 h2
    have hp := goes_perm l (x :: p) L h
    have hf := (free_iff l L x).1 (List.find?_some h.1) e he
    by_cases et : e.t = x
    · exact absurd (hp.mem_iff.1 h1) (hf et)
    · rw [List.idxOf_cons, List.idxOf_cons]
      have et2 : (x == e.t) = false := by rw [beq_eq_false_iff_ne]; exact fun h => et h.symm
      rw [et2]
      by_cases ef : e.f = x
      · have : (x == e.f) = true := by rw [beq_iff_eq]; exact ef.symm
        rw [this]; simp
      · have ef2 : (x == e.f) = false := by rw [beq_eq_false_iff_ne]; exact fun h => ef h.symm
        rw [ef2]
        have h3 := goes_along l p _ h.2 (hd.erase x) e he ((List.mem_cons.1 h1).resolve_left ef) ((List.mem_cons.1 h2).resolve_left et)
        simpa using h3
/-- the first difference, if there is one, is for the first -/
def lexF : List Int → List Int → Bool
  | x :: p, y :: q => if x = y then lexF p q else decide (x < y)
  | _, _ => true
theorem goes_first (l : List Edge) : ∀ (p q L : List Int), Goes l L p → L.Pairwise (· < ·) → q.Perm L → (∀ e ∈ l, AlongP q e) → lexF p q = true
  | [], _, _, _, _, _, _ => rfl
  | _ :: _, [], _, _, _, _, _ => rfl
  | x :: p, y :: q, L, h, hr, hq, ha => by
    have hd : (y :: q).Nodup := hq.nodup_iff.2 (rise_nodup hr)
    have hyL : y ∈ L := hq.mem_iff.1 (List.mem_cons_self ..)
    have hfy : freeE l L y = true := (free_iff l L y).2 fun e he h1 h2 => by
      have h3 := ha e he (hq.mem_iff.2 h2) (by rw [h1]; exact List.mem_cons_self ..)
      rw [h1] at h3
      simp at h3
    show (if x = y then lexF p q else decide (x < y)) = true
    by_cases e : x = y
    · subst e
      rw [if_pos rfl]
      refine goes_first l p q _ h.2 (hr.sublist List.erase_sublist) (List.cons_perm_iff_perm_erase.1 hq).2 fun e he h1 h2 => ?_
      have h3 := ha e he (List.mem_cons_of_mem _ h1) (List.mem_cons_of_mem _ h2)
      have hn := (List.nodup_cons.1 hd).1
      have e1 : (x == e.f) = false := by rw [beq_eq_false_iff_ne]; exact fun hh => hn (hh ▸ h1)
      have e2 : (x == e.t) = false := by rw [beq_eq_false_iff_ne]; exact fun hh => hn (hh ▸ h2)
      rw [List.idxOf_cons, List.idxOf_cons, e1, e2] at h3
      simpa using h3
    · rw [if_neg e]
      have hx := h.1
      rw [List.find?_eq_some_iff_append] at hx
      obtain ⟨_, l1, l2, rfl, hl1⟩ := hx
      rcases List.mem_append.1 hyL with h4 | h4
      · have := hl1 y h4; rw [hfy] at this; simp at this
      · rcases List.mem_cons.1 h4 with h5 | h5
        · exact absurd h5.symm e
        · simpa using (List.pairwise_cons.1 (List.pairwise_append.1 hr).2.1).1 y h5
theorem along_has (l : List Edge) (order : List Int) (ha : ∀ e ∈ l, AlongP order e) (L : List Int) (hs : ∀ x ∈ L, x ∈ order) (hn : L ≠ []) : ∃ x ∈ L, freeE l L x = true := by
  have key : ∀ n, (∃ x ∈ L, order.idxOf x ≤ n) → ∃ x ∈ L, ∀ y ∈ L, order.idxOf x ≤ order.idxOf y := fun n => by
    induction n with
    | zero => rintro ⟨x, hx, h⟩; exact ⟨x, hx, fun y _ => by omega⟩
    | succ n ih =>
      rintro ⟨x, hx, h⟩
      by_cases h2 : ∃ x ∈ L, order.idxOf x ≤ n
      · exact ih h2
      · refine ⟨x, hx, fun y hy => ?_⟩
        have h3 : ¬ order.idxOf y ≤ n := fun hh => h2 ⟨y, hy, hh⟩
        omega
  obtain ⟨z, hz⟩ := List.exists_mem_of_ne_nil L hn
  obtain ⟨x, hx, hm⟩ := key _ ⟨z, hz, Nat.le_refl _⟩
  refine ⟨x, hx, (free_iff l L x).2 fun e he h1 h2 => ?_⟩
  have h3 := ha e he (hs _ h2) (by rw [h1]; exact hs _ hx)
  have h4 := hm e.f h2
  rw [h1] at h3
  omega
theorem along_some (l : List Edge) (order : List Int) (ha : ∀ e ∈ l, AlongP order e) : ∀ (n : Nat) (L out : List Int), n = L.length → (∀ x ∈ L, x ∈ order) → ordA l n L out ≠ none
  | 0, _, _, _, _ => fun h => by cases h
  | n + 1, L, out, hn, hs => by
    unfold ordA
    obtain ⟨x, hx, hf⟩ := along_has l order ha L hs (fun h => by rw [h] at hn; cases hn)
    cases hq : L.find? (freeE l L) with
    | none => rw [List.find?_eq_none] at hq; exact absurd hf (hq x hx)
    | some y =>
      have hy := List.mem_of_find?_eq_some hq
      exact along_some l order ha n _ _ (by rw [List.length_erase_of_mem hy]; omega) fun z hz => hs z (List.mem_of_mem_erase hz)
/-- what is known of the order that is told -/
theorem ordD_some {ids : List Int} {l : List Edge} {a : List Int} (h : ordD ids l = some a) : Goes l (setK ids) a := by
  obtain ⟨p, hp, hg⟩ := goes_of l _ _ _ _ rfl h
  rw [List.nil_append] at hp
  rw [hp]; exact hg
theorem ordD_none {ids : List Int} {l : List Edge} (h : ordD ids l = none) : l.all (alongE ids) = false := by
  cases hc : l.all (alongE ids) with
  | false => rfl
  | true => exact absurd h (along_some l ids ((all_along ids l).1 hc) _ _ _ rfl fun x hx => (mem_setK ids x).1 hx)
theorem ordD_mem {ids : List Int} {l : List Edge} {a : List Int} (h : ordD ids l = some a) (x : Int) : x ∈ a ↔ x ∈ ids := by
  rw [(goes_perm _ _ _ (ordD_some h)).mem_iff, mem_setK]
theorem ordD_nodup {ids : List Int} {l : List Edge} {a : List Int} (h : ordD ids l = some a) : a.Nodup := (goes_perm _ _ _ (ordD_some h)).nodup_iff.2 (rise_nodup (setK_lt ids))
theorem ordD_along {ids : List Int} {l : List Edge} {a : List Int} (h : ordD ids l = some a) : l.all (alongE a) = true := (all_along _ _).2 (goes_along _ _ _ (ordD_some h) (rise_nodup (setK_lt ids)))
theorem perm_of_len : ∀ (a q : List Int), a.Nodup → (∀ x ∈ a, x ∈ q) → q.length = a.length → q.Perm a
  | [], q, _, _, hl => by rw [List.eq_nil_of_length_eq_zero hl]
  | x :: a, q, hd, hs, hl => by
    have hx := hs x (List.mem_cons_self ..)
    have hn := List.nodup_cons.1 hd
    refine (List.perm_cons_erase hx).trans (List.Perm.cons x (perm_of_len a _ hn.2 (fun y hy => ?_) ?_))
    · rw [List.mem_erase_of_ne (fun e : y = x => hn.1 (e ▸ hy))]; exact hs y (List.mem_cons_of_mem _ hy)
    · rw [List.length_erase_of_mem hx, hl]; rfl
theorem ordD_first {ids : List Int} {l : List Edge} {a : List Int} (h : ordD ids l = some a) (hl : a.length = ids.length) (ha : l.all (alongE ids) = true) : lexF a ids = true := by
  have hg := ordD_some h
  refine goes_first l a ids _ hg (setK_lt ids) ?_ ((all_along _ _).1 ha)
  exact (perm_of_len a ids (ordD_nodup h) (fun x hx => (ordD_mem h x).1 hx) hl.symm).trans (goes_perm _ _ _ hg)
end Go.Proofs.Ytaicemjckagcaaa

/- Orders and closed walks, in plain words: there is an order just if no closed walk goes through the ids. -/
namespace Go.Proofs.Ytaicemjckagcaaa
set_option linter.unusedVariables false
open Go.RowKit
end Go.Proofs.Ytaicemjckagcaaa
